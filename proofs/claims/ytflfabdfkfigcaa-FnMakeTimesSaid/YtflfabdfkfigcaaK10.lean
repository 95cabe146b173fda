/- What these laws reach, joined by a program of this session: contracts (written by that program over the kit's print, or by hand) and plain lemmas. -/
import Derived.Deep.QuietTactic
import Derived.BigQuiet
import Derived.Test.YtflfabdfkfigcaaK1
import Derived.Test.YtflfabdfkfigcaaK2
import Derived.Test.YtflfabdfkfigcaaK3
import Derived.Test.YtflfabdfkfigcaaK4
import Derived.Test.YtflfabdfkfigcaaK5
namespace Go.Proofs.Ytflfabdfkfigcaa.P
open Go.RowKit Go.Proofs.YtflfabdfkfigcaaW.PrintWords Go.Proofs.YtflfabdfkfigcaaW.PrintLast Go.Proofs.YtflfabdfkfigcaaW.PrintMore
attribute [local go_sem] max2_int min2_int max_two min_two max_three min_three max_four min_four   -- for this text's walks alone
set_option linter.unusedVariables false
set_option linter.unusedSimpArgs false

/-! ### impl_set_below: function 52 -/
def impl_set_below.l0 : Nat → List Int → Int → Int → List Bool → List Bool → Option (List Int)
  | 0, _, _, _, _, _ => none
  | k + 1, x5, x7, x8, x554000, x554001 => if x8 < x7 then ((impl_set_has.f x554000 x554001 x8).bind fun t554 => (if t554 = true then (if x5.length < 17592186044416 then (impl_set_below.l0 k (x5 ++ [x8]) x7 (wrap64 (x8 + 1)) x554000 x554001) else (none)) else (impl_set_below.l0 k x5 x7 (wrap64 (x8 + 1)) x554000 x554001))) else (some x5)
def impl_set_below.f (k : Nat) (l0_0 : List Bool) (l0_1 : List Bool) (a1 : Int) : Option (List Int) := impl_set_below.l0 k ([] : List Int) a1 0 l0_0 l0_1
theorem impl_set_below.mono_l : ∀ k, (∀ y0 y1 y2 y3 y4, LeO (impl_set_below.l0 k y0 y1 y2 y3 y4) (impl_set_below.l0 (k + 1) y0 y1 y2 y3 y4))
  | 0 => fun _ _ _ _ _ r h => by simp [impl_set_below.l0] at h
  | k + 1 => by
    have ih0 := impl_set_below.mono_l k
    · intro y0 y1 y2 y3 y4
      unfold impl_set_below.l0
      repeat' first
      | (with_reducible exact ih0 _ _ _ _ _)
      | (with_reducible exact LeO.refl _)
      | (with_reducible exact LeO.none _)
      | (with_reducible refine LeO.ite ?_ ?_)
      | (with_reducible refine LeO.bind ?_ (fun _ => ?_))
      | exact ih0 _ _ _ _ _
      | exact LeO.none _
      | refine LeO.ite ?_ ?_
      | refine LeO.bind ?_ (fun _ => ?_)
theorem impl_set_below.mono : ∀ a0 a1 a2 k, LeO (impl_set_below.f k a0 a1 a2) (impl_set_below.f (k + 1) a0 a1 a2) := by
  intro a0 a1 a2 k
  have ih0 := impl_set_below.mono_l k
  unfold impl_set_below.f
  repeat' first
      | (with_reducible exact ih0 _ _ _ _ _)
      | (with_reducible exact LeO.refl _)
      | (with_reducible exact LeO.none _)
      | (with_reducible refine LeO.ite ?_ ?_)
      | (with_reducible refine LeO.bind ?_ (fun _ => ?_))
      | exact ih0 _ _ _ _ _
      | exact LeO.none _
      | refine LeO.ite ?_ ?_
      | refine LeO.bind ?_ (fun _ => ?_)
set_option maxHeartbeats 8000000 in
set_option maxRecDepth 100000 in
theorem impl_set_below.calls (k : Nat) (A0_0 : Option Addr) (c0_0 : Nat) (l0_0 : List Bool) (A0_1 : Option Addr) (c0_1 : Nat) (l0_1 : List Bool) (a1 : Int) (r : List Int) (w : World) (hr0_0 : Kd.C Kd.bool w A0_0 l0_0.length l0_0) (hc0_0 : l0_0.length ≤ c0_0) (hr0_1 : Kd.C Kd.bool w A0_1 l0_1.length l0_1) (hc0_1 : l0_1.length ≤ c0_1) (h : impl_set_below.f k l0_0 l0_1 a1 = some r) :
    Calls Try.prog 52 #[.agg #[.slice A0_0 l0_0.length c0_0, .slice A0_1 l0_1.length c0_1], .int .i64 a1] w fun e w' => ∃ v0_ : Value, e = .returned (v0_) ∧ Kd.R (Kd.int .i64) 3 w' w.heap.size (fun _ => True) v0_ r ∧ Below w.heap.size w w' := by
  have hu44 := Try.underlying44
  have HR0_0 := Aside0.mk hr0_0
  have HC0_0 := Aside0.mk hc0_0
  clear hr0_0 hc0_0
  have HR0_1 := Aside0.mk hr0_1
  have HC0_1 := Aside0.mk hc0_1
  clear hr0_1 hc0_1
  have HB := Aside0.mk (Below.refl w.heap.size w)
  have H : (impl_set_below.l0 k ([] : List Int) a1 0 l0_0 l0_1) = some r := h
  clear h
  have H' := Aside0.mk H
  clear H
  go_enter Try.func52, Try.ntmps52
  go_wp2_with (first | ((with_reducible refine gate_dst (N := 2) rfl ?_); refine box_event ?hg (N := 2) ?hd (cs := #[.slice A0_0 l0_0.length c0_0, .slice A0_1 l0_1.length c0_1]) (t := 44) ?hr ?_; (case hd => rfl); (case hg => rfl); (case hr => first | (go_simp; done) | (go_simp; rfl)); intro gb553 hg w3 hbox hb; have n0_ := Aside0.mk (below_step (by repeat (first | (with_reducible first | exact HB.out | apply below_alloc | apply pw_below_drewN | apply below_drew1) | exact HB.out)) hb); have n1_ := Aside0.mk (hbox); have n2_ := Aside0.mk ((by rw [hg]; exact (below_size (by repeat (first | (with_reducible first | exact HB.out | apply below_alloc | apply pw_below_drewN | apply below_drew1) | exact HB.out))) : w.heap.size ≤ gb553)); have n3_ := Aside0.mk ((by rw [hg]; exact (below_size (by repeat (first | (with_reducible first | exact HB.out | apply below_alloc | apply pw_below_drewN | apply below_drew1) | exact HB.out))) : w.heap.size ≤ gb553)); clear HB; have HB := n0_; have BK553 := n1_; have GW553 := n2_; have GE553 := n3_; clear n0_ n1_ n2_ n3_; clear hb hbox hg))
  go_loopg [5, 8] k (fun kq v5 v8 w' => ∃ (x5_1 : List Int) (x8_1 : Int), v8 = .int .i64 x8_1 ∧ Aside0 (impl_set_below.l0 kq x5_1 a1 x8_1 l0_0 l0_1 = some r) ∧ Aside0 (kq ≤ k) ∧ Aside0 (Kd.R (Kd.int .i64) 3 w' w.heap.size (fun _ => True) v5 x5_1) ∧ Aside0 (w'.heap[gb553]? = some (.cells #[(.slice A0_0 l0_0.length c0_0), (.slice A0_1 l0_1.length c0_1)] 44 (0, 0))) ∧ Aside0 (Below w.heap.size w w'))
  case atStart => exact ⟨(([] : List Int)), (0), (by first | rfl | (simp; done) | (simp [*]; done) | (simp [Int.tmod_eq_emod_of_nonneg]; done)), H', ⟨Nat.le_refl _⟩, ⟨by first | exact Kd.R_nil _ _ _ _ _ | exact Kd.N_nil _ _ _ _ _ | exact Kd.V_nil _ _ _ _ _ | exact Kd.Q_nil _ _ _ _ _ | exact Kd.S_nil _ _ _ _ _⟩, ⟨by (with_reducible repeat (first | refine blk_drewN ?_ _ | refine blk_drew ?_ | refine blk_alloc ?_ _)); exact BK553.out⟩, ⟨by repeat (first | (with_reducible first | exact HB.out | apply below_alloc | apply pw_below_drewN | apply below_drew1 | refine below_set ?_ GE553.out) | exact HB.out)⟩⟩
  case round =>
    clear H'
    try clear p2
    obtain ⟨x5_1, x8_1, rfl, HA, HK1, HO_5, BK553, HB⟩ := hrel
    cases gk with
    | zero => exact absurd HA.out (by simp [impl_set_below.l0])
    | succ k1 =>
      have H := HA.out
      clear HA
      simp only [impl_set_below.l0] at H
      by_cases c4 : x8_1 < a1
      · rw [if_pos c4] at H
        have c4b0 : decide (x8_1 < a1) = true := decide_eq_true c4
        clear c4
        replace H := Option.bind_eq_some_iff.mp H
        obtain ⟨t554, A50, H⟩ := H
        replace H : (if t554 = true then (if x5_1.length < 17592186044416 then (impl_set_below.l0 k1 (x5_1 ++ [x8_1]) a1 (wrap64 (x8_1 + 1)) l0_0 l0_1) else (none)) else (impl_set_below.l0 k1 x5_1 a1 (wrap64 (x8_1 + 1)) l0_0 l0_1)) = some r := H
        have A5 := Aside0.mk A50
        clear A50
        by_cases c6 : t554 = true
        · subst c6
          have H1 : (if x5_1.length < 17592186044416 then (impl_set_below.l0 k1 (x5_1 ++ [x8_1]) a1 (wrap64 (x8_1 + 1)) l0_0 l0_1) else (none)) = some r := by rw [if_pos rfl] at H; exact H
          clear H
          have H := H1
          clear H1
          by_cases c7 : x5_1.length < 17592186044416
          · rw [if_pos c7] at H
            have LMc7 := Aside0.mk c7
            clear c7
            obtain ⟨y555, hy555⟩ : ∃ y_ : List Int, y_ = (x5_1 ++ [x8_1]) := ⟨_, rfl⟩
            replace H : (impl_set_below.l0 k1 y555 a1 (wrap64 (x8_1 + 1)) l0_0 l0_1) = some r := by first | (rw [hy555]; with_reducible exact H) | (have H2_ := (Option.bind_some _ _).symm.trans H; rw [hy555]; with_reducible exact H2_) | (have H2_ := (Option.bind_some _ _).symm.trans H; with_reducible exact H2_) | with_reducible exact H | (rw [hy555]; exact H) | exact H
            have Ny555 := Aside0.mk hy555
            clear hy555
            have H' := Aside0.mk H
            clear H
            have hcz8_0 : wr.cell? ⟨gb553, 0, none⟩ = some (.slice A0_0 l0_0.length c0_0) := (blk_cell BK553.out 0).trans rfl
            have hcz8_1 : wr.cell? ⟨gb553, 1, none⟩ = some (.slice A0_1 l0_1.length c0_1) := (blk_cell BK553.out 1).trans rfl
            have hfz8_0 := blk_frozen BK553.out 0
            have hfz8_1 := blk_frozen BK553.out 1
            go_wp2_with (first | ((with_reducible refine gate_callee (f := 37) rfl ?_); refine goesL_ (some 13) rfl rfl Try.func37 (by kernel_rfl) rfl #[.agg #[.slice A0_0 l0_0.length c0_0, .slice A0_1 l0_1.length c0_1], .int .i64 x8_1] rfl (by (try simp only [List.map_toArray, List.map_cons, List.map_nil]); first | done | rfl | (simp only [List.length_drop, List.length_take]; rfl)) ?_; (with_reducible refine (impl_set_has.calls _ _ l0_0 _ _ l0_1 x8_1 true _ ?side1 ?side2 ?side3 ?side4 A5.out).mono ?_); (case side1 => repeat (first | exact (Kd.C_below HR0_0.out HB.out) | (with_reducible refine Kd.C_alloc ?_ _) | (with_reducible refine Kd.C_drewN ?_ _) | (with_reducible refine Kd.C_drew ?_))); (case side2 => exact HC0_0.out); (case side3 => repeat (first | exact (Kd.C_below HR0_1.out HB.out) | (with_reducible refine Kd.C_alloc ?_ _) | (with_reducible refine Kd.C_drewN ?_ _) | (with_reducible refine Kd.C_drew ?_))); (case side4 => exact HC0_1.out); rintro e w9 ⟨rfl, hb⟩; refine ⟨_, rfl, ?_⟩; have n0_ := Aside0.mk (Kd.R_below (by (with_reducible repeat (first | apply Kd.R_alloc | apply Kd.R_drewN | apply Kd.R_drew)); exact HO_5.out) hb); have n1_ := Aside0.mk (blk_below (g := gb553) (o := .cells #[.slice A0_0 l0_0.length c0_0, .slice A0_1 l0_1.length c0_1] 44 (0, 0)) (by (with_reducible repeat (first | refine blk_drewN ?_ _ | refine blk_drew ?_ | refine blk_alloc ?_ _)); exact BK553.out) hb); have n2_ := Aside0.mk (below_step (by repeat (first | (with_reducible first | exact HB.out | apply below_alloc | apply pw_below_drewN | apply below_drew1 | refine below_set ?_ GE553.out) | exact HB.out)) hb); clear HO_5; clear BK553; clear HB; have HO_5 := n0_; have BK553 := n1_; have HB := n2_; clear n0_ n1_ n2_; (try clear hb); (try clear hb2); (try clear hk); (try clear hi)) | ((with_reducible refine gate_builtin (b := .append) (xs := #[.tmp 14, .tmp 16]) rfl ?_); at_builtin; refine Kd.R_append (Kd.int .i64) (w0 := w) w.heap.size rfl (.tmp 14) (.tmp 16) 59 3 (.int .i64 0) 8 rfl Try.underlying59 info3 rfl (by decide) (by omega) u5 x5_1 x8_1 [.int .i64 x8_1] (fun _ => True) (fun _ => False) rfl rfl ?aP (fun _ hk => hk.elim) ?aF ?aO ?aB ?aS ?aL ?_; (case aP => exact rfl); (case aB => exact (by repeat (first | (with_reducible first | exact HB.out | apply below_alloc | apply pw_below_drewN | apply below_drew1 | refine below_set ?_ GE553.out) | exact HB.out))); (case aF => exact (fun _ _ => trivial)); (case aO => exact (by (with_reducible repeat (first | apply Kd.R_alloc | apply Kd.R_drewN | apply Kd.R_drew)); exact HO_5.out)); (case aS => exact (below_size (by repeat (first | (with_reducible first | exact HB.out | apply below_alloc | apply pw_below_drewN | apply below_drew1 | refine below_set ?_ GE553.out) | exact HB.out)))); (case aL => have := LMc7.out; omega); intro v556 w10 ho hb hg hat; rw [← Ny555.out] at ho; have n0_ := Aside0.mk (blk_grown (g := gb553) (o := .cells #[.slice A0_0 l0_0.length c0_0, .slice A0_1 l0_1.length c0_1] 44 (0, 0)) (by (with_reducible repeat (first | refine blk_drewN ?_ _ | refine blk_drew ?_ | refine blk_alloc ?_ _)); exact BK553.out) hg (Kd.R_ne HO_5.out BK553.out (by decide))); have n1_ := Aside0.mk (hb); have n2_ := Aside0.mk (ho); clear BK553; clear HB; clear HO_5; have BK553 := n0_; have HB := n1_; have HO557 := n2_; clear n0_ n1_ n2_; clear ho hb hg hat))
            go_roundg k1
            case measure => have := HK1.out; omega
            case rel => exact ⟨(y555), (wrap64 (x8_1 + 1)), (by first | rfl | (simp; done) | (simp [*]; done) | (simp [Int.tmod_eq_emod_of_nonneg]; done)), H', ⟨by have := HK1.out; omega⟩, ⟨by (with_reducible repeat (first | apply Kd.R_alloc | apply Kd.R_drewN | apply Kd.R_drew)); exact HO557.out⟩, ⟨by (with_reducible repeat (first | refine blk_drewN ?_ _ | refine blk_drew ?_ | refine blk_alloc ?_ _)); exact BK553.out⟩, ⟨by repeat (first | (with_reducible first | exact HB.out | apply below_alloc | apply pw_below_drewN | apply below_drew1 | refine below_set ?_ GE553.out) | exact HB.out)⟩⟩
          · rw [if_neg c7] at H
            exact absurd H (by simp)
        · replace c6 := Bool.eq_false_iff.mpr c6
          subst c6
          have H1 : (impl_set_below.l0 k1 x5_1 a1 (wrap64 (x8_1 + 1)) l0_0 l0_1) = some r := by rw [if_neg (show ¬ (false = true) by decide)] at H; exact H
          clear H
          have H := H1
          clear H1
          have H' := Aside0.mk H
          clear H
          have hcz11_0 : wr.cell? ⟨gb553, 0, none⟩ = some (.slice A0_0 l0_0.length c0_0) := (blk_cell BK553.out 0).trans rfl
          have hcz11_1 : wr.cell? ⟨gb553, 1, none⟩ = some (.slice A0_1 l0_1.length c0_1) := (blk_cell BK553.out 1).trans rfl
          have hfz11_0 := blk_frozen BK553.out 0
          have hfz11_1 := blk_frozen BK553.out 1
          go_wp2_with (first | ((with_reducible refine gate_callee (f := 37) rfl ?_); refine goesL_ (some 13) rfl rfl Try.func37 (by kernel_rfl) rfl #[.agg #[.slice A0_0 l0_0.length c0_0, .slice A0_1 l0_1.length c0_1], .int .i64 x8_1] rfl (by (try simp only [List.map_toArray, List.map_cons, List.map_nil]); first | done | rfl | (simp only [List.length_drop, List.length_take]; rfl)) ?_; (with_reducible refine (impl_set_has.calls _ _ l0_0 _ _ l0_1 x8_1 false _ ?side1 ?side2 ?side3 ?side4 A5.out).mono ?_); (case side1 => repeat (first | exact (Kd.C_below HR0_0.out HB.out) | (with_reducible refine Kd.C_alloc ?_ _) | (with_reducible refine Kd.C_drewN ?_ _) | (with_reducible refine Kd.C_drew ?_))); (case side2 => exact HC0_0.out); (case side3 => repeat (first | exact (Kd.C_below HR0_1.out HB.out) | (with_reducible refine Kd.C_alloc ?_ _) | (with_reducible refine Kd.C_drewN ?_ _) | (with_reducible refine Kd.C_drew ?_))); (case side4 => exact HC0_1.out); rintro e w12 ⟨rfl, hb⟩; refine ⟨_, rfl, ?_⟩; have n0_ := Aside0.mk (Kd.R_below (by (with_reducible repeat (first | apply Kd.R_alloc | apply Kd.R_drewN | apply Kd.R_drew)); exact HO_5.out) hb); have n1_ := Aside0.mk (blk_below (g := gb553) (o := .cells #[.slice A0_0 l0_0.length c0_0, .slice A0_1 l0_1.length c0_1] 44 (0, 0)) (by (with_reducible repeat (first | refine blk_drewN ?_ _ | refine blk_drew ?_ | refine blk_alloc ?_ _)); exact BK553.out) hb); have n2_ := Aside0.mk (below_step (by repeat (first | (with_reducible first | exact HB.out | apply below_alloc | apply pw_below_drewN | apply below_drew1 | refine below_set ?_ GE553.out) | exact HB.out)) hb); clear HO_5; clear BK553; clear HB; have HO_5 := n0_; have BK553 := n1_; have HB := n2_; clear n0_ n1_ n2_; (try clear hb); (try clear hb2); (try clear hk); (try clear hi)))
          go_roundg k1
          case measure => have := HK1.out; omega
          case rel => exact ⟨(x5_1), (wrap64 (x8_1 + 1)), (by first | rfl | (simp; done) | (simp [*]; done) | (simp [Int.tmod_eq_emod_of_nonneg]; done)), H', ⟨by have := HK1.out; omega⟩, ⟨by (with_reducible repeat (first | apply Kd.R_alloc | apply Kd.R_drewN | apply Kd.R_drew)); exact HO_5.out⟩, ⟨by (with_reducible repeat (first | refine blk_drewN ?_ _ | refine blk_drew ?_ | refine blk_alloc ?_ _)); exact BK553.out⟩, ⟨by repeat (first | (with_reducible first | exact HB.out | apply below_alloc | apply pw_below_drewN | apply below_drew1 | refine below_set ?_ GE553.out) | exact HB.out)⟩⟩
      · rw [if_neg c4] at H
        have c4b0 : decide (x8_1 < a1) = false := decide_eq_false c4
        clear c4
        obtain rfl := Option.some.inj H
        go_wp2
        go_ret
        exact ⟨_, by first | rfl | (simp [errW_none, errW_some] <;> rfl) | (simp [*, errW_none, errW_some] <;> rfl) | (simp [errW_none, errW_some]; exact ⟨rfl, rfl⟩), by (with_reducible repeat (first | apply Kd.R_alloc | apply Kd.R_drewN | apply Kd.R_drew)); exact HO_5.out, by repeat (first | (with_reducible first | exact HB.out | apply below_alloc | apply pw_below_drewN | apply below_drew1 | refine below_set ?_ GE553.out) | exact HB.out)⟩

end Go.Proofs.Ytflfabdfkfigcaa.P

namespace Go.Proofs.Ytflfabdfkfigcaa.P
open Go.RowKit Go.Proofs.YtflfabdfkfigcaaW.PrintWords Go.Proofs.YtflfabdfkfigcaaW.PrintLast Go.Proofs.YtflfabdfkfigcaaW.PrintMore
attribute [local go_sem] max2_int min2_int max_two min_two max_three min_three max_four min_four   -- for this text's walks alone
set_option linter.unusedVariables false
set_option linter.unusedSimpArgs false

/-! ### slices_Index_bool_bool: function 70 -/
def slices_Index_bool_bool.l0 : Nat → List Bool → Bool → Int → Int → Option (Int)
  | 0, _, _, _, _ => none
  | k + 1, x0, x1, x7, x8 => if x8 < x7 then (if 0 ≤ x8 then (if x8 < (x0.length : Int) then (if (x1 == (rdOf false x0 x8)) = true then (some x8) else (slices_Index_bool_bool.l0 k x0 x1 x7 (wrap64 (x8 + 1)))) else (none)) else (none)) else (some (-1))
def slices_Index_bool_bool.f (k : Nat) (l0 : List Bool) (a1 : Bool) : Option (Int) := slices_Index_bool_bool.l0 k l0 a1 (l0.length : Int) 0
theorem slices_Index_bool_bool.mono_l : ∀ k, (∀ y0 y1 y2 y3, LeO (slices_Index_bool_bool.l0 k y0 y1 y2 y3) (slices_Index_bool_bool.l0 (k + 1) y0 y1 y2 y3))
  | 0 => fun _ _ _ _ r h => by simp [slices_Index_bool_bool.l0] at h
  | k + 1 => by
    have ih0 := slices_Index_bool_bool.mono_l k
    · intro y0 y1 y2 y3
      unfold slices_Index_bool_bool.l0
      repeat' first
      | (with_reducible exact ih0 _ _ _ _)
      | (with_reducible exact LeO.refl _)
      | (with_reducible exact LeO.none _)
      | (with_reducible refine LeO.ite ?_ ?_)
      | (with_reducible refine LeO.bind ?_ (fun _ => ?_))
      | exact ih0 _ _ _ _
      | exact LeO.none _
      | refine LeO.ite ?_ ?_
      | refine LeO.bind ?_ (fun _ => ?_)
theorem slices_Index_bool_bool.mono : ∀ a0 a1 k, LeO (slices_Index_bool_bool.f k a0 a1) (slices_Index_bool_bool.f (k + 1) a0 a1) := by
  intro a0 a1 k
  have ih0 := slices_Index_bool_bool.mono_l k
  unfold slices_Index_bool_bool.f
  repeat' first
      | (with_reducible exact ih0 _ _ _ _)
      | (with_reducible exact LeO.refl _)
      | (with_reducible exact LeO.none _)
      | (with_reducible refine LeO.ite ?_ ?_)
      | (with_reducible refine LeO.bind ?_ (fun _ => ?_))
      | exact ih0 _ _ _ _
      | exact LeO.none _
      | refine LeO.ite ?_ ?_
      | refine LeO.bind ?_ (fun _ => ?_)
set_option maxHeartbeats 8000000 in
set_option maxRecDepth 100000 in
theorem slices_Index_bool_bool.calls (k : Nat) (A0 : Option Addr) (c0 : Nat) (l0 : List Bool) (a1 : Bool) (r : Int) (w : World) (hr0 : Kd.C Kd.bool w A0 l0.length l0) (hc0 : l0.length ≤ c0) (h : slices_Index_bool_bool.f k l0 a1 = some r) :
    Calls Try.prog 70 #[.slice A0 l0.length c0, .bool a1] w fun e w' => e = .returned (.int .i64 r) ∧ Drawn0 w w' := by
  have HR0 := Aside0.mk hr0
  have HC0 := Aside0.mk hc0
  clear hr0 hc0
  have H : (slices_Index_bool_bool.l0 k l0 a1 (l0.length : Int) 0) = some r := h
  clear h
  have H' := Aside0.mk H
  clear H
  go_enter Try.func70, Try.ntmps70
  go_wp2
  go_loopg [8] k (fun kq v8 w' => ∃ (x8_1 : Int), v8 = .int .i64 x8_1 ∧ Aside0 (slices_Index_bool_bool.l0 kq l0 a1 (l0.length : Int) x8_1 = some r) ∧ Aside0 (kq ≤ k) ∧ Drawn0 w w')
  case atStart => exact ⟨(0), (by first | rfl | (simp; done) | (simp [*]; done) | (simp [Int.tmod_eq_emod_of_nonneg]; done)), H', ⟨Nat.le_refl _⟩, by repeat (first | exact Drawn0.refl _ | apply Drawn0.step)⟩
  case round =>
    clear H'
    try clear p2
    obtain ⟨x8_1, rfl, HA, HK1, ⟨m1, rfl⟩⟩ := hrel
    cases gk with
    | zero => exact absurd HA.out (by simp [slices_Index_bool_bool.l0])
    | succ k1 =>
      have H := HA.out
      clear HA
      simp only [slices_Index_bool_bool.l0] at H
      by_cases c3 : x8_1 < (l0.length : Int)
      · rw [if_pos c3] at H
        have c3b0 : decide (x8_1 < (l0.length : Int)) = true := decide_eq_true c3
        clear c3
        by_cases c4 : 0 ≤ x8_1
        · rw [if_pos c4] at H
          have c4b0 : decide (0 ≤ x8_1) = true := decide_eq_true c4
          clear c4
          by_cases c5 : x8_1 < (l0.length : Int)
          · rw [if_pos c5] at H
            have c5b0 : decide (x8_1 < (l0.length : Int)) = true := decide_eq_true c5
            clear c5
            by_cases c6 : (a1 == (rdOf false l0 x8_1)) = true
            · rw [if_pos c6] at H
              have c6b0 : (a1 == (rdOf false l0 x8_1)) = true := c6
              (try (have c6b1 : decide (a1 = (rdOf false l0 x8_1)) = true := by simpa using c6))
              (try (have c6b2 : (a1 == (rdOf false l0 x8_1)) = true := by simpa using c6))
              clear c6
              obtain rfl := Option.some.inj H
              have p591 : 0 ≤ (x8_1 : Int) := of_decide_eq_true (by first | (with_reducible assumption) | assumption)
              have q591 : x8_1 < (l0.length : Int) := of_decide_eq_true (by first | (with_reducible assumption) | assumption)
              obtain ⟨ad591, e591, hx591_0⟩ := Kd.at_bool HR0.out x8_1 p591 q591
              cases e591
              replace p591 := eq_true p591
              replace q591 := eq_true q591
              go_wp2
              go_ret
              exact ⟨by first | rfl | (simp; done) | (simp [*]; done), by repeat (first | exact Drawn0.refl _ | apply Drawn0.step)⟩
            · rw [if_neg c6] at H
              have c6b0 : (a1 == (rdOf false l0 x8_1)) = false := by simpa using c6
              (try (have c6b1 : decide (a1 = (rdOf false l0 x8_1)) = false := by simpa using c6))
              (try (have c6b2 : (a1 == (rdOf false l0 x8_1)) = false := by simpa using c6))
              (try (have c6b3 : ¬ (a1 = (rdOf false l0 x8_1)) := by simpa using c6))
              clear c6
              have H' := Aside0.mk H
              clear H
              have p591 : 0 ≤ (x8_1 : Int) := of_decide_eq_true (by first | (with_reducible assumption) | assumption)
              have q591 : x8_1 < (l0.length : Int) := of_decide_eq_true (by first | (with_reducible assumption) | assumption)
              obtain ⟨ad591, e591, hx591_0⟩ := Kd.at_bool HR0.out x8_1 p591 q591
              cases e591
              replace p591 := eq_true p591
              replace q591 := eq_true q591
              go_wp2
              go_roundg k1
              case measure => have := HK1.out; omega
              case rel => exact ⟨(wrap64 (x8_1 + 1)), (by first | rfl | (simp; done) | (simp [*]; done) | (simp [Int.tmod_eq_emod_of_nonneg]; done)), H', ⟨by have := HK1.out; omega⟩, by repeat (first | exact Drawn0.refl _ | apply Drawn0.step)⟩
          · rw [if_neg c5] at H
            exact absurd H (by simp)
        · rw [if_neg c4] at H
          exact absurd H (by simp)
      · rw [if_neg c3] at H
        have c3b0 : decide (x8_1 < (l0.length : Int)) = false := decide_eq_false c3
        clear c3
        obtain rfl := Option.some.inj H
        go_wp2
        go_ret
        exact ⟨by first | rfl | (simp; done) | (simp [*]; done), by repeat (first | exact Drawn0.refl _ | apply Drawn0.step)⟩

end Go.Proofs.Ytflfabdfkfigcaa.P

namespace Go.Proofs.Ytflfabdfkfigcaa.P
open Go.RowKit Go.Proofs.YtflfabdfkfigcaaW.PrintWords Go.Proofs.YtflfabdfkfigcaaW.PrintLast Go.Proofs.YtflfabdfkfigcaaW.PrintMore
attribute [local go_sem] max2_int min2_int max_two min_two max_three min_three max_four min_four   -- for this text's walks alone
set_option linter.unusedVariables false
set_option linter.unusedSimpArgs false

/-! ### slices_Contains_bool_bool: function 56 -/
def slices_Contains_bool_bool.f (k : Nat) (l0 : List Bool) (a1 : Bool) : Option (Bool) := (slices_Index_bool_bool.f k l0 a1).bind fun t592 => (some (decide (t592 ≥ 0)))
theorem slices_Contains_bool_bool.mono : ∀ a0 a1 k, LeO (slices_Contains_bool_bool.f k a0 a1) (slices_Contains_bool_bool.f (k + 1) a0 a1) := by
  intro a0 a1 k
  unfold slices_Contains_bool_bool.f
  repeat' first
      | (with_reducible exact slices_Index_bool_bool.mono _ _ _)
      | (with_reducible exact LeO.refl _)
      | (with_reducible exact LeO.none _)
      | (with_reducible refine LeO.ite ?_ ?_)
      | (with_reducible refine LeO.bind ?_ (fun _ => ?_))
      | exact slices_Index_bool_bool.mono _ _ _
      | exact LeO.none _
      | refine LeO.ite ?_ ?_
      | refine LeO.bind ?_ (fun _ => ?_)
set_option maxHeartbeats 8000000 in
set_option maxRecDepth 100000 in
theorem slices_Contains_bool_bool.calls (k : Nat) (A0 : Option Addr) (c0 : Nat) (l0 : List Bool) (a1 : Bool) (r : Bool) (w : World) (hr0 : Kd.C Kd.bool w A0 l0.length l0) (hc0 : l0.length ≤ c0) (h : slices_Contains_bool_bool.f k l0 a1 = some r) :
    Calls Try.prog 56 #[.slice A0 l0.length c0, .bool a1] w fun e w' => e = .returned (.bool r) ∧ Drawn0 w w' := by
  have HR0 := Aside0.mk hr0
  have HC0 := Aside0.mk hc0
  clear hr0 hc0
  have H : ((slices_Index_bool_bool.f k l0 a1).bind fun t592 => (some (decide (t592 ≥ 0)))) = some r := h
  clear h
  replace H := Option.bind_eq_some_iff.mp H
  obtain ⟨t592, A30, H⟩ := H
  replace H : (some (decide (t592 ≥ 0))) = some r := H
  have A3 := Aside0.mk A30
  clear A30
  obtain rfl := Option.some.inj H
  go_enter Try.func56, Try.ntmps56
  go_wp2_with (first | ((with_reducible refine gate_callee (f := 70) rfl ?_); refine goesL_ (some 7) rfl rfl Try.func70 (by kernel_rfl) rfl #[.slice A0 l0.length c0, .bool a1] rfl (by (try simp only [List.map_toArray, List.map_cons, List.map_nil]); first | done | rfl | (simp only [List.length_drop, List.length_take]; rfl)) ?_; (with_reducible refine (slices_Index_bool_bool.calls k _ _ l0 a1 t592 _ ?side1 ?side2 A3.out).mono ?_); (case side1 => repeat (first | exact HR0.out | (with_reducible refine Kd.C_alloc ?_ _) | (with_reducible refine Kd.C_drewN ?_ _) | (with_reducible refine Kd.C_drew ?_))); (case side2 => exact HC0.out); rintro e w' ⟨rfl, ⟨nd, rfl⟩⟩; refine ⟨_, rfl, ?_⟩))
  go_ret
  exact ⟨by first | rfl | (simp; done) | (simp [*]; done), by repeat (first | exact Drawn0.refl _ | apply Drawn0.step)⟩

end Go.Proofs.Ytflfabdfkfigcaa.P

namespace Go.Proofs.Ytflfabdfkfigcaa.P
open Go.RowKit Go.Proofs.YtflfabdfkfigcaaW.PrintWords Go.Proofs.YtflfabdfkfigcaaW.PrintLast Go.Proofs.YtflfabdfkfigcaaW.PrintMore
attribute [local go_sem] max2_int min2_int max_two min_two max_three min_three max_four min_four   -- for this text's walks alone
set_option linter.unusedVariables false
set_option linter.unusedSimpArgs false

/-! ### impl_SetEnds: function 30 -/
def impl_SetEnds.f (k : Nat) (a0 : ByteArray) : Option (Bool) := (impl_setOf.f k a0).bind fun bt593 => (if bt593.2.2 = true then ((slices_Contains_bool_bool.f k bt593.2.1 true).bind fun t601 => (some (!t601))) else (some false))
theorem impl_SetEnds.mono : ∀ a0 k, LeO (impl_SetEnds.f k a0) (impl_SetEnds.f (k + 1) a0) := by
  intro a0 k
  unfold impl_SetEnds.f
  repeat' first
      | (with_reducible exact impl_setOf.mono _ _)
      | (with_reducible exact slices_Contains_bool_bool.mono _ _ _)
      | (with_reducible exact LeO.refl _)
      | (with_reducible exact LeO.none _)
      | (with_reducible refine LeO.ite ?_ ?_)
      | (with_reducible refine LeO.bind ?_ (fun _ => ?_))
      | exact impl_setOf.mono _ _
      | exact slices_Contains_bool_bool.mono _ _ _
      | exact LeO.none _
      | refine LeO.ite ?_ ?_
      | refine LeO.bind ?_ (fun _ => ?_)
set_option maxHeartbeats 8000000 in
set_option maxRecDepth 100000 in
theorem impl_SetEnds.calls (k : Nat) (a0 : ByteArray) (r : Bool) (w : World) (h : impl_SetEnds.f k a0 = some r) :
    Calls Try.prog 30 #[.string a0] w fun e w' => e = .returned (.bool r) ∧ Below w.heap.size w w' := by
  have hu44 := Try.underlying44
  have HB := Aside0.mk (Below.refl w.heap.size w)
  have H : ((impl_setOf.f k a0).bind fun bt593 => (if bt593.2.2 = true then ((slices_Contains_bool_bool.f k bt593.2.1 true).bind fun t601 => (some (!t601))) else (some false))) = some r := h
  clear h
  replace H := Option.bind_eq_some_iff.mp H
  obtain ⟨⟨t593, t596, t599⟩, A20, H⟩ := H
  replace H : (if t599 = true then ((slices_Contains_bool_bool.f k t596 true).bind fun t601 => (some (!t601))) else (some false)) = some r := H
  have A2 := Aside0.mk A20
  clear A20
  by_cases c3 : t599 = true
  · subst c3
    have H1 : ((slices_Contains_bool_bool.f k t596 true).bind fun t601 => (some (!t601))) = some r := by rw [if_pos rfl] at H; exact H
    clear H
    have H := H1
    clear H1
    replace H := Option.bind_eq_some_iff.mp H
    obtain ⟨t601, A40, H⟩ := H
    replace H : (some (!t601)) = some r := H
    have A4 := Aside0.mk A40
    clear A40
    obtain rfl := Option.some.inj H
    go_enter Try.func30, Try.ntmps30
    go_wp2_with (first | ((with_reducible refine gate_callee (f := 42) rfl ?_); refine goesL_ (some 7) rfl rfl Try.func42 (by kernel_rfl) rfl #[.string a0] rfl (by (try simp only [List.map_toArray, List.map_cons, List.map_nil]); first | done | rfl | (simp only [List.length_drop, List.length_take]; rfl)) ?_; (with_reducible refine (impl_setOf.calls k a0 t593 t596 true _ A2.out).mono ?_); rintro e w5 ⟨v594, v597, rfl, ho0, ho1, hb⟩; refine ⟨_, rfl, ?_⟩; have n0_ := Aside0.mk (Kd.R_lower ho0 (below_size (by repeat (first | (with_reducible first | exact HB.out | apply below_alloc | apply pw_below_drewN | apply below_drew1) | exact HB.out)))); have n1_ := Aside0.mk (Kd.R_lower ho1 (below_size (by repeat (first | (with_reducible first | exact HB.out | apply below_alloc | apply pw_below_drewN | apply below_drew1) | exact HB.out)))); have n2_ := Aside0.mk (below_step (by repeat (first | (with_reducible first | exact HB.out | apply below_alloc | apply pw_below_drewN | apply below_drew1) | exact HB.out)) hb); clear HB; have HO595 := n0_; have HO598 := n1_; have HB := n2_; clear n0_ n1_ n2_; (try clear hb); (try clear hb2); (try clear hk); (try clear hi); (try clear ho0); (try clear ho1)) | ((with_reducible refine gate_dst (N := 3) rfl ?_); refine box_event ?hg (N := 3) ?hd (cs := #[.slice none 0 0, .slice none 0 0]) (t := 44) ?hr ?_; (case hd => rfl); (case hg => rfl); (case hr => first | (go_simp; done) | (go_simp; rfl)); intro gb600 hg w6 hbox hb; have n0_ := Aside0.mk (Kd.R_below (by (with_reducible repeat (first | apply Kd.R_alloc | apply Kd.R_drewN | apply Kd.R_drew)); exact HO595.out) hb); have n1_ := Aside0.mk (Kd.R_below (by (with_reducible repeat (first | apply Kd.R_alloc | apply Kd.R_drewN | apply Kd.R_drew)); exact HO598.out) hb); have n2_ := Aside0.mk (below_step (by repeat (first | (with_reducible first | exact HB.out | apply below_alloc | apply pw_below_drewN | apply below_drew1) | exact HB.out)) hb); have n3_ := Aside0.mk (hbox); have n4_ := Aside0.mk ((by rw [hg]; exact (below_size (by repeat (first | (with_reducible first | exact HB.out | apply below_alloc | apply pw_below_drewN | apply below_drew1) | exact HB.out))) : w.heap.size ≤ gb600)); have n5_ := Aside0.mk ((by rw [hg]; exact (below_size (by repeat (first | (with_reducible first | exact HB.out | apply below_alloc | apply pw_below_drewN | apply below_drew1) | exact HB.out))) : w.heap.size ≤ gb600)); clear HO595; clear HO598; clear HB; have HO595 := n0_; have HO598 := n1_; have HB := n2_; have BK600 := n3_; have GW600 := n4_; have GE600 := n5_; clear n0_ n1_ n2_ n3_ n4_ n5_; clear hb hbox hg; obtain ⟨Ao7, co7, eo7⟩ := Kd.R_slice HO595.out; subst eo7; have hcz8_0 : w6.cell? ⟨gb600, 0, none⟩ = some (.slice none 0 0) := (blk_cell BK600.out 0).trans rfl; have hcz8_1 : w6.cell? ⟨gb600, 1, none⟩ = some (.slice none 0 0) := (blk_cell BK600.out 1).trans rfl; have hfz8_0 := blk_frozen BK600.out 0; have hfz8_1 := blk_frozen BK600.out 1; obtain ⟨Ao9, co9, eo9⟩ := Kd.R_slice HO598.out; subst eo9) | (go_at_call 56; (with_reducible refine (slices_Contains_bool_bool.calls k _ _ t596 true t601 _ ?side1 ?side2 A4.out).mono ?_); (case side1 => refine (Kd.R_reads' (e := 4) (base := w.heap.size) (ok := fun k_ => some k_ ≠ (.slice Ao7 t593.length co7 : Value).ownBlock) (n := t596.length) (c := co9) ?_).2.2; exact (by (with_reducible repeat (first | apply Kd.R_alloc | apply Kd.R_drewN | apply Kd.R_drew)); exact (Kd.R_mono (Kd.R_far (p := ⟨gb600, 1, none⟩) (Kd.R_far (p := ⟨gb600, 0, none⟩) (Kd.R_types HO598.out BK600.out (by decide)) (fun _ hk => hk.2) (.slice Ao7 t593.length co7)) (fun _ hk => hk.2) (.slice Ao9 t596.length co9)) (fun _ h_ => h_.1)))); (case side2 => exact (Kd.R_reads' HO598.out).2.1); rintro e w' ⟨rfl, ⟨nd, rfl⟩⟩))
    go_ret
    exact ⟨by first | rfl | (simp [errW_none, errW_some] <;> rfl) | (simp [*, errW_none, errW_some] <;> rfl) | (simp [errW_none, errW_some]; exact ⟨rfl, rfl⟩), by repeat (first | (with_reducible first | exact HB.out | apply below_alloc | apply pw_below_drewN | apply below_drew1 | refine below_set ?_ GE600.out) | exact HB.out)⟩
  · replace c3 := Bool.eq_false_iff.mpr c3
    subst c3
    have H1 : (some false) = some r := by rw [if_neg (show ¬ (false = true) by decide)] at H; exact H
    clear H
    have H := H1
    clear H1
    obtain rfl := Option.some.inj H
    go_enter Try.func30, Try.ntmps30
    go_wp2_with (first | ((with_reducible refine gate_callee (f := 42) rfl ?_); refine goesL_ (some 7) rfl rfl Try.func42 (by kernel_rfl) rfl #[.string a0] rfl (by (try simp only [List.map_toArray, List.map_cons, List.map_nil]); first | done | rfl | (simp only [List.length_drop, List.length_take]; rfl)) ?_; (with_reducible refine (impl_setOf.calls k a0 t593 t596 false _ A2.out).mono ?_); rintro e w10 ⟨v594, v597, rfl, ho0, ho1, hb⟩; refine ⟨_, rfl, ?_⟩; have n0_ := Aside0.mk (Kd.R_lower ho0 (below_size (by repeat (first | (with_reducible first | exact HB.out | apply below_alloc | apply pw_below_drewN | apply below_drew1) | exact HB.out)))); have n1_ := Aside0.mk (Kd.R_lower ho1 (below_size (by repeat (first | (with_reducible first | exact HB.out | apply below_alloc | apply pw_below_drewN | apply below_drew1) | exact HB.out)))); have n2_ := Aside0.mk (below_step (by repeat (first | (with_reducible first | exact HB.out | apply below_alloc | apply pw_below_drewN | apply below_drew1) | exact HB.out)) hb); clear HB; have HO595 := n0_; have HO598 := n1_; have HB := n2_; clear n0_ n1_ n2_; (try clear hb); (try clear hb2); (try clear hk); (try clear hi); (try clear ho0); (try clear ho1)) | ((with_reducible refine gate_dst (N := 3) rfl ?_); refine box_event ?hg (N := 3) ?hd (cs := #[.slice none 0 0, .slice none 0 0]) (t := 44) ?hr ?_; (case hd => rfl); (case hg => rfl); (case hr => first | (go_simp; done) | (go_simp; rfl)); intro gb600 hg w11 hbox hb; have n0_ := Aside0.mk (Kd.R_below (by (with_reducible repeat (first | apply Kd.R_alloc | apply Kd.R_drewN | apply Kd.R_drew)); exact HO595.out) hb); have n1_ := Aside0.mk (Kd.R_below (by (with_reducible repeat (first | apply Kd.R_alloc | apply Kd.R_drewN | apply Kd.R_drew)); exact HO598.out) hb); have n2_ := Aside0.mk (below_step (by repeat (first | (with_reducible first | exact HB.out | apply below_alloc | apply pw_below_drewN | apply below_drew1) | exact HB.out)) hb); have n3_ := Aside0.mk (hbox); have n4_ := Aside0.mk ((by rw [hg]; exact (below_size (by repeat (first | (with_reducible first | exact HB.out | apply below_alloc | apply pw_below_drewN | apply below_drew1) | exact HB.out))) : w.heap.size ≤ gb600)); have n5_ := Aside0.mk ((by rw [hg]; exact (below_size (by repeat (first | (with_reducible first | exact HB.out | apply below_alloc | apply pw_below_drewN | apply below_drew1) | exact HB.out))) : w.heap.size ≤ gb600)); clear HO595; clear HO598; clear HB; have HO595 := n0_; have HO598 := n1_; have HB := n2_; have BK600 := n3_; have GW600 := n4_; have GE600 := n5_; clear n0_ n1_ n2_ n3_ n4_ n5_; clear hb hbox hg; obtain ⟨Ao12, co12, eo12⟩ := Kd.R_slice HO595.out; subst eo12; have hcz13_0 : w11.cell? ⟨gb600, 0, none⟩ = some (.slice none 0 0) := (blk_cell BK600.out 0).trans rfl; have hcz13_1 : w11.cell? ⟨gb600, 1, none⟩ = some (.slice none 0 0) := (blk_cell BK600.out 1).trans rfl; have hfz13_0 := blk_frozen BK600.out 0; have hfz13_1 := blk_frozen BK600.out 1; obtain ⟨Ao14, co14, eo14⟩ := Kd.R_slice HO598.out; subst eo14))
    go_ret
    exact ⟨by first | rfl | (simp [errW_none, errW_some] <;> rfl) | (simp [*, errW_none, errW_some] <;> rfl) | (simp [errW_none, errW_some]; exact ⟨rfl, rfl⟩), by repeat (first | (with_reducible first | exact HB.out | apply below_alloc | apply pw_below_drewN | apply below_drew1 | refine below_set ?_ GE600.out) | exact HB.out)⟩

end Go.Proofs.Ytflfabdfkfigcaa.P

namespace Go.Proofs.Ytflfabdfkfigcaa.P
open Go.RowKit Go.Proofs.YtflfabdfkfigcaaW.PrintWords Go.Proofs.YtflfabdfkfigcaaW.PrintLast Go.Proofs.YtflfabdfkfigcaaW.PrintMore
attribute [local go_sem] max2_int min2_int max_two min_two max_three min_three max_four min_four   -- for this text's walks alone
set_option linter.unusedVariables false
set_option linter.unusedSimpArgs false

/-! ### spec_DrawMakeTimes: function 27 -/
def spec_DrawMakeTimes.f (k : Nat) (l0 : List Int) : Option (ByteArray × Int) := (spec_l6Open.f l0).bind fun bt546 => ((spec_l91Set.f k bt546.1 bt546.2).bind fun bt549 => ((spec_l91Number.f k bt546.1 bt549.2 20).bind fun bt551 => (some (bt549.1, bt551.1))))
theorem spec_DrawMakeTimes.mono : ∀ a0 k, LeO (spec_DrawMakeTimes.f k a0) (spec_DrawMakeTimes.f (k + 1) a0) := by
  intro a0 k
  unfold spec_DrawMakeTimes.f
  repeat' first
      | (with_reducible exact spec_l91Number.mono _ _ _ _)
      | (with_reducible exact spec_l91Set.mono _ _ _)
      | (with_reducible exact LeO.refl _)
      | (with_reducible exact LeO.none _)
      | (with_reducible refine LeO.ite ?_ ?_)
      | (with_reducible refine LeO.bind ?_ (fun _ => ?_))
      | exact spec_l91Number.mono _ _ _ _
      | exact spec_l91Set.mono _ _ _
      | exact LeO.none _
      | refine LeO.ite ?_ ?_
      | refine LeO.bind ?_ (fun _ => ?_)
set_option maxHeartbeats 8000000 in
set_option maxRecDepth 100000 in
theorem spec_DrawMakeTimes.calls (k : Nat) (A0 : Option Addr) (c0 : Nat) (l0 : List Int) (r1 : ByteArray) (r2 : Int) (w : World) (hr0 : Kd.C (Kd.int .u8) w A0 l0.length l0) (hc0 : l0.length ≤ c0) (h : spec_DrawMakeTimes.f k l0 = some (r1, r2)) :
    Calls Try.prog 27 #[.slice A0 l0.length c0] w fun e w' => e = .returned (.tuple #[.string r1, .int .i64 r2]) ∧ Below w.heap.size w w' := by
  have HR0 := Aside0.mk hr0
  have HC0 := Aside0.mk hc0
  clear hr0 hc0
  have HB := Aside0.mk (Below.refl w.heap.size w)
  have H : ((spec_l6Open.f l0).bind fun bt546 => ((spec_l91Set.f k bt546.1 bt546.2).bind fun bt549 => ((spec_l91Number.f k bt546.1 bt549.2 20).bind fun bt551 => (some (bt549.1, bt551.1))))) = some (r1, r2) := h
  clear h
  replace H := Option.bind_eq_some_iff.mp H
  obtain ⟨⟨t546, t547⟩, A20, H⟩ := H
  replace H : ((spec_l91Set.f k t546 t547).bind fun bt549 => ((spec_l91Number.f k t546 bt549.2 20).bind fun bt551 => (some (bt549.1, bt551.1)))) = some (r1, r2) := H
  have A2 := Aside0.mk A20
  clear A20
  replace H := Option.bind_eq_some_iff.mp H
  obtain ⟨⟨t549, t550⟩, A30, H⟩ := H
  replace H : ((spec_l91Number.f k t546 t550 20).bind fun bt551 => (some (t549, bt551.1))) = some (r1, r2) := H
  have A3 := Aside0.mk A30
  clear A30
  replace H := Option.bind_eq_some_iff.mp H
  obtain ⟨⟨t551, t552⟩, A40, H⟩ := H
  replace H : (some (t549, t551)) = some (r1, r2) := H
  have A4 := Aside0.mk A40
  clear A40
  simp only [Option.some.injEq, Prod.mk.injEq] at H
  obtain ⟨rfl, rfl⟩ := H
  go_enter Try.func27, Try.ntmps27
  go_wp2_with (first | ((with_reducible refine gate_callee (f := 31) rfl ?_); refine goesL_ (some 6) rfl rfl Try.func31 (by kernel_rfl) rfl #[.slice A0 l0.length c0] rfl (by (try simp only [List.map_toArray, List.map_cons, List.map_nil]); first | done | rfl | (simp only [List.length_drop, List.length_take]; rfl)) ?_; (with_reducible refine (spec_l6Open.calls _ _ l0 t546 t547 w _ ?side1 ?side2 ?side3 A2.out).mono ?_); (case side1 => repeat (first | (with_reducible first | exact HB.out | apply below_alloc | apply pw_below_drewN | apply below_drew1) | exact HB.out)); (case side2 => exact HR0.out); (case side3 => exact HC0.out); rintro e w5 ⟨g548, rfl, hi, hb, hb2⟩; refine ⟨_, rfl, ?_⟩; have n0_ := Aside0.mk (hb); have n1_ := Aside0.mk (hi); clear HB; have HB := n0_; have HI548 := n1_; clear n0_ n1_; (try clear hb); (try clear hb2); (try clear hk); (try clear hi)) | ((with_reducible refine gate_callee (f := 32) rfl ?_); refine goesL_ (some 8) rfl rfl Try.func32 (by kernel_rfl) rfl #[.pointer (some ⟨g548, 0, none⟩)] rfl (by (try simp only [List.map_toArray, List.map_cons, List.map_nil]); first | done | rfl | (simp only [List.length_drop, List.length_take]; rfl)) ?_; (with_reducible refine (spec_l91Set.calls k g548 t546 t547 t549 t550 w _ ?side1 ?side2 A3.out).mono ?_); (case side1 => repeat (first | (with_reducible first | exact HI548.out | apply IsS64.alloc | apply IsS64.drewN | apply IsS64.drew | apply IsS64.set_1) | exact HI548.out)); (case side2 => repeat (first | (with_reducible first | exact HB.out | apply below_alloc | apply pw_below_drewN | apply below_drew1 | refine below_set ?_ (IsS64.ge HI548.out)) | exact HB.out)); rintro e w6 ⟨rfl, hi, hb, hk⟩; refine ⟨_, rfl, ?_⟩; have n0_ := Aside0.mk (hb); have n1_ := Aside0.mk (hi); clear HB; clear HI548; have HB := n0_; have HI548 := n1_; clear n0_ n1_; (try clear hb); (try clear hb2); (try clear hk); (try clear hi)) | ((with_reducible refine gate_callee (f := 33) rfl ?_); refine goesL_ (some 10) rfl rfl Try.func33 (by kernel_rfl) rfl #[.pointer (some ⟨g548, 0, none⟩), .int .i64 20] rfl (by (try simp only [List.map_toArray, List.map_cons, List.map_nil]); first | done | rfl | (simp only [List.length_drop, List.length_take]; rfl)) ?_; (with_reducible refine (spec_l91Number.calls k g548 t546 t550 20 t551 t552 w _ ?side1 ?side2 A4.out).mono ?_); (case side1 => repeat (first | (with_reducible first | exact HI548.out | apply IsS64.alloc | apply IsS64.drewN | apply IsS64.drew | apply IsS64.set_1) | exact HI548.out)); (case side2 => repeat (first | (with_reducible first | exact HB.out | apply below_alloc | apply pw_below_drewN | apply below_drew1 | refine below_set ?_ (IsS64.ge HI548.out)) | exact HB.out)); rintro e w7 ⟨rfl, hi, hb, hk⟩; refine ⟨_, rfl, ?_⟩; have n0_ := Aside0.mk (hb); have n1_ := Aside0.mk (hi); clear HB; clear HI548; have HB := n0_; have HI548 := n1_; clear n0_ n1_; (try clear hb); (try clear hb2); (try clear hk); (try clear hi)))
  go_ret2
  exact ⟨by first | rfl | (simp [errW_none, errW_some] <;> rfl) | (simp [*, errW_none, errW_some] <;> rfl) | (simp [errW_none, errW_some]; exact ⟨rfl, rfl⟩), by repeat (first | (with_reducible first | exact HB.out | apply below_alloc | apply pw_below_drewN | apply below_drew1 | refine below_set ?_ (IsS64.ge HI548.out)) | exact HB.out)⟩

end Go.Proofs.Ytflfabdfkfigcaa.P

namespace Go.Proofs.Ytflfabdfkfigcaa.P
open Go.RowKit Go.Proofs.YtflfabdfkfigcaaW.PrintWords Go.Proofs.YtflfabdfkfigcaaW.PrintLast Go.Proofs.YtflfabdfkfigcaaW.PrintMore
attribute [local go_sem] max2_int min2_int max_two min_two max_three min_three max_four min_four   -- for this text's walks alone
set_option linter.unusedVariables false
set_option linter.unusedSimpArgs false

/-! ### spec_l1Ends: function 55 -/
def spec_l1Ends.l0 : Nat → Int → List Bool → List Bool → Option (Bool)
  | 0, _, _, _ => none
  | k + 1, x3, x559000, x559001 => if x3 < (x559001.length : Int) then (if 0 ≤ x3 then (if rdOf false x559001 x3 = true then (some false) else (spec_l1Ends.l0 k (wrap64 (x3 + 1)) x559000 x559001)) else (none)) else (some true)
def spec_l1Ends.f (k : Nat) (l0_0 : List Bool) (l0_1 : List Bool) : Option (Bool) := spec_l1Ends.l0 k 0 l0_0 l0_1
theorem spec_l1Ends.mono_l : ∀ k, (∀ y0 y1 y2, LeO (spec_l1Ends.l0 k y0 y1 y2) (spec_l1Ends.l0 (k + 1) y0 y1 y2))
  | 0 => fun _ _ _ r h => by simp [spec_l1Ends.l0] at h
  | k + 1 => by
    have ih0 := spec_l1Ends.mono_l k
    · intro y0 y1 y2
      unfold spec_l1Ends.l0
      repeat' first
      | (with_reducible exact ih0 _ _ _)
      | (with_reducible exact LeO.refl _)
      | (with_reducible exact LeO.none _)
      | (with_reducible refine LeO.ite ?_ ?_)
      | (with_reducible refine LeO.bind ?_ (fun _ => ?_))
      | exact ih0 _ _ _
      | exact LeO.none _
      | refine LeO.ite ?_ ?_
      | refine LeO.bind ?_ (fun _ => ?_)
theorem spec_l1Ends.mono : ∀ a0 a1 k, LeO (spec_l1Ends.f k a0 a1) (spec_l1Ends.f (k + 1) a0 a1) := by
  intro a0 a1 k
  have ih0 := spec_l1Ends.mono_l k
  unfold spec_l1Ends.f
  repeat' first
      | (with_reducible exact ih0 _ _ _)
      | (with_reducible exact LeO.refl _)
      | (with_reducible exact LeO.none _)
      | (with_reducible refine LeO.ite ?_ ?_)
      | (with_reducible refine LeO.bind ?_ (fun _ => ?_))
      | exact ih0 _ _ _
      | exact LeO.none _
      | refine LeO.ite ?_ ?_
      | refine LeO.bind ?_ (fun _ => ?_)
set_option maxHeartbeats 8000000 in
set_option maxRecDepth 100000 in
theorem spec_l1Ends.calls (k : Nat) (A0_0 : Option Addr) (c0_0 : Nat) (l0_0 : List Bool) (A0_1 : Option Addr) (c0_1 : Nat) (l0_1 : List Bool) (r : Bool) (w : World) (hr0_0 : Kd.C Kd.bool w A0_0 l0_0.length l0_0) (hc0_0 : l0_0.length ≤ c0_0) (hr0_1 : Kd.C Kd.bool w A0_1 l0_1.length l0_1) (hc0_1 : l0_1.length ≤ c0_1) (h : spec_l1Ends.f k l0_0 l0_1 = some r) :
    Calls Try.prog 55 #[.agg #[.slice A0_0 l0_0.length c0_0, .slice A0_1 l0_1.length c0_1]] w fun e w' => e = .returned (.bool r) ∧ Below w.heap.size w w' := by
  have hu48 := Try.underlying48
  have HR0_0 := Aside0.mk hr0_0
  have HC0_0 := Aside0.mk hc0_0
  clear hr0_0 hc0_0
  have HR0_1 := Aside0.mk hr0_1
  have HC0_1 := Aside0.mk hc0_1
  clear hr0_1 hc0_1
  have HB := Aside0.mk (Below.refl w.heap.size w)
  have H : (spec_l1Ends.l0 k 0 l0_0 l0_1) = some r := h
  clear h
  have H' := Aside0.mk H
  clear H
  go_enter Try.func55, Try.ntmps55
  go_wp2_with (first | ((with_reducible refine gate_dst (N := 1) rfl ?_); refine box_event ?hg (N := 1) ?hd (cs := #[.slice A0_0 l0_0.length c0_0, .slice A0_1 l0_1.length c0_1]) (t := 48) ?hr ?_; (case hd => rfl); (case hg => rfl); (case hr => first | (go_simp; done) | (go_simp; rfl)); intro gb558 hg w2 hbox hb; have n0_ := Aside0.mk (below_step (by repeat (first | (with_reducible first | exact HB.out | apply below_alloc | apply pw_below_drewN | apply below_drew1) | exact HB.out)) hb); have n1_ := Aside0.mk (hbox); have n2_ := Aside0.mk ((by rw [hg]; exact (below_size (by repeat (first | (with_reducible first | exact HB.out | apply below_alloc | apply pw_below_drewN | apply below_drew1) | exact HB.out))) : w.heap.size ≤ gb558)); have n3_ := Aside0.mk ((by rw [hg]; exact (below_size (by repeat (first | (with_reducible first | exact HB.out | apply below_alloc | apply pw_below_drewN | apply below_drew1) | exact HB.out))) : w.heap.size ≤ gb558)); clear HB; have HB := n0_; have BK558 := n1_; have GW558 := n2_; have GE558 := n3_; clear n0_ n1_ n2_ n3_; clear hb hbox hg))
  go_loopg [3] k (fun kq v3 w' => ∃ (x3_1 : Int), v3 = .int .i64 x3_1 ∧ Aside0 (spec_l1Ends.l0 kq x3_1 l0_0 l0_1 = some r) ∧ Aside0 (kq ≤ k) ∧ Aside0 (w'.heap[gb558]? = some (.cells #[(.slice A0_0 l0_0.length c0_0), (.slice A0_1 l0_1.length c0_1)] 48 (0, 0))) ∧ Aside0 (Below w.heap.size w w'))
  case atStart => exact ⟨(0), (by first | rfl | (simp; done) | (simp [*]; done) | (simp [Int.tmod_eq_emod_of_nonneg]; done)), H', ⟨Nat.le_refl _⟩, ⟨by (with_reducible repeat (first | refine blk_drewN ?_ _ | refine blk_drew ?_ | refine blk_alloc ?_ _)); exact BK558.out⟩, ⟨by repeat (first | (with_reducible first | exact HB.out | apply below_alloc | apply pw_below_drewN | apply below_drew1 | refine below_set ?_ GE558.out) | exact HB.out)⟩⟩
  case round =>
    clear H'
    try clear p2
    obtain ⟨x3_1, rfl, HA, HK1, BK558, HB⟩ := hrel
    cases gk with
    | zero => exact absurd HA.out (by simp [spec_l1Ends.l0])
    | succ k1 =>
      have H := HA.out
      clear HA
      simp only [spec_l1Ends.l0] at H
      by_cases c3 : x3_1 < (l0_1.length : Int)
      · rw [if_pos c3] at H
        have c3b0 : decide (x3_1 < (l0_1.length : Int)) = true := decide_eq_true c3
        clear c3
        by_cases c4 : 0 ≤ x3_1
        · rw [if_pos c4] at H
          have c4b0 : decide (0 ≤ x3_1) = true := decide_eq_true c4
          clear c4
          obtain ⟨bq5, hbq5⟩ : ∃ b_ : Bool, b_ = (rdOf false l0_1 x3_1) := ⟨_, rfl⟩
          replace H : (if bq5 = true then (some false) else (spec_l1Ends.l0 k1 (wrap64 (x3_1 + 1)) l0_0 l0_1)) = some r := by rw [← hbq5] at H; exact H
          have Nbq5 := Aside0.mk hbq5
          clear hbq5
          by_cases c6 : bq5 = true
          · subst c6
            have H1 : (some false) = some r := by rw [if_pos rfl] at H; exact H
            clear H
            have H := H1
            clear H1
            obtain rfl := Option.some.inj H
            have hcz7_0 : wr.cell? ⟨gb558, 0, none⟩ = some (.slice A0_0 l0_0.length c0_0) := (blk_cell BK558.out 0).trans rfl
            have hcz7_1 : wr.cell? ⟨gb558, 1, none⟩ = some (.slice A0_1 l0_1.length c0_1) := (blk_cell BK558.out 1).trans rfl
            have hfz7_0 := blk_frozen BK558.out 0
            have hfz7_1 := blk_frozen BK558.out 1
            have p559 : 0 ≤ (x3_1 : Int) := of_decide_eq_true (by first | (with_reducible assumption) | assumption)
            have q559 : x3_1 < (l0_1.length : Int) := of_decide_eq_true (by first | (with_reducible assumption) | assumption)
            obtain ⟨ad559, e559, hx559_0⟩ := Kd.at_bool HR0_1.out x3_1 p559 q559
            (try rw [← Nbq5.out] at hx559_0)
            cases e559
            replace hx559_0 := (HB.out.cell (World.block_lt_of_cell? w _ hx559_0)).trans hx559_0
            replace p559 := eq_true p559
            replace q559 := eq_true q559
            go_wp2
            go_ret
            exact ⟨by first | rfl | (simp [errW_none, errW_some] <;> rfl) | (simp [*, errW_none, errW_some] <;> rfl) | (simp [errW_none, errW_some]; exact ⟨rfl, rfl⟩), by repeat (first | (with_reducible first | exact HB.out | apply below_alloc | apply pw_below_drewN | apply below_drew1 | refine below_set ?_ GE558.out) | exact HB.out)⟩
          · replace c6 := Bool.eq_false_iff.mpr c6
            subst c6
            have H1 : (spec_l1Ends.l0 k1 (wrap64 (x3_1 + 1)) l0_0 l0_1) = some r := by rw [if_neg (show ¬ (false = true) by decide)] at H; exact H
            clear H
            have H := H1
            clear H1
            have H' := Aside0.mk H
            clear H
            have hcz8_0 : wr.cell? ⟨gb558, 0, none⟩ = some (.slice A0_0 l0_0.length c0_0) := (blk_cell BK558.out 0).trans rfl
            have hcz8_1 : wr.cell? ⟨gb558, 1, none⟩ = some (.slice A0_1 l0_1.length c0_1) := (blk_cell BK558.out 1).trans rfl
            have hfz8_0 := blk_frozen BK558.out 0
            have hfz8_1 := blk_frozen BK558.out 1
            have p559 : 0 ≤ (x3_1 : Int) := of_decide_eq_true (by first | (with_reducible assumption) | assumption)
            have q559 : x3_1 < (l0_1.length : Int) := of_decide_eq_true (by first | (with_reducible assumption) | assumption)
            obtain ⟨ad559, e559, hx559_0⟩ := Kd.at_bool HR0_1.out x3_1 p559 q559
            (try rw [← Nbq5.out] at hx559_0)
            cases e559
            replace hx559_0 := (HB.out.cell (World.block_lt_of_cell? w _ hx559_0)).trans hx559_0
            replace p559 := eq_true p559
            replace q559 := eq_true q559
            go_wp2
            go_roundg k1
            case measure => have := HK1.out; omega
            case rel => exact ⟨(wrap64 (x3_1 + 1)), (by first | rfl | (simp; done) | (simp [*]; done) | (simp [Int.tmod_eq_emod_of_nonneg]; done)), H', ⟨by have := HK1.out; omega⟩, ⟨by (with_reducible repeat (first | refine blk_drewN ?_ _ | refine blk_drew ?_ | refine blk_alloc ?_ _)); exact BK558.out⟩, ⟨by repeat (first | (with_reducible first | exact HB.out | apply below_alloc | apply pw_below_drewN | apply below_drew1 | refine below_set ?_ GE558.out) | exact HB.out)⟩⟩
        · rw [if_neg c4] at H
          exact absurd H (by simp)
      · rw [if_neg c3] at H
        have c3b0 : decide (x3_1 < (l0_1.length : Int)) = false := decide_eq_false c3
        clear c3
        obtain rfl := Option.some.inj H
        have hcz9_0 : wr.cell? ⟨gb558, 0, none⟩ = some (.slice A0_0 l0_0.length c0_0) := (blk_cell BK558.out 0).trans rfl
        have hcz9_1 : wr.cell? ⟨gb558, 1, none⟩ = some (.slice A0_1 l0_1.length c0_1) := (blk_cell BK558.out 1).trans rfl
        have hfz9_0 := blk_frozen BK558.out 0
        have hfz9_1 := blk_frozen BK558.out 1
        go_wp2
        go_ret
        exact ⟨by first | rfl | (simp [errW_none, errW_some] <;> rfl) | (simp [*, errW_none, errW_some] <;> rfl) | (simp [errW_none, errW_some]; exact ⟨rfl, rfl⟩), by repeat (first | (with_reducible first | exact HB.out | apply below_alloc | apply pw_below_drewN | apply below_drew1 | refine below_set ?_ GE558.out) | exact HB.out)⟩

end Go.Proofs.Ytflfabdfkfigcaa.P

namespace Go.Proofs.Ytflfabdfkfigcaa.P
open Go.RowKit Go.Proofs.YtflfabdfkfigcaaW.PrintWords Go.Proofs.YtflfabdfkfigcaaW.PrintLast Go.Proofs.YtflfabdfkfigcaaW.PrintMore
attribute [local go_sem] max2_int min2_int max_two min_two max_three min_three max_four min_four   -- for this text's walks alone
set_option linter.unusedVariables false
set_option linter.unusedSimpArgs false

/-! ### spec_MakeTimes: function 29 -/
mutual
def spec_MakeTimes.j0 : Nat → Int → Bool → List Bool → List Bool → Option (ByteArray × Bool)
  | 0, _, _, _, _ => none
  | k + 1, x1, x23, x568000, x568001 => if x23 = true then (some ((⟨#[]⟩ : ByteArray), false)) else (if x1 = 0 then ((spec_l1Ends.f k x568000 x568001).bind fun t569 => (spec_MakeTimes.l0 k (!t569) 0 x568000 x568001)) else (spec_MakeTimes.l1 k x1 (([] : List Bool)) 0 x568000 x568001))
def spec_MakeTimes.l0 : Nat → Bool → Int → List Bool → List Bool → Option (ByteArray × Bool)
  | 0, _, _, _, _ => none
  | k + 1, x8, x9, x568000, x568001 => if x9 < (x568000.length : Int) then (if x8 = true then (spec_MakeTimes.l0 k true (wrap64 (x9 + 1)) x568000 x568001) else (if 0 ≤ x9 then (spec_MakeTimes.l0 k (rdOf false x568000 x9) (wrap64 (x9 + 1)) x568000 x568001) else (none))) else ((spec_l1Done.f k (([x8] : List Bool)) (([false] : List Bool))).bind fun bt577 => (some (bt577.1, bt577.2)))
def spec_MakeTimes.l1 : Nat → Int → List Bool → Int → List Bool → List Bool → Option (ByteArray × Bool)
  | 0, _, _, _, _, _ => none
  | k + 1, x1, x10, x11, x568000, x568001 => if x11 < (wrap64 (x1 * (wrap64 ((x568000.length : Int) + (x568001.length : Int))))) then (if x1 = 0 then (none) else (if (Int.tmod x11 x1) = 0 then ((spec_l1Has.f x568000 x568001 (wrap64 (Int.tdiv x11 x1))).bind fun t582 => (if x10.length < 140737488355328 then (spec_MakeTimes.l1 k x1 (x10 ++ [t582]) (wrap64 (x11 + 1)) x568000 x568001) else (none))) else (if x10.length < 140737488355328 then (spec_MakeTimes.l1 k x1 (x10 ++ [false]) (wrap64 (x11 + 1)) x568000 x568001) else (none)))) else ((spec_l2Fill.f k x10 (wrap64 (x1 * (x568000.length : Int)))).bind fun bt589 => (some (bt589.1, bt589.2)))
end
def spec_MakeTimes.f (k : Nat) (a0 : ByteArray) (a1 : Int) : Option (ByteArray × Bool) := (spec_l1Read.f k a0).bind fun bt560 => (if bt560.2.2 = true then ((spec_l6In.f a1 0 20).bind fun t568 => (spec_MakeTimes.j0 k a1 (!t568) bt560.1 bt560.2.1)) else (spec_MakeTimes.j0 k a1 true bt560.1 bt560.2.1))
theorem spec_MakeTimes.mono_l : ∀ k, (∀ y0 y1 y2 y3, LeO (spec_MakeTimes.j0 k y0 y1 y2 y3) (spec_MakeTimes.j0 (k + 1) y0 y1 y2 y3)) ∧ (∀ y0 y1 y2 y3, LeO (spec_MakeTimes.l0 k y0 y1 y2 y3) (spec_MakeTimes.l0 (k + 1) y0 y1 y2 y3)) ∧ (∀ y0 y1 y2 y3 y4, LeO (spec_MakeTimes.l1 k y0 y1 y2 y3 y4) (spec_MakeTimes.l1 (k + 1) y0 y1 y2 y3 y4))
  | 0 => ⟨fun _ _ _ _ r h => by simp [spec_MakeTimes.j0] at h, fun _ _ _ _ r h => by simp [spec_MakeTimes.l0] at h, fun _ _ _ _ _ r h => by simp [spec_MakeTimes.l1] at h⟩
  | k + 1 => by
    obtain ⟨ih0, ih1, ih2⟩ := spec_MakeTimes.mono_l k
    refine ⟨?_, ?_, ?_⟩
    · intro y0 y1 y2 y3
      unfold spec_MakeTimes.j0
      repeat' first
      | (with_reducible exact ih0 _ _ _ _)
      | (with_reducible exact ih1 _ _ _ _)
      | (with_reducible exact ih2 _ _ _ _ _)
      | (with_reducible exact spec_l1Done.mono _ _ _)
      | (with_reducible exact spec_l1Ends.mono _ _ _)
      | (with_reducible exact spec_l1Read.mono _ _)
      | (with_reducible exact spec_l2Fill.mono _ _ _)
      | (with_reducible exact LeO.refl _)
      | (with_reducible exact LeO.none _)
      | (with_reducible refine LeO.ite ?_ ?_)
      | (with_reducible refine LeO.bind ?_ (fun _ => ?_))
      | exact ih0 _ _ _ _
      | exact ih1 _ _ _ _
      | exact ih2 _ _ _ _ _
      | exact spec_l1Done.mono _ _ _
      | exact spec_l1Ends.mono _ _ _
      | exact spec_l1Read.mono _ _
      | exact spec_l2Fill.mono _ _ _
      | exact LeO.none _
      | refine LeO.ite ?_ ?_
      | refine LeO.bind ?_ (fun _ => ?_)
    · intro y0 y1 y2 y3
      unfold spec_MakeTimes.l0
      repeat' first
      | (with_reducible exact ih0 _ _ _ _)
      | (with_reducible exact ih1 _ _ _ _)
      | (with_reducible exact ih2 _ _ _ _ _)
      | (with_reducible exact spec_l1Done.mono _ _ _)
      | (with_reducible exact spec_l1Ends.mono _ _ _)
      | (with_reducible exact spec_l1Read.mono _ _)
      | (with_reducible exact spec_l2Fill.mono _ _ _)
      | (with_reducible exact LeO.refl _)
      | (with_reducible exact LeO.none _)
      | (with_reducible refine LeO.ite ?_ ?_)
      | (with_reducible refine LeO.bind ?_ (fun _ => ?_))
      | exact ih0 _ _ _ _
      | exact ih1 _ _ _ _
      | exact ih2 _ _ _ _ _
      | exact spec_l1Done.mono _ _ _
      | exact spec_l1Ends.mono _ _ _
      | exact spec_l1Read.mono _ _
      | exact spec_l2Fill.mono _ _ _
      | exact LeO.none _
      | refine LeO.ite ?_ ?_
      | refine LeO.bind ?_ (fun _ => ?_)
    · intro y0 y1 y2 y3 y4
      unfold spec_MakeTimes.l1
      repeat' first
      | (with_reducible exact ih0 _ _ _ _)
      | (with_reducible exact ih1 _ _ _ _)
      | (with_reducible exact ih2 _ _ _ _ _)
      | (with_reducible exact spec_l1Done.mono _ _ _)
      | (with_reducible exact spec_l1Ends.mono _ _ _)
      | (with_reducible exact spec_l1Read.mono _ _)
      | (with_reducible exact spec_l2Fill.mono _ _ _)
      | (with_reducible exact LeO.refl _)
      | (with_reducible exact LeO.none _)
      | (with_reducible refine LeO.ite ?_ ?_)
      | (with_reducible refine LeO.bind ?_ (fun _ => ?_))
      | exact ih0 _ _ _ _
      | exact ih1 _ _ _ _
      | exact ih2 _ _ _ _ _
      | exact spec_l1Done.mono _ _ _
      | exact spec_l1Ends.mono _ _ _
      | exact spec_l1Read.mono _ _
      | exact spec_l2Fill.mono _ _ _
      | exact LeO.none _
      | refine LeO.ite ?_ ?_
      | refine LeO.bind ?_ (fun _ => ?_)
theorem spec_MakeTimes.mono : ∀ a0 a1 k, LeO (spec_MakeTimes.f k a0 a1) (spec_MakeTimes.f (k + 1) a0 a1) := by
  intro a0 a1 k
  obtain ⟨ih0, ih1, ih2⟩ := spec_MakeTimes.mono_l k
  unfold spec_MakeTimes.f
  repeat' first
      | (with_reducible exact ih0 _ _ _ _)
      | (with_reducible exact ih1 _ _ _ _)
      | (with_reducible exact ih2 _ _ _ _ _)
      | (with_reducible exact spec_l1Done.mono _ _ _)
      | (with_reducible exact spec_l1Ends.mono _ _ _)
      | (with_reducible exact spec_l1Read.mono _ _)
      | (with_reducible exact spec_l2Fill.mono _ _ _)
      | (with_reducible exact LeO.refl _)
      | (with_reducible exact LeO.none _)
      | (with_reducible refine LeO.ite ?_ ?_)
      | (with_reducible refine LeO.bind ?_ (fun _ => ?_))
      | exact ih0 _ _ _ _
      | exact ih1 _ _ _ _
      | exact ih2 _ _ _ _ _
      | exact spec_l1Done.mono _ _ _
      | exact spec_l1Ends.mono _ _ _
      | exact spec_l1Read.mono _ _
      | exact spec_l2Fill.mono _ _ _
      | exact LeO.none _
      | refine LeO.ite ?_ ?_
      | refine LeO.bind ?_ (fun _ => ?_)
def spec_MakeTimes.T15 : Bool × List (List Nat × List Nat) := (true, [([], []), ([], []), ([], []), ([1, 2], [1, 2]), ([3], [3]), ([4], [4]), ([5], [5]), ([5], [5]), ([5], [5]), ([7, 8, 5], [5, 7, 8]), ([6, 9, 5, 5], [5, 6, 9]), ([5, 10], [5, 10]), ([11], [11]), ([0, 12, 10], [0, 12]), ([13, 13, 0, 1, 2, 3, 4, 5, 6, 7, 8, 9, 10, 11, 12, 13], [0, 13])])
def spec_MakeTimes.B15 : List Nat := [0, 0, 0, 6, 14, 30, 62, 62, 62, 446, 1022, 2046, 4094, 8191, 16383]
theorem spec_MakeTimes.tab15 : rtab .any (opsOf Try.f29 15) = spec_MakeTimes.T15 := by kernel_rfl
theorem spec_MakeTimes.bits15 : waitsOk spec_MakeTimes.T15.2 spec_MakeTimes.B15 = true := by kernel_rfl
set_option maxHeartbeats 8000000 in
set_option maxRecDepth 100000 in
theorem spec_MakeTimes.calls (k : Nat) (a0 : ByteArray) (a1 : Int) (r1 : ByteArray) (r2 : Bool) (w : World) (h : spec_MakeTimes.f k a0 a1 = some (r1, r2)) :
    Calls Try.prog 29 #[.string a0, .int .i64 a1] w fun e w' => e = .returned (.tuple #[.string r1, .bool r2]) ∧ Below w.heap.size w w' := by
  have hu48 := Try.underlying48
  have HB := Aside0.mk (Below.refl w.heap.size w)
  have H : ((spec_l1Read.f k a0).bind fun bt560 => (if bt560.2.2 = true then ((spec_l6In.f a1 0 20).bind fun t568 => (spec_MakeTimes.j0 k a1 (!t568) bt560.1 bt560.2.1)) else (spec_MakeTimes.j0 k a1 true bt560.1 bt560.2.1))) = some (r1, r2) := h
  clear h
  replace H := Option.bind_eq_some_iff.mp H
  obtain ⟨⟨t560, t563, t566⟩, A30, H⟩ := H
  replace H : (if t566 = true then ((spec_l6In.f a1 0 20).bind fun t568 => (spec_MakeTimes.j0 k a1 (!t568) t560 t563)) else (spec_MakeTimes.j0 k a1 true t560 t563)) = some (r1, r2) := H
  have A3 := Aside0.mk A30
  clear A30
  have HC4 := Aside0.mk H
  clear H
  go_enter Try.func29, Try.ntmps29
  go_upto_region 2 with (first | ((with_reducible refine gate_callee (f := 38) rfl ?_); refine goesL_ (some 14) rfl rfl Try.func38 (by kernel_rfl) rfl #[.string a0] rfl (by (try simp only [List.map_toArray, List.map_cons, List.map_nil]); first | done | rfl | (simp only [List.length_drop, List.length_take]; rfl)) ?_; (with_reducible refine (spec_l1Read.calls k a0 t560 t563 t566 _ A3.out).mono ?_); rintro e w5 ⟨v561, v564, rfl, ho0, ho1, hb⟩; refine ⟨_, rfl, ?_⟩; have n0_ := Aside0.mk (Kd.R_lower ho0 (below_size (by repeat (first | (with_reducible first | exact HB.out | apply below_alloc | apply pw_below_drewN | apply below_drew1) | exact HB.out)))); have n1_ := Aside0.mk (Kd.R_lower ho1 (below_size (by repeat (first | (with_reducible first | exact HB.out | apply below_alloc | apply pw_below_drewN | apply below_drew1) | exact HB.out)))); have n2_ := Aside0.mk (below_step (by repeat (first | (with_reducible first | exact HB.out | apply below_alloc | apply pw_below_drewN | apply below_drew1) | exact HB.out)) hb); clear HB; have HO562 := n0_; have HO565 := n1_; have HB := n2_; clear n0_ n1_ n2_; (try clear hb); (try clear hb2); (try clear hk); (try clear hi); (try clear ho0); (try clear ho1)) | ((with_reducible refine gate_dst (N := 6) rfl ?_); refine box_event ?hg (N := 6) ?hd (cs := #[.slice none 0 0, .slice none 0 0]) (t := 48) ?hr ?_; (case hd => rfl); (case hg => rfl); (case hr => first | (go_simp; done) | (go_simp; rfl)); intro gb567 hg w6 hbox hb; have n0_ := Aside0.mk (Kd.R_below (by (with_reducible repeat (first | apply Kd.R_alloc | apply Kd.R_drewN | apply Kd.R_drew)); exact HO562.out) hb); have n1_ := Aside0.mk (Kd.R_below (by (with_reducible repeat (first | apply Kd.R_alloc | apply Kd.R_drewN | apply Kd.R_drew)); exact HO565.out) hb); have n2_ := Aside0.mk (below_step (by repeat (first | (with_reducible first | exact HB.out | apply below_alloc | apply pw_below_drewN | apply below_drew1) | exact HB.out)) hb); have n3_ := Aside0.mk (hbox); have n4_ := Aside0.mk ((by rw [hg]; exact (below_size (by repeat (first | (with_reducible first | exact HB.out | apply below_alloc | apply pw_below_drewN | apply below_drew1) | exact HB.out))) : w.heap.size ≤ gb567)); have n5_ := Aside0.mk ((by rw [hg]; exact (below_size (by repeat (first | (with_reducible first | exact HB.out | apply below_alloc | apply pw_below_drewN | apply below_drew1) | exact HB.out))) : w.heap.size ≤ gb567)); clear HO562; clear HO565; clear HB; have HO562 := n0_; have HO565 := n1_; have HB := n2_; have BK567 := n3_; have GW567 := n4_; have GE567 := n5_; clear n0_ n1_ n2_ n3_ n4_ n5_; clear hb hbox hg; obtain ⟨Ao7, co7, eo7⟩ := Kd.R_slice HO562.out; subst eo7; have hcz8_0 : w6.cell? ⟨gb567, 0, none⟩ = some (.slice none 0 0) := (blk_cell BK567.out 0).trans rfl; have hcz8_1 : w6.cell? ⟨gb567, 1, none⟩ = some (.slice none 0 0) := (blk_cell BK567.out 1).trans rfl; have hfz8_0 := blk_frozen BK567.out 0; have hfz8_1 := blk_frozen BK567.out 1; obtain ⟨Ao9, co9, eo9⟩ := Kd.R_slice HO565.out; subst eo9))
  (try simp only [Act.put, List.setIfInBounds_toArray, List.set_cons_zero, List.set_cons_succ])
  go_cut [23] (fun v23 wc => ∃ (kq : Nat) (x23_3 : Bool), v23 = .bool x23_3 ∧ Aside0 (spec_MakeTimes.j0 kq a1 x23_3 t560 t563 = some (r1, r2)) ∧ Aside0 (kq ≤ k) ∧ Aside0 (Kd.R Kd.bool 4 wc w.heap.size (fun k_ => some k_ ≠ ((.slice Ao9 t563.length co9) : Value).ownBlock) (.slice Ao7 t560.length co7) t560) ∧ Aside0 (Kd.R Kd.bool 4 wc w.heap.size (fun k_ => some k_ ≠ ((.slice Ao7 t560.length co7) : Value).ownBlock) (.slice Ao9 t563.length co9) t563) ∧ Aside0 (wc.heap[gb567]? = some (.cells #[(.slice Ao7 t560.length co7), (.slice Ao9 t563.length co9)] 48 (0, 0))) ∧ Aside0 (Below w.heap.size w wc))
  case first =>
    have H := HC4.out
    clear HC4
    by_cases c10 : t566 = true
    · subst c10
      have H1 : ((spec_l6In.f a1 0 20).bind fun t568 => (spec_MakeTimes.j0 k a1 (!t568) t560 t563)) = some (r1, r2) := by rw [if_pos rfl] at H; exact H
      clear H
      have H := H1
      clear H1
      replace H := Option.bind_eq_some_iff.mp H
      obtain ⟨t568, A110, H⟩ := H
      replace H : (spec_MakeTimes.j0 k a1 (!t568) t560 t563) = some (r1, r2) := H
      have A11 := Aside0.mk A110
      clear A110
      have H' := Aside0.mk H
      clear H
      go_wp2_with (first | (go_at_call 39; (with_reducible refine (spec_l6In.calls a1 0 20 t568 _ A11.out).mono ?_); rintro e w' ⟨rfl, ⟨nd, rfl⟩⟩))
      go_meet
      case rel => exact ⟨_, (!t568), (by first | rfl | (simp; done) | (simp [*]; done) | (simp [Int.tmod_eq_emod_of_nonneg]; done)), H', ⟨by first | omega | exact Nat.le_refl _⟩, ⟨by (with_reducible repeat (first | apply Kd.R_alloc | apply Kd.R_drewN | apply Kd.R_drew)); exact Kd.R_mono (Kd.R_far (p := ⟨gb567, 1, none⟩) (Kd.R_far (p := ⟨gb567, 0, none⟩) (Kd.R_types HO562.out BK567.out (by decide)) (fun _ hk => hk.2) (.slice Ao7 t560.length co7)) (fun _ hk => hk.2) (.slice Ao9 t563.length co9)) (fun _ hk => hk.1)⟩, ⟨by (with_reducible repeat (first | apply Kd.R_alloc | apply Kd.R_drewN | apply Kd.R_drew)); exact Kd.R_mono (Kd.R_far (p := ⟨gb567, 1, none⟩) (Kd.R_far (p := ⟨gb567, 0, none⟩) (Kd.R_types HO565.out BK567.out (by decide)) (fun _ hk => hk.2) (.slice Ao7 t560.length co7)) (fun _ hk => hk.2) (.slice Ao9 t563.length co9)) (fun _ hk => hk.1)⟩, ⟨by (with_reducible repeat (first | refine blk_drewN ?_ _ | refine blk_drew ?_ | refine blk_alloc ?_ _)); refine blk_put (cs := #[.slice Ao7 t560.length co7, .slice none 0 0]) ?_ 1 _ rfl; (with_reducible repeat (first | refine blk_drewN ?_ _ | refine blk_drew ?_ | refine blk_alloc ?_ _)); refine blk_put (cs := #[.slice none 0 0, .slice none 0 0]) ?_ 0 _ rfl; (with_reducible repeat (first | refine blk_drewN ?_ _ | refine blk_drew ?_ | refine blk_alloc ?_ _)); exact BK567.out⟩, ⟨by repeat (first | (with_reducible first | exact HB.out | apply below_alloc | apply pw_below_drewN | apply below_drew1 | refine below_set ?_ GE567.out) | exact HB.out)⟩⟩
    · replace c10 := Bool.eq_false_iff.mpr c10
      subst c10
      have H1 : (spec_MakeTimes.j0 k a1 true t560 t563) = some (r1, r2) := by rw [if_neg (show ¬ (false = true) by decide)] at H; exact H
      clear H
      have H := H1
      clear H1
      have H' := Aside0.mk H
      clear H
      go_wp2
      go_meet
      case rel => exact ⟨_, (true), (by first | rfl | (simp; done) | (simp [*]; done) | (simp [Int.tmod_eq_emod_of_nonneg]; done)), H', ⟨by first | omega | exact Nat.le_refl _⟩, ⟨by (with_reducible repeat (first | apply Kd.R_alloc | apply Kd.R_drewN | apply Kd.R_drew)); exact Kd.R_mono (Kd.R_far (p := ⟨gb567, 1, none⟩) (Kd.R_far (p := ⟨gb567, 0, none⟩) (Kd.R_types HO562.out BK567.out (by decide)) (fun _ hk => hk.2) (.slice Ao7 t560.length co7)) (fun _ hk => hk.2) (.slice Ao9 t563.length co9)) (fun _ hk => hk.1)⟩, ⟨by (with_reducible repeat (first | apply Kd.R_alloc | apply Kd.R_drewN | apply Kd.R_drew)); exact Kd.R_mono (Kd.R_far (p := ⟨gb567, 1, none⟩) (Kd.R_far (p := ⟨gb567, 0, none⟩) (Kd.R_types HO565.out BK567.out (by decide)) (fun _ hk => hk.2) (.slice Ao7 t560.length co7)) (fun _ hk => hk.2) (.slice Ao9 t563.length co9)) (fun _ hk => hk.1)⟩, ⟨by (with_reducible repeat (first | refine blk_drewN ?_ _ | refine blk_drew ?_ | refine blk_alloc ?_ _)); refine blk_put (cs := #[.slice Ao7 t560.length co7, .slice none 0 0]) ?_ 1 _ rfl; (with_reducible repeat (first | refine blk_drewN ?_ _ | refine blk_drew ?_ | refine blk_alloc ?_ _)); refine blk_put (cs := #[.slice none 0 0, .slice none 0 0]) ?_ 0 _ rfl; (with_reducible repeat (first | refine blk_drewN ?_ _ | refine blk_drew ?_ | refine blk_alloc ?_ _)); exact BK567.out⟩, ⟨by repeat (first | (with_reducible first | exact HB.out | apply below_alloc | apply pw_below_drewN | apply below_drew1 | refine below_set ?_ GE567.out) | exact HB.out)⟩⟩
  case rest =>
    clear HC4
    try clear c1
    try clear c2
    try clear p2
    try clear c3
    try clear c10
    try clear hcz8_0
    try clear hcz8_1
    try clear hfz8_0
    try clear hfz8_1
    obtain ⟨kq, x23_3, rfl, HA, HJ3, HO_568000, HO_568001, BK567, HB⟩ := hcut
    cases kq with
    | zero => exact absurd HA.out (by simp [spec_MakeTimes.j0])
    | succ kj3 =>
      have H := HA.out
      clear HA
      simp only [spec_MakeTimes.j0] at H
      by_cases c12 : x23_3 = true
      · subst c12
        have H1 : (some ((⟨#[]⟩ : ByteArray), false)) = some (r1, r2) := by rw [if_pos rfl] at H; exact H
        clear H
        have H := H1
        clear H1
        simp only [Option.some.injEq, Prod.mk.injEq] at H
        obtain ⟨rfl, rfl⟩ := H
        go_wp2
        go_ret2
        exact ⟨by first | rfl | (simp [errW_none, errW_some] <;> rfl) | (simp [*, errW_none, errW_some] <;> rfl) | (simp [errW_none, errW_some]; exact ⟨rfl, rfl⟩), by repeat (first | (with_reducible first | exact HB.out | apply below_alloc | apply pw_below_drewN | apply below_drew1 | refine below_set ?_ GE567.out) | exact HB.out)⟩
      · replace c12 := Bool.eq_false_iff.mpr c12
        subst c12
        have H1 : (if a1 = 0 then ((spec_l1Ends.f kj3 t560 t563).bind fun t569 => (spec_MakeTimes.l0 kj3 (!t569) 0 t560 t563)) else (spec_MakeTimes.l1 kj3 a1 (([] : List Bool)) 0 t560 t563)) = some (r1, r2) := by rw [if_neg (show ¬ (false = true) by decide)] at H; exact H
        clear H
        have H := H1
        clear H1
        by_cases c13 : a1 = 0
        · rw [if_pos c13] at H
          have c13b0 : (a1 == 0) = true := beq_iff_eq.mpr c13
          have c13b1 : (a1 != 0) = false := bne_eq_false_iff_eq.mpr c13
          clear c13
          replace H := Option.bind_eq_some_iff.mp H
          obtain ⟨t569, A140, H⟩ := H
          replace H : (spec_MakeTimes.l0 kj3 (!t569) 0 t560 t563) = some (r1, r2) := H
          have A14 := Aside0.mk A140
          clear A140
          have H' := Aside0.mk H
          clear H
          have hcz15_0 : wc.cell? ⟨gb567, 0, none⟩ = some (.slice Ao7 t560.length co7) := (blk_cell BK567.out 0).trans rfl
          have hcz15_1 : wc.cell? ⟨gb567, 1, none⟩ = some (.slice Ao9 t563.length co9) := (blk_cell BK567.out 1).trans rfl
          have hfz15_0 := blk_frozen BK567.out 0
          have hfz15_1 := blk_frozen BK567.out 1
          go_wp2_with (first | ((with_reducible refine gate_callee (f := 55) rfl ?_); refine goesL_ (some 27) rfl rfl Try.func55 (by kernel_rfl) rfl #[.agg #[.slice Ao7 t560.length co7, .slice Ao9 t563.length co9]] rfl (by (try simp only [List.map_toArray, List.map_cons, List.map_nil]); first | done | rfl | (simp only [List.length_drop, List.length_take]; rfl)) ?_; (with_reducible refine (spec_l1Ends.calls kj3 _ _ t560 _ _ t563 t569 _ ?side1 ?side2 ?side3 ?side4 A14.out).mono ?_); (case side1 => repeat (first | exact (Kd.R_reads' HO_568000.out).2.2 | (with_reducible refine Kd.C_alloc ?_ _) | (with_reducible refine Kd.C_drewN ?_ _) | (with_reducible refine Kd.C_drew ?_))); (case side2 => exact (Kd.R_reads' HO_568000.out).2.1); (case side3 => repeat (first | exact (Kd.R_reads' HO_568001.out).2.2 | (with_reducible refine Kd.C_alloc ?_ _) | (with_reducible refine Kd.C_drewN ?_ _) | (with_reducible refine Kd.C_drew ?_))); (case side4 => exact (Kd.R_reads' HO_568001.out).2.1); rintro e w16 ⟨rfl, hb⟩; refine ⟨_, rfl, ?_⟩; have n0_ := Aside0.mk (Kd.R_below (by (with_reducible repeat (first | apply Kd.R_alloc | apply Kd.R_drewN | apply Kd.R_drew)); exact HO_568000.out) hb); have n1_ := Aside0.mk (Kd.R_below (by (with_reducible repeat (first | apply Kd.R_alloc | apply Kd.R_drewN | apply Kd.R_drew)); exact HO_568001.out) hb); have n2_ := Aside0.mk (blk_below (g := gb567) (o := .cells #[.slice Ao7 t560.length co7, .slice Ao9 t563.length co9] 48 (0, 0)) (by (with_reducible repeat (first | refine blk_drewN ?_ _ | refine blk_drew ?_ | refine blk_alloc ?_ _)); exact BK567.out) hb); have n3_ := Aside0.mk (below_step (by repeat (first | (with_reducible first | exact HB.out | apply below_alloc | apply pw_below_drewN | apply below_drew1 | refine below_set ?_ GE567.out) | exact HB.out)) hb); clear HO_568000; clear HO_568001; clear BK567; clear HB; have HO_568000 := n0_; have HO_568001 := n1_; have BK567 := n2_; have HB := n3_; clear n0_ n1_ n2_ n3_; (try clear hb); (try clear hb2); (try clear hk); (try clear hi)))
          go_loopg [8, 9] kj3 (fun kq v8 v9 w' => ∃ (x8_2 : Bool) (x9_2 : Int), v8 = .bool x8_2 ∧ v9 = .int .i64 x9_2 ∧ Aside0 (spec_MakeTimes.l0 kq x8_2 x9_2 t560 t563 = some (r1, r2)) ∧ Aside0 (kq ≤ kj3) ∧ Aside0 (Kd.R Kd.bool 4 w' w.heap.size (fun k_ => some k_ ≠ ((.slice Ao9 t563.length co9) : Value).ownBlock) (.slice Ao7 t560.length co7) t560) ∧ Aside0 (Kd.R Kd.bool 4 w' w.heap.size (fun k_ => some k_ ≠ ((.slice Ao7 t560.length co7) : Value).ownBlock) (.slice Ao9 t563.length co9) t563) ∧ Aside0 (w'.heap[gb567]? = some (.cells #[(.slice Ao7 t560.length co7), (.slice Ao9 t563.length co9)] 48 (0, 0))) ∧ Aside0 (Below w.heap.size w w'))
          case atStart => exact ⟨(!t569), (0), (by first | rfl | (simp; done) | (simp [*]; done) | (simp [Int.tmod_eq_emod_of_nonneg]; done)), (by first | rfl | (simp; done) | (simp [*]; done) | (simp [Int.tmod_eq_emod_of_nonneg]; done)), H', ⟨Nat.le_refl _⟩, ⟨by (with_reducible repeat (first | apply Kd.R_alloc | apply Kd.R_drewN | apply Kd.R_drew)); exact HO_568000.out⟩, ⟨by (with_reducible repeat (first | apply Kd.R_alloc | apply Kd.R_drewN | apply Kd.R_drew)); exact HO_568001.out⟩, ⟨by (with_reducible repeat (first | refine blk_drewN ?_ _ | refine blk_drew ?_ | refine blk_alloc ?_ _)); exact BK567.out⟩, ⟨by repeat (first | (with_reducible first | exact HB.out | apply below_alloc | apply pw_below_drewN | apply below_drew1 | refine below_set ?_ GE567.out) | exact HB.out)⟩⟩
          case round =>
            clear H'
            try clear c1
            try clear c2
            try clear p2
            try clear c3
            try clear c5
            try clear c10
            try clear c12
            try clear c13
            try clear c13b0
            try clear c13b1
            try clear hcz15_0
            try clear hcz15_1
            try clear hcz8_0
            try clear hcz8_1
            try clear hfz15_0
            try clear hfz15_1
            try clear hfz8_0
            try clear hfz8_1
            try clear p2
            obtain ⟨x8_2, x9_2, rfl, rfl, HA, HK2, HO_568000, HO_568001, BK567, HB⟩ := hrel
            cases gk with
            | zero => exact absurd HA.out (by simp [spec_MakeTimes.l0])
            | succ k2 =>
              have H := HA.out
              clear HA
              simp only [spec_MakeTimes.l0] at H
              by_cases c17 : x9_2 < (t560.length : Int)
              · rw [if_pos c17] at H
                have c17b0 : decide (x9_2 < (t560.length : Int)) = true := decide_eq_true c17
                clear c17
                by_cases c18 : x8_2 = true
                · subst c18
                  have H1 : (spec_MakeTimes.l0 k2 true (wrap64 (x9_2 + 1)) t560 t563) = some (r1, r2) := by rw [if_pos rfl] at H; exact H
                  clear H
                  have H := H1
                  clear H1
                  have H' := Aside0.mk H
                  clear H
                  have hcz19_0 : wr.cell? ⟨gb567, 0, none⟩ = some (.slice Ao7 t560.length co7) := (blk_cell BK567.out 0).trans rfl
                  have hcz19_1 : wr.cell? ⟨gb567, 1, none⟩ = some (.slice Ao9 t563.length co9) := (blk_cell BK567.out 1).trans rfl
                  have hfz19_0 := blk_frozen BK567.out 0
                  have hfz19_1 := blk_frozen BK567.out 1
                  go_wp2
                  go_roundg k2
                  case measure => have := HJ3.out; have := HK2.out; omega
                  case rel => exact ⟨(true), (wrap64 (x9_2 + 1)), (by first | rfl | (simp; done) | (simp [*]; done) | (simp [Int.tmod_eq_emod_of_nonneg]; done)), (by first | rfl | (simp; done) | (simp [*]; done) | (simp [Int.tmod_eq_emod_of_nonneg]; done)), H', ⟨by have := HJ3.out; have := HK2.out; omega⟩, ⟨by (with_reducible repeat (first | apply Kd.R_alloc | apply Kd.R_drewN | apply Kd.R_drew)); exact HO_568000.out⟩, ⟨by (with_reducible repeat (first | apply Kd.R_alloc | apply Kd.R_drewN | apply Kd.R_drew)); exact HO_568001.out⟩, ⟨by (with_reducible repeat (first | refine blk_drewN ?_ _ | refine blk_drew ?_ | refine blk_alloc ?_ _)); exact BK567.out⟩, ⟨by repeat (first | (with_reducible first | exact HB.out | apply below_alloc | apply pw_below_drewN | apply below_drew1 | refine below_set ?_ GE567.out) | exact HB.out)⟩⟩
                · replace c18 := Bool.eq_false_iff.mpr c18
                  subst c18
                  have H1 : (if 0 ≤ x9_2 then (spec_MakeTimes.l0 k2 (rdOf false t560 x9_2) (wrap64 (x9_2 + 1)) t560 t563) else (none)) = some (r1, r2) := by rw [if_neg (show ¬ (false = true) by decide)] at H; exact H
                  clear H
                  have H := H1
                  clear H1
                  by_cases c20 : 0 ≤ x9_2
                  · rw [if_pos c20] at H
                    have c20b0 : decide (0 ≤ x9_2) = true := decide_eq_true c20
                    clear c20
                    have H' := Aside0.mk H
                    clear H
                    have hcz21_0 : wr.cell? ⟨gb567, 0, none⟩ = some (.slice Ao7 t560.length co7) := (blk_cell BK567.out 0).trans rfl
                    have hcz21_1 : wr.cell? ⟨gb567, 1, none⟩ = some (.slice Ao9 t563.length co9) := (blk_cell BK567.out 1).trans rfl
                    have hfz21_0 := blk_frozen BK567.out 0
                    have hfz21_1 := blk_frozen BK567.out 1
                    have p570 : 0 ≤ (x9_2 : Int) := of_decide_eq_true (by first | (with_reducible assumption) | assumption)
                    have q570 : x9_2 < (t560.length : Int) := of_decide_eq_true (by first | (with_reducible assumption) | assumption)
                    obtain ⟨ad570, e570, hx570_0⟩ := Kd.at_bool (Kd.R_reads' HO_568000.out).2.2 x9_2 p570 q570
                    cases e570
                    replace p570 := eq_true p570
                    replace q570 := eq_true q570
                    go_wp2
                    go_roundg k2
                    case measure => have := HJ3.out; have := HK2.out; omega
                    case rel => exact ⟨(rdOf false t560 x9_2), (wrap64 (x9_2 + 1)), (by first | rfl | (simp; done) | (simp [*]; done) | (simp [Int.tmod_eq_emod_of_nonneg]; done)), (by first | rfl | (simp; done) | (simp [*]; done) | (simp [Int.tmod_eq_emod_of_nonneg]; done)), H', ⟨by have := HJ3.out; have := HK2.out; omega⟩, ⟨by (with_reducible repeat (first | apply Kd.R_alloc | apply Kd.R_drewN | apply Kd.R_drew)); exact HO_568000.out⟩, ⟨by (with_reducible repeat (first | apply Kd.R_alloc | apply Kd.R_drewN | apply Kd.R_drew)); exact HO_568001.out⟩, ⟨by (with_reducible repeat (first | refine blk_drewN ?_ _ | refine blk_drew ?_ | refine blk_alloc ?_ _)); exact BK567.out⟩, ⟨by repeat (first | (with_reducible first | exact HB.out | apply below_alloc | apply pw_below_drewN | apply below_drew1 | refine below_set ?_ GE567.out) | exact HB.out)⟩⟩
                  · rw [if_neg c20] at H
                    exact absurd H (by simp)
              · rw [if_neg c17] at H
                have c17b0 : decide (x9_2 < (t560.length : Int)) = false := decide_eq_false c17
                clear c17
                obtain ⟨y571, hy571⟩ : ∃ y_ : List Bool, y_ = (([x8_2] : List Bool)) := ⟨_, rfl⟩
                replace H : ((spec_l1Done.f k2 y571 (([false] : List Bool))).bind fun bt577 => (some (bt577.1, bt577.2))) = some (r1, r2) := by first | (rw [hy571]; with_reducible exact H) | (have H2_ := (Option.bind_some _ _).symm.trans H; rw [hy571]; with_reducible exact H2_) | (have H2_ := (Option.bind_some _ _).symm.trans H; with_reducible exact H2_) | with_reducible exact H | (rw [hy571]; exact H) | exact H
                have Ny571 := Aside0.mk hy571
                clear hy571
                obtain ⟨y574, hy574⟩ : ∃ y_ : List Bool, y_ = (([false] : List Bool)) := ⟨_, rfl⟩
                replace H : ((spec_l1Done.f k2 y571 y574).bind fun bt577 => (some (bt577.1, bt577.2))) = some (r1, r2) := by first | (rw [hy574]; with_reducible exact H) | (have H2_ := (Option.bind_some _ _).symm.trans H; rw [hy574]; with_reducible exact H2_) | (have H2_ := (Option.bind_some _ _).symm.trans H; with_reducible exact H2_) | with_reducible exact H | (rw [hy574]; exact H) | exact H
                have Ny574 := Aside0.mk hy574
                clear hy574
                replace H := Option.bind_eq_some_iff.mp H
                obtain ⟨⟨t577, t578⟩, A220, H⟩ := H
                replace H : (some (t577, t578)) = some (r1, r2) := H
                have A22 := Aside0.mk A220
                clear A220
                simp only [Option.some.injEq, Prod.mk.injEq] at H
                obtain ⟨rfl, rfl⟩ := H
                have hcz23_0 : wr.cell? ⟨gb567, 0, none⟩ = some (.slice Ao7 t560.length co7) := (blk_cell BK567.out 0).trans rfl
                have hcz23_1 : wr.cell? ⟨gb567, 1, none⟩ = some (.slice Ao9 t563.length co9) := (blk_cell BK567.out 1).trans rfl
                have hfz23_0 := blk_frozen BK567.out 0
                have hfz23_1 := blk_frozen BK567.out 1
                go_wp2_with (first | ((with_reducible refine gate_dst (N := 45) rfl ?_); refine Kd.R_lit Kd.bool _ 4 ?hg (N := 45) ?hd (xs := ([x8_2] : List Bool)) (inner := [.bool x8_2]) (ok := fun _ => True) (okp := fun _ => True) ?hr ?hp (fun _ hk => hk) trivial (Below.refl _ _) (Nat.le_refl _) (by simp) ?_; (case hd => rfl); (case hg => rfl); (case hr => first | (go_simp; done) | (go_simp; rfl)); (case hp => exact (Reps.one (show Kd.M Kd.bool _ _ _ x8_2 [.bool x8_2] from rfl) (Reps.none _ _))); intro v572 w24 ho25 hb hg_ hnew_; clear hg_ hnew_; (first | rw [← Ny571.out] at ho25 | (simp only [Int.reduceToNat] at ho25; rw [← Ny571.out] at ho25)); have n0_ := Aside0.mk (Kd.R_elder' (by (with_reducible repeat (first | apply Kd.R_alloc | apply Kd.R_drewN | apply Kd.R_drew)); exact HO_568000.out) (Kd.R_base ho25) hb); have n1_ := Aside0.mk (Kd.R_elder' (by (with_reducible repeat (first | apply Kd.R_alloc | apply Kd.R_drewN | apply Kd.R_drew)); exact HO_568001.out) (Kd.R_base ho25) hb); have n2_ := Aside0.mk (Kd.R_lower (Kd.R_new' (Kd.R_new' ho25 (Kd.R_lt (by (with_reducible repeat (first | apply Kd.R_alloc | apply Kd.R_drewN | apply Kd.R_drew)); exact HO_568000.out))) (Kd.R_lt (by (with_reducible repeat (first | apply Kd.R_alloc | apply Kd.R_drewN | apply Kd.R_drew)); exact HO_568001.out))) (below_size (by repeat (first | (with_reducible first | exact HB.out | apply below_alloc | apply pw_below_drewN | apply below_drew1 | refine below_set ?_ GE567.out) | exact HB.out)))); have n3_ := Aside0.mk (blk_below (g := gb567) (o := .cells #[.slice Ao7 t560.length co7, .slice Ao9 t563.length co9] 48 (0, 0)) (by (with_reducible repeat (first | refine blk_drewN ?_ _ | refine blk_drew ?_ | refine blk_alloc ?_ _)); exact BK567.out) hb); have n4_ := Aside0.mk (below_step (by repeat (first | (with_reducible first | exact HB.out | apply below_alloc | apply pw_below_drewN | apply below_drew1 | refine below_set ?_ GE567.out) | exact HB.out)) hb); clear HO_568000; clear HO_568001; clear BK567; clear HB; have HO_568000 := n0_; have HO_568001 := n1_; have HO573 := n2_; have BK567 := n3_; have HB := n4_; clear n0_ n1_ n2_ n3_ n4_; clear hb ho25) | ((with_reducible refine gate_dst (N := 46) rfl ?_); refine Kd.R_lit Kd.bool _ 4 ?hg (N := 46) ?hd (xs := ([false] : List Bool)) (inner := [.bool false]) (ok := fun _ => True) (okp := fun _ => True) ?hr ?hp (fun _ hk => hk) trivial (Below.refl _ _) (Nat.le_refl _) (by simp) ?_; (case hd => rfl); (case hg => rfl); (case hr => first | (go_simp; done) | (go_simp; rfl)); (case hp => exact (Reps.one (show Kd.M Kd.bool _ _ _ false [.bool false] from rfl) (Reps.none _ _))); intro v575 w26 ho27 hb hg_ hnew_; clear hg_ hnew_; (first | rw [← Ny574.out] at ho27 | (simp only [Int.reduceToNat] at ho27; rw [← Ny574.out] at ho27)); have n0_ := Aside0.mk (Kd.R_elder' (by (with_reducible repeat (first | apply Kd.R_alloc | apply Kd.R_drewN | apply Kd.R_drew)); exact HO_568000.out) (Kd.R_base ho27) hb); have n1_ := Aside0.mk (Kd.R_elder' (by (with_reducible repeat (first | apply Kd.R_alloc | apply Kd.R_drewN | apply Kd.R_drew)); exact HO_568001.out) (Kd.R_base ho27) hb); have n2_ := Aside0.mk (Kd.R_elder' (by (with_reducible repeat (first | apply Kd.R_alloc | apply Kd.R_drewN | apply Kd.R_drew)); exact HO573.out) (Kd.R_base ho27) hb); have n3_ := Aside0.mk (Kd.R_lower (Kd.R_new' (Kd.R_new' (Kd.R_new' ho27 (Kd.R_lt (by (with_reducible repeat (first | apply Kd.R_alloc | apply Kd.R_drewN | apply Kd.R_drew)); exact HO_568000.out))) (Kd.R_lt (by (with_reducible repeat (first | apply Kd.R_alloc | apply Kd.R_drewN | apply Kd.R_drew)); exact HO_568001.out))) (Kd.R_lt (by (with_reducible repeat (first | apply Kd.R_alloc | apply Kd.R_drewN | apply Kd.R_drew)); exact HO573.out))) (below_size (by repeat (first | (with_reducible first | exact HB.out | apply below_alloc | apply pw_below_drewN | apply below_drew1 | refine below_set ?_ GE567.out) | exact HB.out)))); have n4_ := Aside0.mk (blk_below (g := gb567) (o := .cells #[.slice Ao7 t560.length co7, .slice Ao9 t563.length co9] 48 (0, 0)) (by (with_reducible repeat (first | refine blk_drewN ?_ _ | refine blk_drew ?_ | refine blk_alloc ?_ _)); exact BK567.out) hb); have n5_ := Aside0.mk (below_step (by repeat (first | (with_reducible first | exact HB.out | apply below_alloc | apply pw_below_drewN | apply below_drew1 | refine below_set ?_ GE567.out) | exact HB.out)) hb); clear HO_568000; clear HO_568001; clear HO573; clear BK567; clear HB; have HO_568000 := n0_; have HO_568001 := n1_; have HO573 := n2_; have HO576 := n3_; have BK567 := n4_; have HB := n5_; clear n0_ n1_ n2_ n3_ n4_ n5_; clear hb ho27; obtain ⟨Ao28, co28, eo28⟩ := Kd.R_slice HO576.out; subst eo28; obtain ⟨Ao29, co29, eo29⟩ := Kd.R_slice HO573.out; subst eo29) | ((with_reducible refine gate_callee (f := 45) rfl ?_); refine goesL_ (some 48) rfl rfl Try.func45 (by kernel_rfl) rfl #[.agg #[.slice Ao29 y571.length co29, .slice Ao28 y574.length co28]] rfl (by (try simp only [List.map_toArray, List.map_cons, List.map_nil]); first | done | rfl | (simp only [List.length_drop, List.length_take]; rfl)) ?_; (with_reducible refine (spec_l1Done.calls k2 _ _ y571 _ _ y574 t577 t578 _ ?side1 ?side2 ?side3 ?side4 A22.out).mono ?_); (case side1 => repeat (first | exact (Kd.R_reads' HO573.out).2.2 | (with_reducible refine Kd.C_alloc ?_ _) | (with_reducible refine Kd.C_drewN ?_ _) | (with_reducible refine Kd.C_drew ?_))); (case side2 => exact (Kd.R_reads' HO573.out).2.1); (case side3 => repeat (first | exact (Kd.R_reads' HO576.out).2.2 | (with_reducible refine Kd.C_alloc ?_ _) | (with_reducible refine Kd.C_drewN ?_ _) | (with_reducible refine Kd.C_drew ?_))); (case side4 => exact (Kd.R_reads' HO576.out).2.1); rintro e w30 ⟨rfl, hb⟩; refine ⟨_, rfl, ?_⟩; have n0_ := Aside0.mk (Kd.R_below (by (with_reducible repeat (first | apply Kd.R_alloc | apply Kd.R_drewN | apply Kd.R_drew)); exact HO_568000.out) hb); have n1_ := Aside0.mk (Kd.R_below (by (with_reducible repeat (first | apply Kd.R_alloc | apply Kd.R_drewN | apply Kd.R_drew)); exact HO_568001.out) hb); have n2_ := Aside0.mk (Kd.R_below (by (with_reducible repeat (first | apply Kd.R_alloc | apply Kd.R_drewN | apply Kd.R_drew)); exact HO573.out) hb); have n3_ := Aside0.mk (Kd.R_below (by (with_reducible repeat (first | apply Kd.R_alloc | apply Kd.R_drewN | apply Kd.R_drew)); exact HO576.out) hb); have n4_ := Aside0.mk (blk_below (g := gb567) (o := .cells #[.slice Ao7 t560.length co7, .slice Ao9 t563.length co9] 48 (0, 0)) (by (with_reducible repeat (first | refine blk_drewN ?_ _ | refine blk_drew ?_ | refine blk_alloc ?_ _)); exact BK567.out) hb); have n5_ := Aside0.mk (below_step (by repeat (first | (with_reducible first | exact HB.out | apply below_alloc | apply pw_below_drewN | apply below_drew1 | refine below_set ?_ GE567.out) | exact HB.out)) hb); clear HO_568000; clear HO_568001; clear HO573; clear HO576; clear BK567; clear HB; have HO_568000 := n0_; have HO_568001 := n1_; have HO573 := n2_; have HO576 := n3_; have BK567 := n4_; have HB := n5_; clear n0_ n1_ n2_ n3_ n4_ n5_; (try clear hb); (try clear hb2); (try clear hk); (try clear hi)))
                go_ret2
                exact ⟨by first | rfl | (simp [errW_none, errW_some] <;> rfl) | (simp [*, errW_none, errW_some] <;> rfl) | (simp [errW_none, errW_some]; exact ⟨rfl, rfl⟩), by repeat (first | (with_reducible first | exact HB.out | apply below_alloc | apply pw_below_drewN | apply below_drew1 | refine below_set ?_ GE567.out) | exact HB.out)⟩
        · rw [if_neg c13] at H
          have c13b0 : (a1 == 0) = false := beq_eq_false_iff_ne.mpr c13
          have c13b1 : (a1 != 0) = true := bne_iff_ne.mpr c13
          obtain ⟨y579, hy579⟩ : ∃ y_ : List Bool, y_ = (([] : List Bool)) := ⟨_, rfl⟩
          replace H : (spec_MakeTimes.l1 kj3 a1 y579 0 t560 t563) = some (r1, r2) := by first | (rw [hy579]; with_reducible exact H) | (have H2_ := (Option.bind_some _ _).symm.trans H; rw [hy579]; with_reducible exact H2_) | (have H2_ := (Option.bind_some _ _).symm.trans H; with_reducible exact H2_) | with_reducible exact H | (rw [hy579]; exact H) | exact H
          have Ny579 := Aside0.mk hy579
          clear hy579
          have H' := Aside0.mk H
          clear H
          go_wp2_with (first | ((with_reducible refine gate_dst (N := 51) rfl ?_); refine Kd.R_lit Kd.bool _ 4 ?hg (N := 51) ?hd (xs := ([] : List Bool)) (inner := []) (ok := fun _ => True) (okp := fun _ => True) ?hr ?hp (fun _ hk => hk) trivial (Below.refl _ _) (Nat.le_refl _) (by simp) ?_; (case hd => rfl); (case hg => rfl); (case hr => first | (go_simp; done) | (go_simp; rfl)); (case hp => exact (Reps.none _ _)); intro v580 w31 ho32 hb hg_ hnew_; clear hg_ hnew_; (first | rw [← Ny579.out] at ho32 | (simp only [Int.reduceToNat] at ho32; rw [← Ny579.out] at ho32)); have n0_ := Aside0.mk (Kd.R_elder' (by (with_reducible repeat (first | apply Kd.R_alloc | apply Kd.R_drewN | apply Kd.R_drew)); exact HO_568000.out) (Kd.R_base ho32) hb); have n1_ := Aside0.mk (Kd.R_elder' (by (with_reducible repeat (first | apply Kd.R_alloc | apply Kd.R_drewN | apply Kd.R_drew)); exact HO_568001.out) (Kd.R_base ho32) hb); have n2_ := Aside0.mk (Kd.R_lower (Kd.R_new' (Kd.R_new' ho32 (Kd.R_lt (by (with_reducible repeat (first | apply Kd.R_alloc | apply Kd.R_drewN | apply Kd.R_drew)); exact HO_568000.out))) (Kd.R_lt (by (with_reducible repeat (first | apply Kd.R_alloc | apply Kd.R_drewN | apply Kd.R_drew)); exact HO_568001.out))) (below_size (by repeat (first | (with_reducible first | exact HB.out | apply below_alloc | apply pw_below_drewN | apply below_drew1 | refine below_set ?_ GE567.out) | exact HB.out)))); have n3_ := Aside0.mk (blk_below (g := gb567) (o := .cells #[.slice Ao7 t560.length co7, .slice Ao9 t563.length co9] 48 (0, 0)) (by (with_reducible repeat (first | refine blk_drewN ?_ _ | refine blk_drew ?_ | refine blk_alloc ?_ _)); exact BK567.out) hb); have n4_ := Aside0.mk (below_step (by repeat (first | (with_reducible first | exact HB.out | apply below_alloc | apply pw_below_drewN | apply below_drew1 | refine below_set ?_ GE567.out) | exact HB.out)) hb); clear HO_568000; clear HO_568001; clear BK567; clear HB; have HO_568000 := n0_; have HO_568001 := n1_; have HO581 := n2_; have BK567 := n3_; have HB := n4_; clear n0_ n1_ n2_ n3_ n4_; clear hb ho32))
          go_loopg [10, 11] kj3 (fun kq v10 v11 w' => ∃ (x10_2 : List Bool) (x11_2 : Int), v11 = .int .i64 x11_2 ∧ Aside0 (spec_MakeTimes.l1 kq a1 x10_2 x11_2 t560 t563 = some (r1, r2)) ∧ Aside0 (kq ≤ kj3) ∧ Aside0 (Kd.R Kd.bool 4 w' w.heap.size (fun k_ => some k_ ≠ ((.slice Ao7 t560.length co7) : Value).ownBlock ∧ some k_ ≠ ((.slice Ao9 t563.length co9) : Value).ownBlock) v10 x10_2) ∧ Aside0 (Kd.R Kd.bool 4 w' w.heap.size (fun k_ => some k_ ≠ (v10 : Value).ownBlock ∧ some k_ ≠ ((.slice Ao9 t563.length co9) : Value).ownBlock) (.slice Ao7 t560.length co7) t560) ∧ Aside0 (Kd.R Kd.bool 4 w' w.heap.size (fun k_ => some k_ ≠ (v10 : Value).ownBlock ∧ some k_ ≠ ((.slice Ao7 t560.length co7) : Value).ownBlock) (.slice Ao9 t563.length co9) t563) ∧ Aside0 (w'.heap[gb567]? = some (.cells #[(.slice Ao7 t560.length co7), (.slice Ao9 t563.length co9)] 48 (0, 0))) ∧ Aside0 (Below w.heap.size w w'))
          case atStart => exact ⟨(y579), (0), (by first | rfl | (simp; done) | (simp [*]; done) | (simp [Int.tmod_eq_emod_of_nonneg]; done)), H', ⟨Nat.le_refl _⟩, ⟨by (with_reducible repeat (first | apply Kd.R_alloc | apply Kd.R_drewN | apply Kd.R_drew)); exact Kd.R_mono HO581.out (fun _ hk => ⟨hk.1.2, hk.2⟩)⟩, ⟨by (with_reducible repeat (first | apply Kd.R_alloc | apply Kd.R_drewN | apply Kd.R_drew)); exact Kd.R_mono HO_568000.out (fun _ hk => ⟨hk.2, hk.1⟩)⟩, ⟨by (with_reducible repeat (first | apply Kd.R_alloc | apply Kd.R_drewN | apply Kd.R_drew)); exact Kd.R_mono HO_568001.out (fun _ hk => ⟨hk.2, hk.1⟩)⟩, ⟨by (with_reducible repeat (first | refine blk_drewN ?_ _ | refine blk_drew ?_ | refine blk_alloc ?_ _)); exact BK567.out⟩, ⟨by repeat (first | (with_reducible first | exact HB.out | apply below_alloc | apply pw_below_drewN | apply below_drew1 | refine below_set ?_ GE567.out) | exact HB.out)⟩⟩
          case round =>
            clear H'
            try clear c1
            try clear c2
            try clear p2
            try clear c3
            try clear c4
            try clear c5
            try clear p5
            try clear q5
            try clear hx5
            try clear p6
            try clear c10
            try clear c12
            try clear c13
            try clear c13b0
            try clear c13b1
            try clear c17
            try clear c17b0
            try clear c18
            try clear c20
            try clear c20b0
            try clear c29
            try clear hcz15_0
            try clear hcz15_1
            try clear hcz19_0
            try clear hcz19_1
            try clear hcz21_0
            try clear hcz21_1
            try clear hcz23_0
            try clear hcz23_1
            try clear hcz8_0
            try clear hcz8_1
            try clear hfz15_0
            try clear hfz15_1
            try clear hfz19_0
            try clear hfz19_1
            try clear hfz21_0
            try clear hfz21_1
            try clear hfz23_0
            try clear hfz23_1
            try clear hfz8_0
            try clear hfz8_1
            try clear hx570_0
            try clear p2
            try clear p570
            try clear q570
            obtain ⟨x10_2, x11_2, rfl, HA, HK2, HO_10, HO_568000, HO_568001, BK567, HB⟩ := hrel
            cases gk with
            | zero => exact absurd HA.out (by simp [spec_MakeTimes.l1])
            | succ k2 =>
              have H := HA.out
              clear HA
              simp only [spec_MakeTimes.l1] at H
              by_cases c33 : x11_2 < (wrap64 (a1 * (wrap64 ((t560.length : Int) + (t563.length : Int)))))
              · rw [if_pos c33] at H
                have c33b0 : decide (x11_2 < (wrap64 (a1 * (wrap64 ((t560.length : Int) + (t563.length : Int)))))) = true := decide_eq_true c33
                clear c33
                by_cases c34 : a1 = 0
                · rw [if_pos c34] at H
                  exact absurd H (by simp)
                · rw [if_neg c34] at H
                  have c34b0 : (a1 == 0) = false := beq_eq_false_iff_ne.mpr c34
                  have c34b1 : (a1 != 0) = true := bne_iff_ne.mpr c34
                  by_cases c35 : (Int.tmod x11_2 a1) = 0
                  · rw [if_pos c35] at H
                    have c35b0 : ((Int.tmod x11_2 a1) == 0) = true := beq_iff_eq.mpr c35
                    have c35b1 : ((Int.tmod x11_2 a1) != 0) = false := bne_eq_false_iff_eq.mpr c35
                    clear c35
                    replace H := Option.bind_eq_some_iff.mp H
                    obtain ⟨t582, A360, H⟩ := H
                    replace H : (if x10_2.length < 140737488355328 then (spec_MakeTimes.l1 k2 a1 (x10_2 ++ [t582]) (wrap64 (x11_2 + 1)) t560 t563) else (none)) = some (r1, r2) := H
                    have A36 := Aside0.mk A360
                    clear A360
                    by_cases c37 : x10_2.length < 140737488355328
                    · rw [if_pos c37] at H
                      have LMc37 := Aside0.mk c37
                      clear c37
                      obtain ⟨y583, hy583⟩ : ∃ y_ : List Bool, y_ = (x10_2 ++ [t582]) := ⟨_, rfl⟩
                      replace H : (spec_MakeTimes.l1 k2 a1 y583 (wrap64 (x11_2 + 1)) t560 t563) = some (r1, r2) := by first | (rw [hy583]; with_reducible exact H) | (have H2_ := (Option.bind_some _ _).symm.trans H; rw [hy583]; with_reducible exact H2_) | (have H2_ := (Option.bind_some _ _).symm.trans H; with_reducible exact H2_) | with_reducible exact H | (rw [hy583]; exact H) | exact H
                      have Ny583 := Aside0.mk hy583
                      clear hy583
                      have H' := Aside0.mk H
                      clear H
                      have hcz38_0 : wr.cell? ⟨gb567, 0, none⟩ = some (.slice Ao7 t560.length co7) := (blk_cell BK567.out 0).trans rfl
                      have hcz38_1 : wr.cell? ⟨gb567, 1, none⟩ = some (.slice Ao9 t563.length co9) := (blk_cell BK567.out 1).trans rfl
                      have hfz38_0 := blk_frozen BK567.out 0
                      have hfz38_1 := blk_frozen BK567.out 1
                      try go_wp2
                      have n0_ := Aside0.mk (Kd.R_drew HO_10.out)
                      have n1_ := Aside0.mk (Kd.R_drew HO_568000.out)
                      have n2_ := Aside0.mk (Kd.R_drew HO_568001.out)
                      have n3_ := Aside0.mk (blk_drew BK567.out)
                      have n4_ := Aside0.mk (below_drew1 HB.out)
                      clear HO_10
                      clear HO_568000
                      clear HO_568001
                      clear BK567
                      clear HB
                      have HO_10 := n0_
                      have HO_568000 := n1_
                      have HO_568001 := n2_
                      have BK567 := n3_
                      have HB := n4_
                      clear n0_ n1_ n2_ n3_ n4_
                      refine start_ (n := 15) (S := fun w' => w'.cell? ⟨gb567, 0, none⟩ = some (.slice Ao7 t560.length co7) ∧ w'.cell? ⟨gb567, 1, none⟩ = some (.slice Ao9 t563.length co9)) (ds := []) #[false, false, false, false, false, false, false, false, false, false, false, false, false, false, false] (by kernel_rfl) rfl rfl ⟨(blk_cell BK567.out 0).trans rfl, (blk_cell BK567.out 1).trans rfl⟩ (fun hHeld => ?_); refine with_tabW spec_MakeTimes.tab15 spec_MakeTimes.bits15 (fun HT_ HW_ => ?_)
                      generalize wr.drew = w39 at HO_10 HO_568000 HO_568001 BK567 HB hHeld ⊢
                      refine pure_ (i := 0) (N := some 65) (v := ?_) (a' := ?_) #[true, false, false, false, false, false, false, false, false, false, false, false, false, false, false] rfl rfl (any_of HT_.out (by kernel_rfl)) (fun _ _ _ h => h) (Or.inl ⟨by rfl, ?_⟩) ?_ ?_
                      rotate_left
                      · intro w'
                        go_simp
                        with_reducible rfl
                      rotate_left
                      · simp only [Act.put, List.setIfInBounds_toArray, List.set_cons_zero, List.set_cons_succ, i64_w, i32_w]
                        rfl
                      refine pure_ (i := 1) (N := some 66) (v := ?_) (a' := ?_) #[true, true, false, false, false, false, false, false, false, false, false, false, false, false, false] rfl rfl (any_of HT_.out (by kernel_rfl)) (fun _ _ _ h => h) (Or.inl ⟨by rfl, ?_⟩) ?_ ?_
                      rotate_left
                      · intro w'
                        go_simp
                        with_reducible rfl
                      rotate_left
                      · simp only [Act.put, List.setIfInBounds_toArray, List.set_cons_zero, List.set_cons_succ, i64_w, i32_w]
                        rfl
                      refine pure_ (i := 2) (N := some 67) (v := ?_) (a' := ?_) #[true, true, true, false, false, false, false, false, false, false, false, false, false, false, false] rfl rfl (any_of HT_.out (by kernel_rfl)) (fun _ _ _ h => h) (Or.inl ⟨by rfl, ?_⟩) ?_ ?_
                      rotate_left
                      · intro w'
                        go_simp
                        with_reducible rfl
                      rotate_left
                      · simp only [Act.put, List.setIfInBounds_toArray, List.set_cons_zero, List.set_cons_succ, i64_w, i32_w]
                        rfl
                      refine pure_ (i := 3) (N := some 68) (v := ?_) (a' := ?_) #[true, true, true, true, false, false, false, false, false, false, false, false, false, false, false] rfl rfl (any_of HT_.out (by kernel_rfl)) (fun _ _ _ h => h) (Or.inl ⟨by rfl, ?_⟩) ?_ ?_
                      rotate_left
                      · intro w'
                        go_simp
                        with_reducible rfl
                      rotate_left
                      · simp only [Act.put, List.setIfInBounds_toArray, List.set_cons_zero, List.set_cons_succ, i64_w, i32_w]
                        rfl
                      refine pure_ (i := 4) (N := some 69) (v := ?_) (a' := ?_) #[true, true, true, true, true, false, false, false, false, false, false, false, false, false, false] rfl rfl (any_of HT_.out (by kernel_rfl)) (fun _ _ _ h => h) (Or.inl ⟨by rfl, ?_⟩) ?_ ?_
                      rotate_left
                      · intro w'
                        go_simp
                        with_reducible rfl
                      rotate_left
                      · simp only [Act.put, List.setIfInBounds_toArray, List.set_cons_zero, List.set_cons_succ, i64_w, i32_w]
                        rfl
                      refine pure_ (i := 5) (N := some 70) (v := ?_) (a' := ?_) #[true, true, true, true, true, true, false, false, false, false, false, false, false, false, false] rfl rfl (any_of HT_.out (by kernel_rfl)) (fun _ _ _ h => h) (Or.inl ⟨by rfl, ?_⟩) ?_ ?_
                      rotate_left
                      · intro w'
                        go_simp
                        with_reducible rfl
                      rotate_left
                      · simp only [Act.put, List.setIfInBounds_toArray, List.set_cons_zero, List.set_cons_succ, i64_w, i32_w]
                        rfl
                      refine pure_ (i := 7) (N := some 72) (v := ?_) (a' := ?_) #[true, true, true, true, true, true, false, true, false, false, false, false, false, false, false] rfl rfl (any_of HT_.out (by kernel_rfl)) (fun _ _ _ h => h) (Or.inl ⟨by rfl, ?_⟩) ?_ ?_
                      rotate_left
                      · intro w'
                        go_simp
                        with_reducible rfl
                      rotate_left
                      · simp only [Act.put, List.setIfInBounds_toArray, List.set_cons_zero, List.set_cons_succ, i64_w, i32_w]
                        rfl
                      refine pure_ (i := 8) (N := some 73) (v := ?_) (a' := ?_) #[true, true, true, true, true, true, false, true, true, false, false, false, false, false, false] rfl rfl (any_of HT_.out (by kernel_rfl)) (fun _ _ _ h => h) (Or.inl ⟨by rfl, ?_⟩) ?_ ?_
                      rotate_left
                      · intro w'
                        go_simp
                        with_reducible rfl
                      rotate_left
                      · simp only [Act.put, List.setIfInBounds_toArray, List.set_cons_zero, List.set_cons_succ, i64_w, i32_w]
                        rfl
                      refine pure_ (i := 9) (N := some 74) (v := ?_) (a' := ?_) #[true, true, true, true, true, true, false, true, true, true, false, false, false, false, false] rfl rfl (any_of HT_.out (by kernel_rfl)) (fun _ _ _ h => h) (Or.inl ⟨by rfl, ?_⟩) ?_ ?_
                      rotate_left
                      · intro w'
                        go_simp
                        with_reducible rfl
                      rotate_left
                      · simp only [Act.put, List.setIfInBounds_toArray, List.set_cons_zero, List.set_cons_succ, i64_w, i32_w]
                        rfl
                      refine take_ (i := 6) (N := some 71) (v := ?_) (a' := ?_) #[true, true, true, true, true, true, true, true, true, true, false, false, false, false, false] rfl rfl (take_ofW HT_.out HW_.out (by kernel_rfl)) (fun _ _ _ h => h) (Or.inl ⟨by rfl, ?_⟩) hHeld ?_ ?_
                      rotate_left
                      · rintro w' ⟨s0, s1⟩
                        go_simp
                        with_reducible rfl
                      rotate_left
                      · simp only [Act.put, List.setIfInBounds_toArray, List.set_cons_zero, List.set_cons_succ, i64_w, i32_w]
                        rfl
                      refine one_ (i := 10) (N := some 75) #[true, true, true, true, true, true, true, true, true, true, true, false, false, false, false] rfl rfl (one_of HT_.out (by kernel_rfl)) (by decide) (fun K hK => ?_)
                      refine goes_ Try.func40 (by kernel_rfl) rfl #[.agg #[.slice Ao7 t560.length co7, .slice Ao9 t563.length co9], .int .i64 (wrap64 (Int.tdiv x11_2 a1))] (by rfl) rfl rfl (by (try simp only [List.map_toArray, List.map_cons, List.map_nil]); first | done | rfl | (simp only [List.length_drop, List.length_take]; rfl)) ?_
                      with_reducible refine (spec_l1Has.calls _ _ t560 _ _ t563 (wrap64 (Int.tdiv x11_2 a1)) t582 _ ?side1 ?side2 ?side3 ?side4 A36.out).mono ?_
                      (case side1 => repeat (first | exact (Kd.R_reads' HO_568000.out).2.2 | (with_reducible refine Kd.C_alloc ?_ _) | (with_reducible refine Kd.C_drewN ?_ _) | (with_reducible refine Kd.C_drew ?_)))
                      (case side2 => exact (Kd.R_reads' HO_568000.out).2.1)
                      (case side3 => repeat (first | exact (Kd.R_reads' HO_568001.out).2.2 | (with_reducible refine Kd.C_alloc ?_ _) | (with_reducible refine Kd.C_drewN ?_ _) | (with_reducible refine Kd.C_drew ?_)))
                      (case side4 => exact (Kd.R_reads' HO_568001.out).2.1)
                      rintro e w40 ⟨rfl, hb⟩
                      refine ⟨_, rfl, ?_⟩
                      have n0_ := Aside0.mk (Kd.R_below (by (with_reducible repeat (first | apply Kd.R_alloc | apply Kd.R_drewN | apply Kd.R_drew)); exact HO_10.out) hb)
                      have n1_ := Aside0.mk (Kd.R_below (by (with_reducible repeat (first | apply Kd.R_alloc | apply Kd.R_drewN | apply Kd.R_drew)); exact HO_568000.out) hb)
                      have n2_ := Aside0.mk (Kd.R_below (by (with_reducible repeat (first | apply Kd.R_alloc | apply Kd.R_drewN | apply Kd.R_drew)); exact HO_568001.out) hb)
                      have n3_ := Aside0.mk (blk_below (g := gb567) (o := .cells #[.slice Ao7 t560.length co7, .slice Ao9 t563.length co9] 48 (0, 0)) (by (with_reducible repeat (first | refine blk_drewN ?_ _ | refine blk_drew ?_ | refine blk_alloc ?_ _)); exact BK567.out) hb)
                      have n4_ := Aside0.mk (below_step (by repeat (first | (with_reducible first | exact HB.out | apply below_alloc | apply pw_below_drewN | apply below_drew1 | refine below_set ?_ GE567.out) | exact HB.out)) hb)
                      clear HO_10
                      clear HO_568000
                      clear HO_568001
                      clear BK567
                      clear HB
                      have HO_10 := n0_
                      have HO_568000 := n1_
                      have HO_568001 := n2_
                      have BK567 := n3_
                      have HB := n4_
                      clear n0_ n1_ n2_ n3_ n4_
                      (try clear hb)
                      (try clear hb2)
                      (try clear hk)
                      (try clear hi)
                      refine hK.out _ _ ⟨(blk_cell BK567.out 0).trans rfl, (blk_cell BK567.out 1).trans rfl⟩ (fun hHeld => ?_)
                      clear hK K
                      refine norm_ (a' := ?_) ?_ ?_
                      rotate_left
                      · show Act.put _ (some 75) _ = _
                        simp only [Act.put, List.setIfInBounds_toArray, List.set_cons_zero, List.set_cons_succ, i64_w, i32_w]
                        rfl
                      refine pure_ (i := 11) (N := some 76) (v := ?_) (a' := ?_) #[true, true, true, true, true, true, true, true, true, true, true, true, false, false, false] rfl rfl (any_of HT_.out (by kernel_rfl)) (fun _ _ _ h => h) (Or.inl ⟨by rfl, ?_⟩) ?_ ?_
                      rotate_left
                      · intro w'
                        go_simp
                        with_reducible rfl
                      rotate_left
                      · simp only [Act.put, List.setIfInBounds_toArray, List.set_cons_zero, List.set_cons_succ, i64_w, i32_w]
                        rfl
                      refine one_ (i := 12) (N := some 77) #[true, true, true, true, true, true, true, true, true, true, true, true, true, false, false] rfl rfl (one_of HT_.out (by kernel_rfl)) (by decide) (fun K hK => ?_)
                      refine value_ (w1 := ?_) (v := ?_) (by rfl) rfl ?_ ?_
                      rotate_left 2
                      · go_simp
                        constructor
                        · rfl
                        · rfl
                      refine hK.out _ _ ⟨(blk_cell (blk_alloc BK567.out _) 0).trans rfl, (blk_cell (blk_alloc BK567.out _) 1).trans rfl⟩ (fun hHeld => ?_)
                      clear hK K
                      refine norm_ (a' := ?_) ?_ ?_
                      rotate_left
                      · show Act.put _ (some 77) _ = _
                        simp only [Act.put, List.setIfInBounds_toArray, List.set_cons_zero, List.set_cons_succ, i64_w, i32_w]
                        rfl
                      refine one_ (i := 13) (N := some 78) #[true, true, true, true, true, true, true, true, true, true, true, true, true, true, false] rfl rfl (one_of HT_.out (by kernel_rfl)) (by decide) (fun K hK => ?_)
                      refine Kd.R_append_step Kd.bool (w0 := w) w.heap.size (by rfl) (.tmp 65) (.tmp 77) 42 4 (.bool false) 1 rfl Try.underlying42 info4 rfl (by decide) (by omega) u10 x10_2 t582 [.bool t582] (fun k_ => some k_ ≠ (.slice Ao7 t560.length co7 : Value).ownBlock ∧ some k_ ≠ (.slice Ao9 t563.length co9 : Value).ownBlock) (fun _ => False) rfl rfl ?aP (fun _ hk => hk.elim) ?aF ?aO ?aB ?aS ?aL ?_
                      (case aP => exact rfl)
                      (case aB => exact (by repeat (first | (with_reducible first | exact HB.out | apply below_alloc | apply pw_below_drewN | apply below_drew1 | refine below_set ?_ GE567.out) | exact HB.out)))
                      (case aF => exact (fun k_ hk => ⟨Kd.fresh' (Kd.R_lt (by (with_reducible repeat (first | apply Kd.R_alloc | apply Kd.R_drewN | apply Kd.R_drew)); exact HO_568000.out)) k_ hk, Kd.fresh' (Kd.R_lt (by (with_reducible repeat (first | apply Kd.R_alloc | apply Kd.R_drewN | apply Kd.R_drew)); exact HO_568001.out)) k_ hk⟩))
                      (case aO => exact (by (with_reducible repeat (first | apply Kd.R_alloc | apply Kd.R_drewN | apply Kd.R_drew)); exact HO_10.out))
                      (case aS => exact (below_size (by repeat (first | (with_reducible first | exact HB.out | apply below_alloc | apply pw_below_drewN | apply below_drew1 | refine below_set ?_ GE567.out) | exact HB.out))))
                      (case aL => have := LMc37.out; omega)
                      intro v584 w41 ho hb hg hat
                      rw [← Ny583.out] at ho
                      have n0_ := Aside0.mk (Kd.R_after (ok := (fun k_ => some k_ ≠ (.slice Ao9 t563.length co9 : Value).ownBlock)) (by (with_reducible repeat (first | apply Kd.R_alloc | apply Kd.R_drewN | apply Kd.R_drew)); exact Kd.R_mono HO_568000.out (fun _ hk => ⟨hk.2, hk.1⟩)) hg hat)
                      have n1_ := Aside0.mk (Kd.R_after (ok := (fun k_ => some k_ ≠ (.slice Ao7 t560.length co7 : Value).ownBlock)) (by (with_reducible repeat (first | apply Kd.R_alloc | apply Kd.R_drewN | apply Kd.R_drew)); exact Kd.R_mono HO_568001.out (fun _ hk => ⟨hk.2, hk.1⟩)) hg hat)
                      have n2_ := Aside0.mk (blk_grown (g := gb567) (o := .cells #[.slice Ao7 t560.length co7, .slice Ao9 t563.length co9] 48 (0, 0)) (by (with_reducible repeat (first | refine blk_drewN ?_ _ | refine blk_drew ?_ | refine blk_alloc ?_ _)); exact BK567.out) hg (Kd.R_ne HO_10.out BK567.out (by decide)))
                      have n3_ := Aside0.mk (hb)
                      have n4_ := Aside0.mk (ho)
                      clear HO_568000
                      clear HO_568001
                      clear BK567
                      clear HB
                      clear HO_10
                      have HO_568000 := n0_
                      have HO_568001 := n1_
                      have BK567 := n2_
                      have HB := n3_
                      have HO585 := n4_
                      clear n0_ n1_ n2_ n3_ n4_
                      clear ho hb hg hat
                      refine hK.out _ _ ⟨(blk_cell BK567.out 0).trans rfl, (blk_cell BK567.out 1).trans rfl⟩ (fun hHeld => ?_)
                      clear hK K
                      refine norm_ (a' := ?_) ?_ ?_
                      rotate_left
                      · show Act.put _ (some 78) _ = _
                        simp only [Act.put, List.setIfInBounds_toArray, List.set_cons_zero, List.set_cons_succ, i64_w, i32_w]
                        rfl
                      refine pure_ (i := 14) (N := some 10) (v := ?_) (a' := ?_) #[true, true, true, true, true, true, true, true, true, true, true, true, true, true, true] rfl rfl (any_of HT_.out (by kernel_rfl)) (fun _ _ _ h => h) (Or.inl ⟨by rfl, ?_⟩) ?_ ?_
                      rotate_left
                      · intro w'
                        go_simp
                        with_reducible rfl
                      rotate_left
                      · simp only [Act.put, List.setIfInBounds_toArray, List.set_cons_zero, List.set_cons_succ, i64_w, i32_w]
                        rfl
                      refine done_ (done_of HT_.out (by kernel_rfl)) ?_
                      try go_wp2
                      go_roundg k2
                      case measure => have := HJ3.out; have := HK2.out; omega
                      case rel => exact ⟨(y583), (wrap64 (x11_2 + 1)), (by first | rfl | (simp; done) | (simp [*]; done) | (simp [Int.tmod_eq_emod_of_nonneg]; done)), H', ⟨by have := HJ3.out; have := HK2.out; omega⟩, ⟨by (with_reducible repeat (first | apply Kd.R_alloc | apply Kd.R_drewN | apply Kd.R_drew)); exact HO585.out⟩, ⟨by (with_reducible repeat (first | apply Kd.R_alloc | apply Kd.R_drewN | apply Kd.R_drew)); exact Kd.R_mono HO_568000.out (fun _ hk => ⟨hk.2, hk.1⟩)⟩, ⟨by (with_reducible repeat (first | apply Kd.R_alloc | apply Kd.R_drewN | apply Kd.R_drew)); exact Kd.R_mono HO_568001.out (fun _ hk => ⟨hk.2, hk.1⟩)⟩, ⟨by (with_reducible repeat (first | refine blk_drewN ?_ _ | refine blk_drew ?_ | refine blk_alloc ?_ _)); exact BK567.out⟩, ⟨by repeat (first | (with_reducible first | exact HB.out | apply below_alloc | apply pw_below_drewN | apply below_drew1 | refine below_set ?_ GE567.out) | exact HB.out)⟩⟩
                    · rw [if_neg c37] at H
                      exact absurd H (by simp)
                  · rw [if_neg c35] at H
                    have c35b0 : ((Int.tmod x11_2 a1) == 0) = false := beq_eq_false_iff_ne.mpr c35
                    have c35b1 : ((Int.tmod x11_2 a1) != 0) = true := bne_iff_ne.mpr c35
                    by_cases c42 : x10_2.length < 140737488355328
                    · rw [if_pos c42] at H
                      have LMc42 := Aside0.mk c42
                      clear c42
                      obtain ⟨y586, hy586⟩ : ∃ y_ : List Bool, y_ = (x10_2 ++ [false]) := ⟨_, rfl⟩
                      replace H : (spec_MakeTimes.l1 k2 a1 y586 (wrap64 (x11_2 + 1)) t560 t563) = some (r1, r2) := by first | (rw [hy586]; with_reducible exact H) | (have H2_ := (Option.bind_some _ _).symm.trans H; rw [hy586]; with_reducible exact H2_) | (have H2_ := (Option.bind_some _ _).symm.trans H; with_reducible exact H2_) | with_reducible exact H | (rw [hy586]; exact H) | exact H
                      have Ny586 := Aside0.mk hy586
                      clear hy586
                      have H' := Aside0.mk H
                      clear H
                      have hcz43_0 : wr.cell? ⟨gb567, 0, none⟩ = some (.slice Ao7 t560.length co7) := (blk_cell BK567.out 0).trans rfl
                      have hcz43_1 : wr.cell? ⟨gb567, 1, none⟩ = some (.slice Ao9 t563.length co9) := (blk_cell BK567.out 1).trans rfl
                      have hfz43_0 := blk_frozen BK567.out 0
                      have hfz43_1 := blk_frozen BK567.out 1
                      try go_wp2
                      have n0_ := Aside0.mk (Kd.R_drew HO_10.out)
                      have n1_ := Aside0.mk (Kd.R_drew HO_568000.out)
                      have n2_ := Aside0.mk (Kd.R_drew HO_568001.out)
                      have n3_ := Aside0.mk (blk_drew BK567.out)
                      have n4_ := Aside0.mk (below_drew1 HB.out)
                      clear HO_10
                      clear HO_568000
                      clear HO_568001
                      clear BK567
                      clear HB
                      have HO_10 := n0_
                      have HO_568000 := n1_
                      have HO_568001 := n2_
                      have BK567 := n3_
                      have HB := n4_
                      clear n0_ n1_ n2_ n3_ n4_
                      refine start_ (n := 15) (S := fun w' => True) (ds := []) #[false, false, false, false, false, false, false, false, false, false, false, false, false, false, false] (by kernel_rfl) rfl rfl trivial (fun hHeld => ?_); refine with_tabW spec_MakeTimes.tab15 spec_MakeTimes.bits15 (fun HT_ HW_ => ?_)
                      generalize wr.drew = w44 at HO_10 HO_568000 HO_568001 BK567 HB hHeld ⊢
                      refine pure_ (i := 0) (N := some 65) (v := ?_) (a' := ?_) #[true, false, false, false, false, false, false, false, false, false, false, false, false, false, false] rfl rfl (any_of HT_.out (by kernel_rfl)) (fun _ _ _ h => h) (Or.inl ⟨by rfl, ?_⟩) ?_ ?_
                      rotate_left
                      · intro w'
                        go_simp
                        with_reducible rfl
                      rotate_left
                      · simp only [Act.put, List.setIfInBounds_toArray, List.set_cons_zero, List.set_cons_succ, i64_w, i32_w]
                        rfl
                      refine pure_ (i := 1) (N := some 66) (v := ?_) (a' := ?_) #[true, true, false, false, false, false, false, false, false, false, false, false, false, false, false] rfl rfl (any_of HT_.out (by kernel_rfl)) (fun _ _ _ h => h) (Or.inl ⟨by rfl, ?_⟩) ?_ ?_
                      rotate_left
                      · intro w'
                        go_simp
                        with_reducible rfl
                      rotate_left
                      · simp only [Act.put, List.setIfInBounds_toArray, List.set_cons_zero, List.set_cons_succ, i64_w, i32_w]
                        rfl
                      refine pure_ (i := 2) (N := some 67) (v := ?_) (a' := ?_) #[true, true, true, false, false, false, false, false, false, false, false, false, false, false, false] rfl rfl (any_of HT_.out (by kernel_rfl)) (fun _ _ _ h => h) (Or.inl ⟨by rfl, ?_⟩) ?_ ?_
                      rotate_left
                      · intro w'
                        go_simp
                        with_reducible rfl
                      rotate_left
                      · simp only [Act.put, List.setIfInBounds_toArray, List.set_cons_zero, List.set_cons_succ, i64_w, i32_w]
                        rfl
                      refine pure_ (i := 3) (N := some 68) (v := ?_) (a' := ?_) #[true, true, true, true, false, false, false, false, false, false, false, false, false, false, false] rfl rfl (any_of HT_.out (by kernel_rfl)) (fun _ _ _ h => h) (Or.inl ⟨by rfl, ?_⟩) ?_ ?_
                      rotate_left
                      · intro w'
                        go_simp
                        with_reducible rfl
                      rotate_left
                      · simp only [Act.put, List.setIfInBounds_toArray, List.set_cons_zero, List.set_cons_succ, i64_w, i32_w]
                        rfl
                      refine pure_ (i := 4) (N := some 69) (v := ?_) (a' := ?_) #[true, true, true, true, true, false, false, false, false, false, false, false, false, false, false] rfl rfl (any_of HT_.out (by kernel_rfl)) (fun _ _ _ h => h) (Or.inl ⟨by rfl, ?_⟩) ?_ ?_
                      rotate_left
                      · intro w'
                        go_simp
                        with_reducible rfl
                      rotate_left
                      · simp only [Act.put, List.setIfInBounds_toArray, List.set_cons_zero, List.set_cons_succ, i64_w, i32_w]
                        rfl
                      refine pure_ (i := 5) (N := some 70) (v := ?_) (a' := ?_) #[true, true, true, true, true, true, false, false, false, false, false, false, false, false, false] rfl rfl (any_of HT_.out (by kernel_rfl)) (fun _ _ _ h => h) (Or.inl ⟨by rfl, ?_⟩) ?_ ?_
                      rotate_left
                      · intro w'
                        go_simp
                        with_reducible rfl
                      rotate_left
                      · simp only [Act.put, List.setIfInBounds_toArray, List.set_cons_zero, List.set_cons_succ, i64_w, i32_w]
                        rfl
                      refine pure_ (i := 6) (N := some 71) (v := undef) (a' := ?_) #[true, true, true, true, true, true, true, false, false, false, false, false, false, false, false] rfl rfl (any_of HT_.out (by kernel_rfl)) (fun _ _ _ h => h) (Or.inr ⟨by rfl, rfl⟩) ?_ ?_
                      rotate_left
                      · simp only [Act.put, List.setIfInBounds_toArray, List.set_cons_zero, List.set_cons_succ, i64_w, i32_w]
                        rfl
                      refine pure_ (i := 7) (N := some 72) (v := undef) (a' := ?_) #[true, true, true, true, true, true, true, true, false, false, false, false, false, false, false] rfl rfl (any_of HT_.out (by kernel_rfl)) (fun _ _ _ h => h) (Or.inr ⟨by rfl, rfl⟩) ?_ ?_
                      rotate_left
                      · simp only [Act.put, List.setIfInBounds_toArray, List.set_cons_zero, List.set_cons_succ, i64_w, i32_w]
                        rfl
                      refine pure_ (i := 8) (N := some 73) (v := undef) (a' := ?_) #[true, true, true, true, true, true, true, true, true, false, false, false, false, false, false] rfl rfl (any_of HT_.out (by kernel_rfl)) (fun _ _ _ h => h) (Or.inr ⟨by rfl, rfl⟩) ?_ ?_
                      rotate_left
                      · simp only [Act.put, List.setIfInBounds_toArray, List.set_cons_zero, List.set_cons_succ, i64_w, i32_w]
                        rfl
                      refine pure_ (i := 9) (N := some 74) (v := undef) (a' := ?_) #[true, true, true, true, true, true, true, true, true, true, false, false, false, false, false] rfl rfl (any_of HT_.out (by kernel_rfl)) (fun _ _ _ h => h) (Or.inr ⟨by rfl, rfl⟩) ?_ ?_
                      rotate_left
                      · simp only [Act.put, List.setIfInBounds_toArray, List.set_cons_zero, List.set_cons_succ, i64_w, i32_w]
                        rfl
                      refine pure_ (i := 10) (N := some 75) (v := undef) (a' := ?_) #[true, true, true, true, true, true, true, true, true, true, true, false, false, false, false] rfl rfl (any_of HT_.out (by kernel_rfl)) (fun _ _ _ h => h) (Or.inr ⟨by rfl, rfl⟩) ?_ ?_
                      rotate_left
                      · simp only [Act.put, List.setIfInBounds_toArray, List.set_cons_zero, List.set_cons_succ, i64_w, i32_w]
                        rfl
                      refine pure_ (i := 11) (N := some 76) (v := ?_) (a' := ?_) #[true, true, true, true, true, true, true, true, true, true, true, true, false, false, false] rfl rfl (any_of HT_.out (by kernel_rfl)) (fun _ _ _ h => h) (Or.inl ⟨by rfl, ?_⟩) ?_ ?_
                      rotate_left
                      · intro w'
                        go_simp
                        with_reducible rfl
                      rotate_left
                      · simp only [Act.put, List.setIfInBounds_toArray, List.set_cons_zero, List.set_cons_succ, i64_w, i32_w]
                        rfl
                      refine one_ (i := 12) (N := some 77) #[true, true, true, true, true, true, true, true, true, true, true, true, true, false, false] rfl rfl (one_of HT_.out (by kernel_rfl)) (by decide) (fun K hK => ?_)
                      refine value_ (w1 := ?_) (v := ?_) (by rfl) rfl ?_ ?_
                      rotate_left 2
                      · go_simp
                        constructor
                        · rfl
                        · rfl
                      refine hK.out _ _ trivial (fun hHeld => ?_)
                      clear hK K
                      refine norm_ (a' := ?_) ?_ ?_
                      rotate_left
                      · show Act.put _ (some 77) _ = _
                        simp only [Act.put, List.setIfInBounds_toArray, List.set_cons_zero, List.set_cons_succ, i64_w, i32_w]
                        rfl
                      refine one_ (i := 13) (N := some 78) #[true, true, true, true, true, true, true, true, true, true, true, true, true, true, false] rfl rfl (one_of HT_.out (by kernel_rfl)) (by decide) (fun K hK => ?_)
                      refine Kd.R_append_step Kd.bool (w0 := w) w.heap.size (by rfl) (.tmp 65) (.tmp 77) 42 4 (.bool false) 1 rfl Try.underlying42 info4 rfl (by decide) (by omega) u10 x10_2 false [.bool false] (fun k_ => some k_ ≠ (.slice Ao7 t560.length co7 : Value).ownBlock ∧ some k_ ≠ (.slice Ao9 t563.length co9 : Value).ownBlock) (fun _ => False) rfl rfl ?aP (fun _ hk => hk.elim) ?aF ?aO ?aB ?aS ?aL ?_
                      (case aP => exact rfl)
                      (case aB => exact (by repeat (first | (with_reducible first | exact HB.out | apply below_alloc | apply pw_below_drewN | apply below_drew1 | refine below_set ?_ GE567.out) | exact HB.out)))
                      (case aF => exact (fun k_ hk => ⟨Kd.fresh' (Kd.R_lt (by (with_reducible repeat (first | apply Kd.R_alloc | apply Kd.R_drewN | apply Kd.R_drew)); exact HO_568000.out)) k_ hk, Kd.fresh' (Kd.R_lt (by (with_reducible repeat (first | apply Kd.R_alloc | apply Kd.R_drewN | apply Kd.R_drew)); exact HO_568001.out)) k_ hk⟩))
                      (case aO => exact (by (with_reducible repeat (first | apply Kd.R_alloc | apply Kd.R_drewN | apply Kd.R_drew)); exact HO_10.out))
                      (case aS => exact (below_size (by repeat (first | (with_reducible first | exact HB.out | apply below_alloc | apply pw_below_drewN | apply below_drew1 | refine below_set ?_ GE567.out) | exact HB.out))))
                      (case aL => have := LMc42.out; omega)
                      intro v587 w45 ho hb hg hat
                      rw [← Ny586.out] at ho
                      have n0_ := Aside0.mk (Kd.R_after (ok := (fun k_ => some k_ ≠ (.slice Ao9 t563.length co9 : Value).ownBlock)) (by (with_reducible repeat (first | apply Kd.R_alloc | apply Kd.R_drewN | apply Kd.R_drew)); exact Kd.R_mono HO_568000.out (fun _ hk => ⟨hk.2, hk.1⟩)) hg hat)
                      have n1_ := Aside0.mk (Kd.R_after (ok := (fun k_ => some k_ ≠ (.slice Ao7 t560.length co7 : Value).ownBlock)) (by (with_reducible repeat (first | apply Kd.R_alloc | apply Kd.R_drewN | apply Kd.R_drew)); exact Kd.R_mono HO_568001.out (fun _ hk => ⟨hk.2, hk.1⟩)) hg hat)
                      have n2_ := Aside0.mk (blk_grown (g := gb567) (o := .cells #[.slice Ao7 t560.length co7, .slice Ao9 t563.length co9] 48 (0, 0)) (by (with_reducible repeat (first | refine blk_drewN ?_ _ | refine blk_drew ?_ | refine blk_alloc ?_ _)); exact BK567.out) hg (Kd.R_ne HO_10.out BK567.out (by decide)))
                      have n3_ := Aside0.mk (hb)
                      have n4_ := Aside0.mk (ho)
                      clear HO_568000
                      clear HO_568001
                      clear BK567
                      clear HB
                      clear HO_10
                      have HO_568000 := n0_
                      have HO_568001 := n1_
                      have BK567 := n2_
                      have HB := n3_
                      have HO588 := n4_
                      clear n0_ n1_ n2_ n3_ n4_
                      clear ho hb hg hat
                      refine hK.out _ _ trivial (fun hHeld => ?_)
                      clear hK K
                      refine norm_ (a' := ?_) ?_ ?_
                      rotate_left
                      · show Act.put _ (some 78) _ = _
                        simp only [Act.put, List.setIfInBounds_toArray, List.set_cons_zero, List.set_cons_succ, i64_w, i32_w]
                        rfl
                      refine pure_ (i := 14) (N := some 10) (v := ?_) (a' := ?_) #[true, true, true, true, true, true, true, true, true, true, true, true, true, true, true] rfl rfl (any_of HT_.out (by kernel_rfl)) (fun _ _ _ h => h) (Or.inl ⟨by rfl, ?_⟩) ?_ ?_
                      rotate_left
                      · intro w'
                        go_simp
                        with_reducible rfl
                      rotate_left
                      · simp only [Act.put, List.setIfInBounds_toArray, List.set_cons_zero, List.set_cons_succ, i64_w, i32_w]
                        rfl
                      refine done_ (done_of HT_.out (by kernel_rfl)) ?_
                      try go_wp2
                      go_roundg k2
                      case measure => have := HJ3.out; have := HK2.out; omega
                      case rel => exact ⟨(y586), (wrap64 (x11_2 + 1)), (by first | rfl | (simp; done) | (simp [*]; done) | (simp [Int.tmod_eq_emod_of_nonneg]; done)), H', ⟨by have := HJ3.out; have := HK2.out; omega⟩, ⟨by (with_reducible repeat (first | apply Kd.R_alloc | apply Kd.R_drewN | apply Kd.R_drew)); exact HO588.out⟩, ⟨by (with_reducible repeat (first | apply Kd.R_alloc | apply Kd.R_drewN | apply Kd.R_drew)); exact Kd.R_mono HO_568000.out (fun _ hk => ⟨hk.2, hk.1⟩)⟩, ⟨by (with_reducible repeat (first | apply Kd.R_alloc | apply Kd.R_drewN | apply Kd.R_drew)); exact Kd.R_mono HO_568001.out (fun _ hk => ⟨hk.2, hk.1⟩)⟩, ⟨by (with_reducible repeat (first | refine blk_drewN ?_ _ | refine blk_drew ?_ | refine blk_alloc ?_ _)); exact BK567.out⟩, ⟨by repeat (first | (with_reducible first | exact HB.out | apply below_alloc | apply pw_below_drewN | apply below_drew1 | refine below_set ?_ GE567.out) | exact HB.out)⟩⟩
                    · rw [if_neg c42] at H
                      exact absurd H (by simp)
              · rw [if_neg c33] at H
                have c33b0 : decide (x11_2 < (wrap64 (a1 * (wrap64 ((t560.length : Int) + (t563.length : Int)))))) = false := decide_eq_false c33
                clear c33
                replace H := Option.bind_eq_some_iff.mp H
                obtain ⟨⟨t589, t590⟩, A460, H⟩ := H
                replace H : (some (t589, t590)) = some (r1, r2) := H
                have A46 := Aside0.mk A460
                clear A460
                simp only [Option.some.injEq, Prod.mk.injEq] at H
                obtain ⟨rfl, rfl⟩ := H
                have hcz47_0 : wr.cell? ⟨gb567, 0, none⟩ = some (.slice Ao7 t560.length co7) := (blk_cell BK567.out 0).trans rfl
                have hcz47_1 : wr.cell? ⟨gb567, 1, none⟩ = some (.slice Ao9 t563.length co9) := (blk_cell BK567.out 1).trans rfl
                have hfz47_0 := blk_frozen BK567.out 0
                have hfz47_1 := blk_frozen BK567.out 1
                obtain ⟨Ao48, co48, eo48⟩ := Kd.R_slice HO_10.out
                subst eo48
                go_wp2_with (first | ((with_reducible refine gate_callee (f := 41) rfl ?_); refine goesL_ (some 85) rfl rfl Try.func41 (by kernel_rfl) rfl #[.slice Ao48 x10_2.length co48, .int .i64 (wrap64 (a1 * (t560.length : Int)))] rfl (by (try simp only [List.map_toArray, List.map_cons, List.map_nil]); first | done | rfl | (simp only [List.length_drop, List.length_take]; rfl)) ?_; (with_reducible refine (spec_l2Fill.calls k2 _ _ x10_2 (wrap64 (a1 * (t560.length : Int))) t589 t590 _ ?side1 ?side2 A46.out).mono ?_); (case side1 => repeat (first | exact (Kd.R_reads' HO_10.out).2.2 | (with_reducible refine Kd.C_alloc ?_ _) | (with_reducible refine Kd.C_drewN ?_ _) | (with_reducible refine Kd.C_drew ?_))); (case side2 => exact (Kd.R_reads' HO_10.out).2.1); rintro e w49 ⟨rfl, hb⟩; refine ⟨_, rfl, ?_⟩; have n0_ := Aside0.mk (Kd.R_below (by (with_reducible repeat (first | apply Kd.R_alloc | apply Kd.R_drewN | apply Kd.R_drew)); exact HO_10.out) hb); have n1_ := Aside0.mk (Kd.R_below (by (with_reducible repeat (first | apply Kd.R_alloc | apply Kd.R_drewN | apply Kd.R_drew)); exact HO_568000.out) hb); have n2_ := Aside0.mk (Kd.R_below (by (with_reducible repeat (first | apply Kd.R_alloc | apply Kd.R_drewN | apply Kd.R_drew)); exact HO_568001.out) hb); have n3_ := Aside0.mk (blk_below (g := gb567) (o := .cells #[.slice Ao7 t560.length co7, .slice Ao9 t563.length co9] 48 (0, 0)) (by (with_reducible repeat (first | refine blk_drewN ?_ _ | refine blk_drew ?_ | refine blk_alloc ?_ _)); exact BK567.out) hb); have n4_ := Aside0.mk (below_step (by repeat (first | (with_reducible first | exact HB.out | apply below_alloc | apply pw_below_drewN | apply below_drew1 | refine below_set ?_ GE567.out) | exact HB.out)) hb); clear HO_10; clear HO_568000; clear HO_568001; clear BK567; clear HB; have HO_10 := n0_; have HO_568000 := n1_; have HO_568001 := n2_; have BK567 := n3_; have HB := n4_; clear n0_ n1_ n2_ n3_ n4_; (try clear hb); (try clear hb2); (try clear hk); (try clear hi)))
                go_ret2
                exact ⟨by first | rfl | (simp [errW_none, errW_some] <;> rfl) | (simp [*, errW_none, errW_some] <;> rfl) | (simp [errW_none, errW_some]; exact ⟨rfl, rfl⟩), by repeat (first | (with_reducible first | exact HB.out | apply below_alloc | apply pw_below_drewN | apply below_drew1 | refine below_set ?_ GE567.out) | exact HB.out)⟩

end Go.Proofs.Ytflfabdfkfigcaa.P

-- impl.set.below: all numbers of a set less than n.
namespace Go.Proofs.Ytflfabdfkfigcaa.P
open Go.RowKit Go.Proofs.YtflfabdfkfigcaaW.PrintWords Go.Proofs.YtflfabdfkfigcaaW.PrintLast Go.Proofs.YtflfabdfkfigcaaW.PrintMore
set_option linter.unusedVariables false
set_option linter.unusedSimpArgs false

/-- All numbers less than n. -/
def blw (f : Nat → Bool) (n : Nat) : List Int := ((List.range n).filter f).map Int.ofNat
theorem blw_succ (f : Nat → Bool) (n : Nat) : blw f (n + 1) = if f n = true then blw f n ++ [(n : Int)] else blw f n := by
  unfold blw
  rw [List.range_succ, List.filter_append]
  cases h : f n <;> simp [h]
theorem blw_length (f : Nat → Bool) (n : Nat) : (blw f n).length ≤ n := by
  unfold blw
  rw [List.length_map]
  have := List.length_filter_le f (List.range n)
  rwa [List.length_range] at this
theorem blw_pos (f : Nat → Bool) (n : Nat) : 0 < (blw f n).length ↔ ∃ m, m < n ∧ f m = true := by
  unfold blw
  rw [List.length_map, List.length_pos_iff_exists_mem]
  constructor
  · rintro ⟨m, h⟩; obtain ⟨h1, h2⟩ := List.mem_filter.1 h; exact ⟨m, List.mem_range.1 h1, h2⟩
  · rintro ⟨m, h1, h2⟩; exact ⟨m, List.mem_filter.2 ⟨List.mem_range.2 h1, h2⟩⟩
theorem below_l0 (a b : List Bool) (hb : b ≠ []) (hl : a.length + b.length ≤ 1000000) (n : Nat) (hn : n ≤ 1000000) : ∀ (e i : Nat), i ≤ n → n - i = e →
    Ev (fun k => impl_set_below.l0 k (blw (hasB a b) i) n i a b) (blw (hasB a b) n) := by
  intro e
  induction e with
  | zero =>
    intro i hi he
    have e : i = n := by omega
    subst e
    refine Ev.step (f := fun k => some (blw (hasB a b) i)) (fun k => ?_) (Ev.now _)
    simp only [impl_set_below.l0]; rw [if_neg (by omega)]
  | succ e ih =>
    intro i hi he
    have e1 := ihas_f a b hb (by omega) i (by omega)
    have hih := ih (i + 1) (by omega) (by omega)
    have hlen := blw_length (hasB a b) i
    rw [blw_succ] at hih
    refine Ev.step (fun k => ?_) hih
    simp only [impl_set_below.l0]
    rw [if_pos (by omega), e1, wsucc (by omega)]
    simp only [Option.bind_some]
    cases h : hasB a b i with
    | true => rw [if_pos (by trivial), if_pos (by omega), if_pos (by trivial)]
    | false => rw [if_neg (by decide), if_neg (by decide)]
theorem setBelow_f (a b : List Bool) (hb : b ≠ []) (hl : a.length + b.length ≤ 1000000) (n : Nat) (hn : n ≤ 1000000) : Ev (fun k => impl_set_below.f k a b n) (blw (hasB a b) n) :=
  below_l0 a b hb hl n hn _ 0 (Nat.zero_le _) rfl
end Go.Proofs.Ytflfabdfkfigcaa.P

-- impl.MakeTimes: each number times k.
namespace Go.Proofs.Ytflfabdfkfigcaa.P
open Go.RowKit Go.Proofs.YtflfabdfkfigcaaW.PrintWords Go.Proofs.YtflfabdfkfigcaaW.PrintLast Go.Proofs.YtflfabdfkfigcaaW.PrintMore
set_option linter.unusedVariables false
set_option linter.unusedSimpArgs false

/-- Each number times k. -/
noncomputable def tmq (f : Nat → Bool) (k : Nat) : Nat → Bool := fun n => if k = 0 then decide (n = 0) && dec (∃ m, f m = true) else decide (n % k = 0) && f (n / k)
theorem tmq_zero (f : Nat → Bool) : tmq f 0 = fun n => decide (n = 0) && dec (∃ m, f m = true) := by funext n; unfold tmq; rw [if_pos rfl]
theorem tmq_pos (f : Nat → Bool) {k : Nat} (hk : 1 ≤ k) : tmq f k = fun n => decide (n % k = 0) && f (n / k) := by funext n; unfold tmq; rw [if_neg (by omega)]
theorem tmq_per0 (f : Nat → Bool) : Per (tmq f 0) 1 1 := fun n hn => by
  rw [tmq_zero]
  show (decide (n + 1 = 0) && _) = (decide (n = 0) && _)
  rw [decide_eq_false (by omega), decide_eq_false (by omega)]
theorem tmq_per {f : Nat → Bool} {m p : Nat} (h : Per f m p) {k : Nat} (hk : 1 ≤ k) : Per (tmq f k) (k * m) (k * p) := fun n hn => by
  rw [tmq_pos f hk]
  show (decide ((n + k * p) % k = 0) && f ((n + k * p) / k)) = (decide (n % k = 0) && f (n / k))
  rw [Nat.add_mul_mod_self_left, Nat.add_mul_div_left n p (by omega), h (n / k) ((Nat.le_div_iff_mul_le (by omega)).2 (by rw [Nat.mul_comm]; exact hn))]
/-- What impl.MakeTimes answers. -/
noncomputable def tmr (s : List UInt8) (k : Int) : ByteArray × Bool := if (parse s).isSome && decide (0 ≤ k ∧ k ≤ 20) then txt (cn (tmq (setf s) k.toNat)) else (⟨#[]⟩, false)
noncomputable def impl_MakeTimes.f (s : ByteArray) (k : Int) : Option (ByteArray × Bool) := if s.size ≤ 70368744177664 then some (tmr (chrs s) k) else none
theorem makeTimes_f (s : ByteArray) (hs : s.size ≤ 70368744177664) (k : Int) : impl_MakeTimes.f s k = some (tmr (chrs s) k) := by unfold impl_MakeTimes.f; rw [if_pos hs]
theorem any_below {f : Nat → Bool} {m p : Nat} (hp : 0 < p) (h : Per f m p) : decide (((blw f (m + p)).length : Int) > 0) = dec (∃ k, f k = true) := by
  rw [Bool.eq_iff_iff, decide_eq_true_iff, dec_iff]
  have h1 := blw_pos f (m + p)
  constructor
  · intro h2; obtain ⟨k, _, h3⟩ := h1.1 (by omega); exact ⟨k, h3⟩
  · rintro ⟨k, h3⟩
    have : 0 < (blw f (m + p)).length := h1.2 (by
      rcases Nat.lt_or_ge k m with h4 | h4
      · exact ⟨k, by omega, h3⟩
      · rw [h.mod k h4] at h3
        exact ⟨_, by have := Nat.mod_lt (k - m) hp; omega, h3⟩)
    omega

set_option maxHeartbeats 8000000 in
theorem times1_q_calls (n b : Nat) (v : Bool) (W : World) (hb : W.cell? ⟨b, 0, none⟩ = some (.bool v)) :
    Calls Try.prog 53 #[.int .i64 n, .pointer (some ⟨b, 0, none⟩)] W fun e w' => e = .returned (.bool (decide (n = 0) && v)) ∧ Below W.heap.size W w' := by
  by_cases h0 : n = 0
  · subst h0
    go_enter Try.func53, Try.ntmps53
    go_wp2
    go_ret
    exact ⟨by cases v <;> rfl, Below.refl _ _⟩
  · have h1 : ¬ ((n : Int) = 0) := by omega
    rw [decide_eq_false h0]
    go_enter Try.func53, Try.ntmps53
    go_wp2
    go_ret
    exact ⟨rfl, Below.refl _ _⟩

set_option maxHeartbeats 8000000 in
set_option maxRecDepth 100000 in
theorem times2_q_calls (t r : List Bool) (hr : r ≠ []) (hl : t.length ≤ 60 ∧ r.length ≤ 60) (A0 : Option Addr) (c0 : Nat) (A1 : Option Addr) (c1 n k b b2 : Nat) (hn : n ≤ 100000) (hk : 1 ≤ k) (hk2 : k ≤ 1000) (W : World)
    (hC0 : Kd.C Kd.bool W A0 t.length t) (h0 : t.length ≤ c0) (hC1 : Kd.C Kd.bool W A1 r.length r) (h1 : r.length ≤ c1) (hb : W.cell? ⟨b, 0, none⟩ = some (.int .i64 (k : Int)))
    (hx0 : W.cell? ⟨b2, 0, none⟩ = some (.slice A0 t.length c0)) (hx1 : W.cell? ⟨b2, 1, none⟩ = some (.slice A1 r.length c1)) :
    Calls Try.prog 54 #[.int .i64 n, .pointer (some ⟨b, 0, none⟩), .pointer (some ⟨b2, 0, none⟩)] W fun e w' => e = .returned (.bool (decide (n % k = 0) && hasB t r (n / k))) ∧ Below W.heap.size W w' := by
  have hdv : n / k ≤ n := Nat.div_le_self _ _
  have HC := fun (W' : World) (hw : Below W.heap.size W W') => Aside0.mk (impl_set_has.calls A0 c0 t A1 c1 r ((n / k : Nat) : Int) (hasB t r (n / k)) W' (Kd.C_below hC0 hw) h0 (Kd.C_below hC1 hw) h1 (ihas_f t r hr (by omega) (n / k) (by omega)))
  have hl1 := World.block_lt_of_cell? W _ hb
  have hl2 := World.block_lt_of_cell? W _ hx0
  have hu := Try.underlying44
  have hk0 : ¬ ((k : Int) = 0) := by omega
  have hk1 : (1 : Int) ≤ (k : Int) := by omega
  have hk3 : ((k : Int) == 0) = false := by rw [beq_eq_false_iff_ne]; exact hk0
  have hk4 : decide ((k : Int) = 0) = false := decide_eq_false hk0
  have hrem : Int.tmod (n : Int) (k : Int) = ((n % k : Nat) : Int) := tmod_nat n k
  have hquo : Int.tdiv (n : Int) (k : Int) = ((n / k : Nat) : Int) := tdiv_nat n k
  have hw1 : IntKind.i64.wrap ((n / k : Nat) : Int) = ((n / k : Nat) : Int) := by rw [IntKind.wrap_i64]; generalize n / k = x at *; omega
  have hw2 : IntKind.i64.wrap ((n % k : Nat) : Int) = ((n % k : Nat) : Int) := by rw [IntKind.wrap_i64]; have := Nat.mod_lt n hk; generalize n % k = x at *; omega
  have HK : ∀ w', Below W.heap.size W w' → (w'.cell? ⟨b, 0, none⟩ = some (.int .i64 (k : Int)) ∧ w'.cell? ⟨b2, 0, none⟩ = some (.slice A0 t.length c0) ∧ w'.cell? ⟨b2, 1, none⟩ = some (.slice A1 r.length c1) ∧ Below W.heap.size W w') := fun w' hw =>
    ⟨(hw.cell (p := ⟨b, 0, none⟩) hl1).trans hb, (hw.cell (p := ⟨b2, 0, none⟩) hl2).trans hx0, (hw.cell (p := ⟨b2, 1, none⟩) hl2).trans hx1, hw⟩
  have HKA := Aside0.mk HK
  generalize hasB t r (n / k) = res at *
  generalize n / k = q at *
  have hm : decide (n % k = 0) = decide (((n % k : Nat) : Int) = 0) := decide_eq_decide.2 (by omega)
  rw [hm]
  generalize n % k = m at *
  clear HK hC0 hC1 h0 h1 hl hr hm hdv
  by_cases hz : m = 0
  · subst hz
    have hrem0 : Int.tmod (n : Int) (k : Int) = 0 := hrem
    have hw3 : IntKind.i64.wrap 0 = 0 := hw2
    have hw4 : IntKind.i64.wrap (Int.tmod (n : Int) (k : Int)) = 0 := by rw [hrem0]; exact hw2
    clear hrem hw2
    go_enter Try.func54, Try.ntmps54
    go_wp2
    go_region_with (go_at_call 37; refine (HC _ (by repeat (first | exact Below.refl _ _ | apply below_drew1))).out.mono ?_; rintro e w1 ⟨rfl, hd1⟩)
    all_goals go_wp2
    all_goals go_ret
    all_goals exact ⟨by first | rfl | (cases res <;> rfl), below_step (by repeat (first | exact Below.refl _ _ | apply below_drew1)) hd1⟩
  · have hz2 : ¬ ((m : Int) = 0) := by omega
    rw [decide_eq_false hz2, Bool.false_and]
    have hz3 : ((m : Int) == 0) = false := by rw [beq_eq_false_iff_ne]; exact hz2
    have hz4 : decide ((m : Int) = 0) = false := decide_eq_false hz2
    go_enter Try.func54, Try.ntmps54
    go_wp2
    go_quiet (fail)
    all_goals go_wp2
    all_goals go_ret
    all_goals exact ⟨by first | rfl | simp, pw_below_drewN (Below.refl _ _) _⟩

theorem cell_two (w : World) (x y : Value) (T : TypeId) : (w.alloc (.cells #[x, y] T)).cell? ⟨w.heap.size, 0, none⟩ = some x ∧ (w.alloc (.cells #[x, y] T)).cell? ⟨w.heap.size, 1, none⟩ = some y := ⟨by simp, by simp⟩
set_option maxHeartbeats 8000000 in
set_option maxRecDepth 100000 in
theorem impl_MakeTimes.calls (a0 : ByteArray) (a1 : Int) (r1 : ByteArray) (r2 : Bool) (w : World) (h : impl_MakeTimes.f a0 a1 = some (r1, r2)) :
    Calls Try.prog 28 #[.string a0, .int .i64 a1] w fun e w' => e = .returned (.tuple #[.string r1, .bool r2]) ∧ Below w.heap.size w w' := by
  unfold impl_MakeTimes.f at h
  split at h
  · rename_i hs
    simp only [Option.some.injEq] at h
    obtain ⟨x, y, hev, hxy⟩ := setOf_f a0 hs
    obtain ⟨k, hk⟩ := hev.rounds
    have hu := Try.underlying44
    have hin := in_f a1 0 20
    have hR : r1 = (tmr (chrs a0) a1).1 ∧ r2 = (tmr (chrs a0) a1).2 := by rw [h]; exact ⟨rfl, rfl⟩
    obtain ⟨rfl, rfl⟩ := hR
    clear h
    cases hp : (parse (chrs a0)).isSome with
    | false =>
      have e : tmr (chrs a0) a1 = (⟨#[]⟩, false) := by unfold tmr; rw [hp]; rfl
      rw [e]
      rw [hp] at hk
      have HK := fun w => Aside0.mk (impl_setOf.calls k a0 x y false w hk)
      clear hk hev hxy hp e
      go_enter Try.func28, Try.ntmps28
      go_wp2_with (go_at_call 42; refine (HK _).out.mono ?_; rintro e w1 ⟨v0_, v1_, rfl, hR0, hR1, hb1⟩; obtain ⟨A0, n0, rfl, hn0, hC0⟩ := Kd.R_reads hR0; obtain ⟨A1, n1, rfl, hn1, hC1⟩ := Kd.R_reads hR1; clear hR0 hR1 hC0 hC1 hn0 hn1; have HB := Aside0.mk (below_step (below_alloc (Below.refl w.heap.size w) _) hb1); clear hb1)
      go_ret2
      refine ⟨rfl, ?_⟩
      repeat (first | exact HB.out | apply below_alloc | (refine below_set ?_ HB.out.size))
    | true =>
      obtain ⟨⟨a, c⟩, hpp⟩ := Option.isSome_iff_exists.1 hp
      obtain ⟨rfl, rfl⟩ := hxy a c hpp
      have hb := parse_some hpp
      have hpos := List.length_pos_iff.2 hb.2.2
      rw [hp] at hk
      have HK := fun w => Aside0.mk (impl_setOf.calls k a0 x y true w hk)
      by_cases hm : 0 ≤ a1 ∧ a1 ≤ 20
      · rw [decide_eq_true hm] at hin
        have HI := fun w => Aside0.mk (impl_in.calls a1 0 20 _ w hin)
        obtain ⟨kk, rfl⟩ := Int.eq_ofNat_of_zero_le hm.1
        have e : tmr (chrs a0) (kk : Int) = txt (cn (tmq (hasB x y) kk)) := by
          unfold tmr; rw [hpp, setf_some hpp, decide_eq_true hm, Int.toNat_natCast]; rfl
        rw [e]
        have hkk : kk ≤ 20 := by omega
        have HL := Aside0.mk hb
        have HP := Aside0.mk hpos
        rcases Nat.eq_zero_or_pos kk with rfl | hk1
        · have hsum : IntKind.i64.wrap ((x.length : Int) + (y.length : Int)) = ((x.length + y.length : Nat) : Int) := by rw [IntKind.wrap_i64]; omega
          obtain ⟨k2, hk2⟩ := (setBelow_f x y hb.2.2 (by omega) (x.length + y.length) (by omega)).rounds
          have hany := any_below hpos (hasB_per x y)
          have eg : ∀ args w, (callFunc 53 args).run Try.prog w = .ok (.enter 53 args) w := enters_of Try.func53 (by kernel_rfl) rfl
          have HM := fun (lb : Array Value) (w : World) => Aside0.mk (made_calls (tmq (hasB x y) 0) 1 1 (by omega) (tmq_per0 _) (by omega) 53 lb w eg)
          have HA := Aside0.mk hany
          generalize blw (hasB x y) (x.length + y.length) = bl at *
          clear hb hp hpp hk hev hxy e hin hm hkk hpos hany eg
          go_enter Try.func28, Try.ntmps28
          go_wp2_with (first
            | (go_at_call 42; refine (HK _).out.mono ?_; rintro e w1 ⟨v0_, v1_, rfl, hR0, hR1, hb1⟩; obtain ⟨A0, n0, rfl, hn0, hC0⟩ := Kd.R_reads hR0; obtain ⟨A1, n1, rfl, hn1, hC1⟩ := Kd.R_reads hR1; have C0 := Aside0.mk hC0; have C1 := Aside0.mk hC1; have N0 := Aside0.mk hn0; have N1 := Aside0.mk hn1; clear hR0 hR1 hC0 hC1 hn0 hn1; have HB := Aside0.mk (below_step (below_alloc (Below.refl w.heap.size w) _) hb1); have f0 : w1.cell? ⟨w.heap.size, 0, none⟩ = some (.int .i64 ((0 : Nat) : Int)) := (hb1.cell (p := ⟨w.heap.size, 0, none⟩) (by simp)).trans (by simp); have l0 : w.heap.size < w1.heap.size := Nat.lt_of_lt_of_le (by simp) hb1.size; clear hb1)
            | (go_at_call 35; refine (HI _).out.mono ?_; rintro e w2 ⟨rfl, hd⟩; have hb2 := drawn0_below hd; have c0 : w2.cell? ⟨w.heap.size, 0, none⟩ = some (.int .i64 ((0 : Nat) : Int)) := (hb2.cell (p := ⟨w.heap.size, 0, none⟩) (by simp; omega)).trans (Lib.cell?_alloc_some _ f0); have c1 := (hb2.cell (p := ⟨w1.heap.size, 0, none⟩) (by simp)).trans (cell_two w1 (.slice A0 x.length n0) (.slice A1 y.length n1) _).1; have c2 := (hb2.cell (p := ⟨w1.heap.size, 1, none⟩) (by simp)).trans (cell_two w1 (.slice A0 x.length n0) (.slice A1 y.length n1) _).2; have HB2 := Aside0.mk (below_step (below_alloc (Below.refl w1.heap.size w1) _) hb2); clear hd hb2)
            | (go_at_call 52; refine (impl_set_below.calls k2 A0 n0 x A1 n1 y _ bl w2 (Kd.C_below C0.out HB2.out) N0.out (Kd.C_below C1.out HB2.out) N1.out hk2).mono ?_; rintro e w3 ⟨v2_, rfl, hR2, hb3⟩; obtain ⟨A2, n2, rfl, hn2, hC2⟩ := Kd.R_reads hR2; have HB3 := Aside0.mk hb3; clear hR2 hC2 hn2 hb3)
            | (go_at_call 43; refine ((HM _ _).out ?hc).mono ?_; (case hc =>
                intro W i hW hi
                have := times1_q_calls i w3.heap.size (decide ((bl.length : Int) > 0)) W ((hW.cell (p := ⟨w3.heap.size, 0, none⟩) (by simp)).trans (by simp))
                rw [HA.out] at this
                rw [tmq_zero]
                exact this); rintro e w4 ⟨rfl, hb4⟩))
          go_ret2
          exact ⟨rfl, below_step (below_alloc (below_step (below_step HB.out HB2.out) HB3.out) _) hb4⟩
        · have hz : ¬ ((kk : Int) = 0) := by omega
          have hm1 : kk * x.length ≤ 20 * 60 := Nat.mul_le_mul hkk hb.1
          have hm2 : kk * y.length ≤ 20 * 60 := Nat.mul_le_mul hkk hb.2.1
          have e1 : IntKind.i64.wrap ((kk : Int) * (x.length : Int)) = ((kk * x.length : Nat) : Int) := by rw [IntKind.wrap_i64, ← Int.natCast_mul]; generalize kk * x.length = q at *; omega
          have e2 : IntKind.i64.wrap ((kk : Int) * (y.length : Int)) = ((kk * y.length : Nat) : Int) := by rw [IntKind.wrap_i64, ← Int.natCast_mul]; generalize kk * y.length = q at *; omega
          have eg : ∀ args w, (callFunc 54 args).run Try.prog w = .ok (.enter 54 args) w := enters_of Try.func54 (by kernel_rfl) rfl
          have HM := fun (lb : Array Value) (w : World) => Aside0.mk (made_calls (tmq (hasB x y) kk) (kk * x.length) (kk * y.length) (Nat.mul_pos hk1 hpos) (tmq_per (hasB_per x y) hk1) (by clear e1 e2; omega) 54 lb w eg)
          have HN := Aside0.mk (show kk * x.length + kk * y.length ≤ 2400 by clear e1 e2; omega)
          have H1 := Aside0.mk hk1
          have H2 := Aside0.mk hkk
          generalize kk * x.length = X at *
          generalize kk * y.length = Y at *
          clear hb hp hpp hk hev hxy e hin hm hkk hpos hm1 hm2 eg
          go_enter Try.func28, Try.ntmps28
          go_wp2_with (first
            | (go_at_call 42; refine (HK _).out.mono ?_; rintro e w1 ⟨v0_, v1_, rfl, hR0, hR1, hb1⟩; obtain ⟨A0, n0, rfl, hn0, hC0⟩ := Kd.R_reads hR0; obtain ⟨A1, n1, rfl, hn1, hC1⟩ := Kd.R_reads hR1; have C0 := Aside0.mk hC0; have C1 := Aside0.mk hC1; have N0 := Aside0.mk hn0; have N1 := Aside0.mk hn1; clear hR0 hR1 hC0 hC1 hn0 hn1; have HB := Aside0.mk (below_step (below_alloc (Below.refl w.heap.size w) _) hb1); have f0 : w1.cell? ⟨w.heap.size, 0, none⟩ = some (.int .i64 (kk : Int)) := (hb1.cell (p := ⟨w.heap.size, 0, none⟩) (by simp)).trans (by simp); have l0 : w.heap.size < w1.heap.size := Nat.lt_of_lt_of_le (by simp) hb1.size; clear hb1)
            | (go_at_call 35; refine (HI _).out.mono ?_; rintro e w2 ⟨rfl, hd⟩; have hb2 := drawn0_below hd; have c0 : w2.cell? ⟨w.heap.size, 0, none⟩ = some (.int .i64 (kk : Int)) := (hb2.cell (p := ⟨w.heap.size, 0, none⟩) (by simp; omega)).trans (Lib.cell?_alloc_some _ f0); have c1 := (hb2.cell (p := ⟨w1.heap.size, 0, none⟩) (by simp)).trans (cell_two w1 (.slice A0 x.length n0) (.slice A1 y.length n1) _).1; have c2 := (hb2.cell (p := ⟨w1.heap.size, 1, none⟩) (by simp)).trans (cell_two w1 (.slice A0 x.length n0) (.slice A1 y.length n1) _).2; have hl2 : w1.heap.size < w2.heap.size := Nat.lt_of_lt_of_le (by simp) hb2.size; have HB2 := Aside0.mk (below_step (below_alloc (Below.refl w1.heap.size w1) _) hb2); clear hd hb2)
            | (go_at_call 43; refine ((HM _ _).out ?hc).mono ?_; (case hc =>
                intro W i hW hi
                have hq := HL.out
                have hBW := below_step HB2.out hW
                have hn := HN.out
                have h1 := H1.out
                have h2 := H2.out
                rw [tmq_pos _ h1]
                exact times2_q_calls x y hq.2.2 ⟨hq.1, hq.2.1⟩ A0 n0 A1 n1 i kk w.heap.size w1.heap.size (by omega) h1 (by omega) W (Kd.C_below C0.out hBW) N0.out (Kd.C_below C1.out hBW) N1.out ((hW.cell (p := ⟨w.heap.size, 0, none⟩) (by show w.heap.size < w2.heap.size; omega)).trans c0) ((hW.cell (p := ⟨w1.heap.size, 0, none⟩) hl2).trans c1) ((hW.cell (p := ⟨w1.heap.size, 1, none⟩) hl2).trans c2)); rintro e w4 ⟨rfl, hb4⟩))
          go_ret2
          exact ⟨rfl, below_step (below_step HB.out HB2.out) hb4⟩
      · rw [decide_eq_false hm] at hin
        have HI := fun w => Aside0.mk (impl_in.calls a1 0 20 _ w hin)
        have e : tmr (chrs a0) a1 = (⟨#[]⟩, false) := by unfold tmr; rw [decide_eq_false hm, Bool.and_false]; rfl
        rw [e]
        clear hb hp hpp hk hev hxy e hin hm hpos
        go_enter Try.func28, Try.ntmps28
        go_wp2_with (first
          | (go_at_call 42; refine (HK _).out.mono ?_; rintro e w1 ⟨v0_, v1_, rfl, hR0, hR1, hb1⟩; obtain ⟨A0, n0, rfl, hn0, hC0⟩ := Kd.R_reads hR0; obtain ⟨A1, n1, rfl, hn1, hC1⟩ := Kd.R_reads hR1; clear hR0 hR1 hC0 hC1 hn0 hn1; have HB := Aside0.mk (below_step (below_alloc (Below.refl w.heap.size w) _) hb1); have f0 : w1.cell? ⟨w.heap.size, 0, none⟩ = some (.int .i64 a1) := (hb1.cell (p := ⟨w.heap.size, 0, none⟩) (by simp)).trans (by simp); have l0 : w.heap.size < w1.heap.size := Nat.lt_of_lt_of_le (by simp) hb1.size; clear hb1)
          | (go_at_call 35; refine (HI _).out.mono ?_; rintro e w2 ⟨rfl, hd⟩; have HB2 := Aside0.mk (below_step (below_alloc (Below.refl w1.heap.size w1) _) (drawn0_below hd)); clear hd))
        go_ret2
        exact ⟨rfl, below_step HB.out HB2.out⟩
  · cases h
end Go.Proofs.Ytflfabdfkfigcaa.P

namespace Go.Proofs.Ytflfabdfkfigcaa.P
open Go.RowKit Go.Proofs.YtflfabdfkfigcaaW.PrintWords Go.Proofs.YtflfabdfkfigcaaW.PrintLast Go.Proofs.YtflfabdfkfigcaaW.PrintMore
attribute [local go_sem] max2_int min2_int max_two min_two max_three min_three max_four min_four   -- for this text's walks alone
set_option linter.unusedVariables false
set_option linter.unusedSimpArgs false

/-! ### laws_FnMakeTimes: function 8 -/
mutual
noncomputable def laws_FnMakeTimes.j0 : Nat → ByteArray → Int → ByteArray → Bool → Bool → Option (Bool)
  | 0, _, _, _, _, _ => none
  | k + 1, x3, x4, x5, x6, x9 => if x9 = true then (laws_FnMakeTimes.j1 k x3 x4 x5 x9 (!x6)) else (laws_FnMakeTimes.j1 k x3 x4 x5 x9 true)
noncomputable def laws_FnMakeTimes.j1 : Nat → ByteArray → Int → ByteArray → Bool → Bool → Option (Bool)
  | 0, _, _, _, _, _ => none
  | k + 1, x3, x4, x5, x9, x46 => if x46 = true then (some x9) else (laws_FnMakeTimes.l0 k x3 x4 x5 0)
noncomputable def laws_FnMakeTimes.l0 : Nat → ByteArray → Int → ByteArray → Int → Option (Bool)
  | 0, _, _, _, _ => none
  | k + 1, x3, x4, x5, x10 => if x10 ≤ 150 then ((impl_SetHas.f k x5 x10).bind fun t610 => (if x4 > 0 then (if x4 = 0 then (none) else (if (Int.tmod x10 x4) = 0 then ((impl_SetHas.f k x3 (wrap64 (Int.tdiv x10 x4))).bind fun t611 => (if t611 = true then (if (t610 != true) = true then (some false) else (laws_FnMakeTimes.l0 k x3 x4 x5 (wrap64 (x10 + 1)))) else (if (t610 != false) = true then (some false) else (laws_FnMakeTimes.l0 k x3 x4 x5 (wrap64 (x10 + 1)))))) else (if (t610 != false) = true then (some false) else (laws_FnMakeTimes.l0 k x3 x4 x5 (wrap64 (x10 + 1)))))) else (if x4 = 0 then (if x10 = 0 then ((impl_SetEnds.f k x3).bind fun t612 => (if t612 = true then ((impl_SetSame.f k x3 (⟨#[40, 48, 41]⟩ : ByteArray)).bind fun t613 => (if (t610 != (!t613)) = true then (some false) else (laws_FnMakeTimes.l0 k x3 x4 x5 (wrap64 (x10 + 1))))) else (if (t610 != (!false)) = true then (some false) else (laws_FnMakeTimes.l0 k x3 x4 x5 (wrap64 (x10 + 1)))))) else (if (t610 != false) = true then (some false) else (laws_FnMakeTimes.l0 k x3 x4 x5 (wrap64 (x10 + 1))))) else (if (t610 != false) = true then (some false) else (laws_FnMakeTimes.l0 k x3 x4 x5 (wrap64 (x10 + 1))))))) else ((impl_SetTidy.f k x5).bind fun bt608 => (if bt608.2 = true then (some (bt608.1.toList == x5.toList)) else (some false)))
end
noncomputable def laws_FnMakeTimes.f (k : Nat) (l0 : List Int) : Option (Bool) := if (l0.length : Int) > 1048576 then (some true) else ((spec_DrawMakeTimes.f k l0).bind fun bt602 => ((impl_MakeTimes.f bt602.1 bt602.2).bind fun bt604 => ((spec_MakeTimes.f k bt602.1 bt602.2).bind fun bt606 => (if bt604.1.toList = bt606.1.toList then (laws_FnMakeTimes.j0 k bt602.1 bt602.2 bt604.1 bt604.2 (bt604.2 == bt606.2)) else (laws_FnMakeTimes.j0 k bt602.1 bt602.2 bt604.1 bt604.2 false)))))
theorem laws_FnMakeTimes.mono_l : ∀ k, (∀ y0 y1 y2 y3 y4, LeO (laws_FnMakeTimes.j0 k y0 y1 y2 y3 y4) (laws_FnMakeTimes.j0 (k + 1) y0 y1 y2 y3 y4)) ∧ (∀ y0 y1 y2 y3 y4, LeO (laws_FnMakeTimes.j1 k y0 y1 y2 y3 y4) (laws_FnMakeTimes.j1 (k + 1) y0 y1 y2 y3 y4)) ∧ (∀ y0 y1 y2 y3, LeO (laws_FnMakeTimes.l0 k y0 y1 y2 y3) (laws_FnMakeTimes.l0 (k + 1) y0 y1 y2 y3))
  | 0 => ⟨fun _ _ _ _ _ r h => by simp [laws_FnMakeTimes.j0] at h, fun _ _ _ _ _ r h => by simp [laws_FnMakeTimes.j1] at h, fun _ _ _ _ r h => by simp [laws_FnMakeTimes.l0] at h⟩
  | k + 1 => by
    obtain ⟨ih0, ih1, ih2⟩ := laws_FnMakeTimes.mono_l k
    refine ⟨?_, ?_, ?_⟩
    · intro y0 y1 y2 y3 y4
      unfold laws_FnMakeTimes.j0
      repeat' first
      | (with_reducible exact ih0 _ _ _ _ _)
      | (with_reducible exact ih1 _ _ _ _ _)
      | (with_reducible exact ih2 _ _ _ _)
      | (with_reducible exact impl_SetEnds.mono _ _)
      | (with_reducible exact impl_SetHas.mono _ _ _)
      | (with_reducible exact impl_SetSame.mono _ _ _)
      | (with_reducible exact impl_SetTidy.mono _ _)
      | (with_reducible exact spec_DrawMakeTimes.mono _ _)
      | (with_reducible exact spec_MakeTimes.mono _ _ _)
      | (with_reducible exact LeO.refl _)
      | (with_reducible exact LeO.none _)
      | (with_reducible refine LeO.ite ?_ ?_)
      | (with_reducible refine LeO.bind ?_ (fun _ => ?_))
      | exact ih0 _ _ _ _ _
      | exact ih1 _ _ _ _ _
      | exact ih2 _ _ _ _
      | exact impl_SetEnds.mono _ _
      | exact impl_SetHas.mono _ _ _
      | exact impl_SetSame.mono _ _ _
      | exact impl_SetTidy.mono _ _
      | exact spec_DrawMakeTimes.mono _ _
      | exact spec_MakeTimes.mono _ _ _
      | exact LeO.none _
      | refine LeO.ite ?_ ?_
      | refine LeO.bind ?_ (fun _ => ?_)
    · intro y0 y1 y2 y3 y4
      unfold laws_FnMakeTimes.j1
      repeat' first
      | (with_reducible exact ih0 _ _ _ _ _)
      | (with_reducible exact ih1 _ _ _ _ _)
      | (with_reducible exact ih2 _ _ _ _)
      | (with_reducible exact impl_SetEnds.mono _ _)
      | (with_reducible exact impl_SetHas.mono _ _ _)
      | (with_reducible exact impl_SetSame.mono _ _ _)
      | (with_reducible exact impl_SetTidy.mono _ _)
      | (with_reducible exact spec_DrawMakeTimes.mono _ _)
      | (with_reducible exact spec_MakeTimes.mono _ _ _)
      | (with_reducible exact LeO.refl _)
      | (with_reducible exact LeO.none _)
      | (with_reducible refine LeO.ite ?_ ?_)
      | (with_reducible refine LeO.bind ?_ (fun _ => ?_))
      | exact ih0 _ _ _ _ _
      | exact ih1 _ _ _ _ _
      | exact ih2 _ _ _ _
      | exact impl_SetEnds.mono _ _
      | exact impl_SetHas.mono _ _ _
      | exact impl_SetSame.mono _ _ _
      | exact impl_SetTidy.mono _ _
      | exact spec_DrawMakeTimes.mono _ _
      | exact spec_MakeTimes.mono _ _ _
      | exact LeO.none _
      | refine LeO.ite ?_ ?_
      | refine LeO.bind ?_ (fun _ => ?_)
    · intro y0 y1 y2 y3
      unfold laws_FnMakeTimes.l0
      repeat' first
      | (with_reducible exact ih0 _ _ _ _ _)
      | (with_reducible exact ih1 _ _ _ _ _)
      | (with_reducible exact ih2 _ _ _ _)
      | (with_reducible exact impl_SetEnds.mono _ _)
      | (with_reducible exact impl_SetHas.mono _ _ _)
      | (with_reducible exact impl_SetSame.mono _ _ _)
      | (with_reducible exact impl_SetTidy.mono _ _)
      | (with_reducible exact spec_DrawMakeTimes.mono _ _)
      | (with_reducible exact spec_MakeTimes.mono _ _ _)
      | (with_reducible exact LeO.refl _)
      | (with_reducible exact LeO.none _)
      | (with_reducible refine LeO.ite ?_ ?_)
      | (with_reducible refine LeO.bind ?_ (fun _ => ?_))
      | exact ih0 _ _ _ _ _
      | exact ih1 _ _ _ _ _
      | exact ih2 _ _ _ _
      | exact impl_SetEnds.mono _ _
      | exact impl_SetHas.mono _ _ _
      | exact impl_SetSame.mono _ _ _
      | exact impl_SetTidy.mono _ _
      | exact spec_DrawMakeTimes.mono _ _
      | exact spec_MakeTimes.mono _ _ _
      | exact LeO.none _
      | refine LeO.ite ?_ ?_
      | refine LeO.bind ?_ (fun _ => ?_)
theorem laws_FnMakeTimes.mono : ∀ a0 k, LeO (laws_FnMakeTimes.f k a0) (laws_FnMakeTimes.f (k + 1) a0) := by
  intro a0 k
  obtain ⟨ih0, ih1, ih2⟩ := laws_FnMakeTimes.mono_l k
  unfold laws_FnMakeTimes.f
  repeat' first
      | (with_reducible exact ih0 _ _ _ _ _)
      | (with_reducible exact ih1 _ _ _ _ _)
      | (with_reducible exact ih2 _ _ _ _)
      | (with_reducible exact impl_SetEnds.mono _ _)
      | (with_reducible exact impl_SetHas.mono _ _ _)
      | (with_reducible exact impl_SetSame.mono _ _ _)
      | (with_reducible exact impl_SetTidy.mono _ _)
      | (with_reducible exact spec_DrawMakeTimes.mono _ _)
      | (with_reducible exact spec_MakeTimes.mono _ _ _)
      | (with_reducible exact LeO.refl _)
      | (with_reducible exact LeO.none _)
      | (with_reducible refine LeO.ite ?_ ?_)
      | (with_reducible refine LeO.bind ?_ (fun _ => ?_))
      | exact ih0 _ _ _ _ _
      | exact ih1 _ _ _ _ _
      | exact ih2 _ _ _ _
      | exact impl_SetEnds.mono _ _
      | exact impl_SetHas.mono _ _ _
      | exact impl_SetSame.mono _ _ _
      | exact impl_SetTidy.mono _ _
      | exact spec_DrawMakeTimes.mono _ _
      | exact spec_MakeTimes.mono _ _ _
      | exact LeO.none _
      | refine LeO.ite ?_ ?_
      | refine LeO.bind ?_ (fun _ => ?_)
set_option maxHeartbeats 8000000 in
set_option maxRecDepth 100000 in
theorem laws_FnMakeTimes.calls (k : Nat) (A0 : Option Addr) (c0 : Nat) (l0 : List Int) (r : Bool) (w : World) (hr0 : Kd.C (Kd.int .u8) w A0 l0.length l0) (hc0 : l0.length ≤ c0) (h : laws_FnMakeTimes.f k l0 = some r) :
    Calls Try.prog 8 #[.slice A0 l0.length c0] w fun e w' => e = .returned (.bool r) ∧ Below w.heap.size w w' := by
  have HR0 := Aside0.mk hr0
  have HC0 := Aside0.mk hc0
  clear hr0 hc0
  have HB := Aside0.mk (Below.refl w.heap.size w)
  have H : (if (l0.length : Int) > 1048576 then (some true) else ((spec_DrawMakeTimes.f k l0).bind fun bt602 => ((impl_MakeTimes.f bt602.1 bt602.2).bind fun bt604 => ((spec_MakeTimes.f k bt602.1 bt602.2).bind fun bt606 => (if bt604.1.toList = bt606.1.toList then (laws_FnMakeTimes.j0 k bt602.1 bt602.2 bt604.1 bt604.2 (bt604.2 == bt606.2)) else (laws_FnMakeTimes.j0 k bt602.1 bt602.2 bt604.1 bt604.2 false)))))) = some r := h
  clear h
  by_cases c2 : (l0.length : Int) > 1048576
  · rw [if_pos c2] at H
    have c2b0 : decide (1048576 < (l0.length : Int)) = true := decide_eq_true c2
    have c2b1 : decide (1048576 < l0.length) = true := decide_eq_true (by omega)
    clear c2
    obtain rfl := Option.some.inj H
    go_enter Try.func8, Try.ntmps8
    go_wp2
    go_ret
    exact ⟨by first | rfl | (simp [errW_none, errW_some] <;> rfl) | (simp [*, errW_none, errW_some] <;> rfl) | (simp [errW_none, errW_some]; exact ⟨rfl, rfl⟩), by repeat (first | (with_reducible first | exact HB.out | apply below_alloc | apply pw_below_drewN | apply below_drew1) | exact HB.out)⟩
  · rw [if_neg c2] at H
    have c2b0 : decide (1048576 < (l0.length : Int)) = false := decide_eq_false c2
    have c2b1 : decide (1048576 < l0.length) = false := decide_eq_false (by omega)
    clear c2
    replace H := Option.bind_eq_some_iff.mp H
    obtain ⟨⟨t602, t603⟩, A30, H⟩ := H
    replace H : ((impl_MakeTimes.f t602 t603).bind fun bt604 => ((spec_MakeTimes.f k t602 t603).bind fun bt606 => (if bt604.1.toList = bt606.1.toList then (laws_FnMakeTimes.j0 k t602 t603 bt604.1 bt604.2 (bt604.2 == bt606.2)) else (laws_FnMakeTimes.j0 k t602 t603 bt604.1 bt604.2 false)))) = some r := H
    have A3 := Aside0.mk A30
    clear A30
    replace H := Option.bind_eq_some_iff.mp H
    obtain ⟨⟨t604, t605⟩, A40, H⟩ := H
    replace H : ((spec_MakeTimes.f k t602 t603).bind fun bt606 => (if t604.toList = bt606.1.toList then (laws_FnMakeTimes.j0 k t602 t603 t604 t605 (t605 == bt606.2)) else (laws_FnMakeTimes.j0 k t602 t603 t604 t605 false))) = some r := H
    have A4 := Aside0.mk A40
    clear A40
    replace H := Option.bind_eq_some_iff.mp H
    obtain ⟨⟨t606, t607⟩, A50, H⟩ := H
    replace H : (if t604.toList = t606.toList then (laws_FnMakeTimes.j0 k t602 t603 t604 t605 (t605 == t607)) else (laws_FnMakeTimes.j0 k t602 t603 t604 t605 false)) = some r := H
    have A5 := Aside0.mk A50
    clear A50
    have HC6 := Aside0.mk H
    clear H
    go_enter Try.func8, Try.ntmps8
    go_upto_region 6 with (first | ((with_reducible refine gate_callee (f := 27) rfl ?_); refine goesL_ (some 18) rfl rfl Try.func27 (by kernel_rfl) rfl #[.slice A0 l0.length c0] rfl (by (try simp only [List.map_toArray, List.map_cons, List.map_nil]); first | done | rfl | (simp only [List.length_drop, List.length_take]; rfl)) ?_; (with_reducible refine (spec_DrawMakeTimes.calls k _ _ l0 t602 t603 _ ?side1 ?side2 A3.out).mono ?_); (case side1 => repeat (first | exact HR0.out | (with_reducible refine Kd.C_alloc ?_ _) | (with_reducible refine Kd.C_drewN ?_ _) | (with_reducible refine Kd.C_drew ?_))); (case side2 => exact HC0.out); rintro e w7 ⟨rfl, hb⟩; refine ⟨_, rfl, ?_⟩; have n0_ := Aside0.mk (below_step (by repeat (first | (with_reducible first | exact HB.out | apply below_alloc | apply pw_below_drewN | apply below_drew1) | exact HB.out)) hb); clear HB; have HB := n0_; clear n0_; (try clear hb); (try clear hb2); (try clear hk); (try clear hi)) | ((with_reducible refine gate_callee (f := 28) rfl ?_); refine goesL_ (some 24) rfl rfl Try.func28 (by kernel_rfl) rfl #[.string t602, .int .i64 t603] rfl (by (try simp only [List.map_toArray, List.map_cons, List.map_nil]); first | done | rfl | (simp only [List.length_drop, List.length_take]; rfl)) ?_; (with_reducible refine (impl_MakeTimes.calls t602 t603 t604 t605 _ A4.out).mono ?_); rintro e w8 ⟨rfl, hb⟩; refine ⟨_, rfl, ?_⟩; have n0_ := Aside0.mk (below_step (by repeat (first | (with_reducible first | exact HB.out | apply below_alloc | apply pw_below_drewN | apply below_drew1) | exact HB.out)) hb); clear HB; have HB := n0_; clear n0_; (try clear hb); (try clear hb2); (try clear hk); (try clear hi)) | ((with_reducible refine gate_callee (f := 29) rfl ?_); refine goesL_ (some 30) rfl rfl Try.func29 (by kernel_rfl) rfl #[.string t602, .int .i64 t603] rfl (by (try simp only [List.map_toArray, List.map_cons, List.map_nil]); first | done | rfl | (simp only [List.length_drop, List.length_take]; rfl)) ?_; (with_reducible refine (spec_MakeTimes.calls k t602 t603 t606 t607 _ A5.out).mono ?_); rintro e w9 ⟨rfl, hb⟩; refine ⟨_, rfl, ?_⟩; have n0_ := Aside0.mk (below_step (by repeat (first | (with_reducible first | exact HB.out | apply below_alloc | apply pw_below_drewN | apply below_drew1) | exact HB.out)) hb); clear HB; have HB := n0_; clear n0_; (try clear hb); (try clear hb2); (try clear hk); (try clear hi)))
    (try simp only [Act.put, List.setIfInBounds_toArray, List.set_cons_zero, List.set_cons_succ])
    go_cut [9] (fun v9 wc => ∃ (kq : Nat) (x9_5 : Bool), v9 = .bool x9_5 ∧ Aside0 (laws_FnMakeTimes.j0 kq t602 t603 t604 t605 x9_5 = some r) ∧ Aside0 (kq ≤ k) ∧ Aside0 (Below w.heap.size w wc))
    case first =>
      have H := HC6.out
      clear HC6
      by_cases c10 : t604.toList = t606.toList
      · rw [if_pos c10] at H
        have c10b0 : (t604.toList == t606.toList) = true := beq_iff_eq.mpr c10
        have c10b1 : (t604.toList != t606.toList) = false := bne_eq_false_iff_eq.mpr c10
        clear c10
        (first | rw [c10b0] | (simp only [i64_w, i32_w]; rw [c10b0]) | skip)
        have H' := Aside0.mk H
        clear H
        go_wp2
        go_meet
        case rel => exact ⟨_, ((t605 == t607)), (by first | rfl | (simp; done) | (simp [*]; done) | (simp [Int.tmod_eq_emod_of_nonneg]; done)), H', ⟨by first | omega | exact Nat.le_refl _⟩, ⟨by repeat (first | (with_reducible first | exact HB.out | apply below_alloc | apply pw_below_drewN | apply below_drew1) | exact HB.out)⟩⟩
      · rw [if_neg c10] at H
        have c10b0 : (t604.toList == t606.toList) = false := beq_eq_false_iff_ne.mpr c10
        have c10b1 : (t604.toList != t606.toList) = true := bne_iff_ne.mpr c10
        (first | rw [c10b0] | (simp only [i64_w, i32_w]; rw [c10b0]) | skip)
        have H' := Aside0.mk H
        clear H
        go_wp2
        go_meet
        case rel => exact ⟨_, (false), (by first | rfl | (simp; done) | (simp [*]; done) | (simp [Int.tmod_eq_emod_of_nonneg]; done)), H', ⟨by first | omega | exact Nat.le_refl _⟩, ⟨by repeat (first | (with_reducible first | exact HB.out | apply below_alloc | apply pw_below_drewN | apply below_drew1) | exact HB.out)⟩⟩
    case rest =>
      clear HC6
      try clear c1
      try clear c2
      try clear c2b0
      try clear c2b1
      try clear p2
      try clear c8
      try clear c10
      try clear c10b0
      try clear c10b1
      obtain ⟨kq, x9_5, rfl, HA, HJ5, HB⟩ := hcut
      cases kq with
      | zero => exact absurd HA.out (by simp [laws_FnMakeTimes.j0])
      | succ kj5 =>
        have H := HA.out
        clear HA
        simp only [laws_FnMakeTimes.j0] at H
        have HC11 := Aside0.mk H
        clear H
        go_upto_region 7 with (fail)
        go_cut [46] (fun v46 wc => ∃ (kq : Nat) (x46_10 : Bool), v46 = .bool x46_10 ∧ Aside0 (laws_FnMakeTimes.j1 kq t602 t603 t604 x9_5 x46_10 = some r) ∧ Aside0 (kq ≤ kj5) ∧ Aside0 (Below w.heap.size w wc))
        case first =>
          have H := HC11.out
          clear HC11
          by_cases c12 : x9_5 = true
          · subst c12
            have H1 : (laws_FnMakeTimes.j1 kj5 t602 t603 t604 true (!t605)) = some r := by rw [if_pos rfl] at H; exact H
            clear H
            have H := H1
            clear H1
            have H' := Aside0.mk H
            clear H
            go_wp2
            go_meet
            case rel => exact ⟨_, (!t605), (by first | rfl | (simp; done) | (simp [*]; done) | (simp [Int.tmod_eq_emod_of_nonneg]; done)), H', ⟨by have := HJ5.out; first | omega | exact Nat.le_refl _⟩, ⟨by repeat (first | (with_reducible first | exact HB.out | apply below_alloc | apply pw_below_drewN | apply below_drew1) | exact HB.out)⟩⟩
          · replace c12 := Bool.eq_false_iff.mpr c12
            subst c12
            have H1 : (laws_FnMakeTimes.j1 kj5 t602 t603 t604 false true) = some r := by rw [if_neg (show ¬ (false = true) by decide)] at H; exact H
            clear H
            have H := H1
            clear H1
            have H' := Aside0.mk H
            clear H
            go_wp2
            go_meet
            case rel => exact ⟨_, (true), (by first | rfl | (simp; done) | (simp [*]; done) | (simp [Int.tmod_eq_emod_of_nonneg]; done)), H', ⟨by have := HJ5.out; first | omega | exact Nat.le_refl _⟩, ⟨by repeat (first | (with_reducible first | exact HB.out | apply below_alloc | apply pw_below_drewN | apply below_drew1) | exact HB.out)⟩⟩
        case rest =>
          clear HC11
          try clear c1
          try clear c2
          try clear c2b0
          try clear c2b1
          try clear p2
          try clear c8
          try clear c10
          try clear c10b0
          try clear c10b1
          try clear c12
          try clear p2
          obtain ⟨kq, x46_10, rfl, HA, HJ10, HB⟩ := hcut
          cases kq with
          | zero => exact absurd HA.out (by simp [laws_FnMakeTimes.j1])
          | succ kj10 =>
            have H := HA.out
            clear HA
            simp only [laws_FnMakeTimes.j1] at H
            by_cases c13 : x46_10 = true
            · subst c13
              have H1 : (some x9_5) = some r := by rw [if_pos rfl] at H; exact H
              clear H
              have H := H1
              clear H1
              obtain rfl := Option.some.inj H
              go_wp2
              go_ret
              exact ⟨by first | rfl | (simp [errW_none, errW_some] <;> rfl) | (simp [*, errW_none, errW_some] <;> rfl) | (simp [errW_none, errW_some]; exact ⟨rfl, rfl⟩), by repeat (first | (with_reducible first | exact HB.out | apply below_alloc | apply pw_below_drewN | apply below_drew1) | exact HB.out)⟩
            · replace c13 := Bool.eq_false_iff.mpr c13
              subst c13
              have H1 : (laws_FnMakeTimes.l0 kj10 t602 t603 t604 0) = some r := by rw [if_neg (show ¬ (false = true) by decide)] at H; exact H
              clear H
              have H := H1
              clear H1
              have H' := Aside0.mk H
              clear H
              go_wp2
              go_loopg [10] kj10 (fun kq v10 w' => ∃ (x10_3 : Int), v10 = .int .i64 x10_3 ∧ Aside0 (laws_FnMakeTimes.l0 kq t602 t603 t604 x10_3 = some r) ∧ Aside0 (kq ≤ kj10) ∧ Aside0 (Below w.heap.size w w'))
              case atStart => exact ⟨(0), (by first | rfl | (simp; done) | (simp [*]; done) | (simp [Int.tmod_eq_emod_of_nonneg]; done)), H', ⟨Nat.le_refl _⟩, ⟨by repeat (first | (with_reducible first | exact HB.out | apply below_alloc | apply pw_below_drewN | apply below_drew1) | exact HB.out)⟩⟩
              case round =>
                clear H'
                try clear c1
                try clear c2
                try clear c2b0
                try clear c2b1
                try clear p2
                try clear c8
                try clear c10
                try clear c10b0
                try clear c10b1
                try clear c12
                try clear c13
                try clear p2
                obtain ⟨x10_3, rfl, HA, HK3, HB⟩ := hrel
                cases gk with
                | zero => exact absurd HA.out (by simp [laws_FnMakeTimes.l0])
                | succ k3 =>
                  have H := HA.out
                  clear HA
                  simp only [laws_FnMakeTimes.l0] at H
                  by_cases c14 : x10_3 ≤ 150
                  · rw [if_pos c14] at H
                    have c14b0 : decide (x10_3 ≤ 150) = true := decide_eq_true c14
                    clear c14
                    replace H := Option.bind_eq_some_iff.mp H
                    obtain ⟨t610, A150, H⟩ := H
                    replace H : (if t603 > 0 then (if t603 = 0 then (none) else (if (Int.tmod x10_3 t603) = 0 then ((impl_SetHas.f k3 t602 (wrap64 (Int.tdiv x10_3 t603))).bind fun t611 => (if t611 = true then (if (t610 != true) = true then (some false) else (laws_FnMakeTimes.l0 k3 t602 t603 t604 (wrap64 (x10_3 + 1)))) else (if (t610 != false) = true then (some false) else (laws_FnMakeTimes.l0 k3 t602 t603 t604 (wrap64 (x10_3 + 1)))))) else (if (t610 != false) = true then (some false) else (laws_FnMakeTimes.l0 k3 t602 t603 t604 (wrap64 (x10_3 + 1)))))) else (if t603 = 0 then (if x10_3 = 0 then ((impl_SetEnds.f k3 t602).bind fun t612 => (if t612 = true then ((impl_SetSame.f k3 t602 (⟨#[40, 48, 41]⟩ : ByteArray)).bind fun t613 => (if (t610 != (!t613)) = true then (some false) else (laws_FnMakeTimes.l0 k3 t602 t603 t604 (wrap64 (x10_3 + 1))))) else (if (t610 != (!false)) = true then (some false) else (laws_FnMakeTimes.l0 k3 t602 t603 t604 (wrap64 (x10_3 + 1)))))) else (if (t610 != false) = true then (some false) else (laws_FnMakeTimes.l0 k3 t602 t603 t604 (wrap64 (x10_3 + 1))))) else (if (t610 != false) = true then (some false) else (laws_FnMakeTimes.l0 k3 t602 t603 t604 (wrap64 (x10_3 + 1)))))) = some r := H
                    have A15 := Aside0.mk A150
                    clear A150
                    by_cases c16 : t603 > 0
                    · rw [if_pos c16] at H
                      have c16b0 : decide (0 < t603) = true := decide_eq_true c16
                      clear c16
                      by_cases c17 : t603 = 0
                      · rw [if_pos c17] at H
                        exact absurd H (by simp)
                      · rw [if_neg c17] at H
                        have c17b0 : (t603 == 0) = false := beq_eq_false_iff_ne.mpr c17
                        have c17b1 : (t603 != 0) = true := bne_iff_ne.mpr c17
                        by_cases c18 : (Int.tmod x10_3 t603) = 0
                        · rw [if_pos c18] at H
                          have c18b0 : ((Int.tmod x10_3 t603) == 0) = true := beq_iff_eq.mpr c18
                          have c18b1 : ((Int.tmod x10_3 t603) != 0) = false := bne_eq_false_iff_eq.mpr c18
                          clear c18
                          replace H := Option.bind_eq_some_iff.mp H
                          obtain ⟨t611, A190, H⟩ := H
                          replace H : (if t611 = true then (if (t610 != true) = true then (some false) else (laws_FnMakeTimes.l0 k3 t602 t603 t604 (wrap64 (x10_3 + 1)))) else (if (t610 != false) = true then (some false) else (laws_FnMakeTimes.l0 k3 t602 t603 t604 (wrap64 (x10_3 + 1))))) = some r := H
                          have A19 := Aside0.mk A190
                          clear A190
                          by_cases c20 : t611 = true
                          · subst c20
                            have H1 : (if (t610 != true) = true then (some false) else (laws_FnMakeTimes.l0 k3 t602 t603 t604 (wrap64 (x10_3 + 1)))) = some r := by rw [if_pos rfl] at H; exact H
                            clear H
                            have H := H1
                            clear H1
                            by_cases c21 : (t610 != true) = true
                            · rw [if_pos c21] at H
                              have c21b0 : (t610 != true) = true := c21
                              (try (have c21b1 : decide (t610 = true) = false := by simpa using c21))
                              (try (have c21b2 : (t610 == true) = false := by simpa using c21))
                              (try (have c21b3 : ¬ (t610 = true) := by simpa using c21))
                              clear c21
                              obtain rfl := Option.some.inj H
                              go_wp2_with (first | ((with_reducible refine gate_callee (f := 12) rfl ?_); refine goesL_ (some 54) rfl rfl Try.func12 (by kernel_rfl) rfl #[.string t604, .int .i64 x10_3] rfl (by (try simp only [List.map_toArray, List.map_cons, List.map_nil]); first | done | rfl | (simp only [List.length_drop, List.length_take]; rfl)) ?_; (with_reducible refine (impl_SetHas.calls k3 t604 x10_3 t610 _ A15.out).mono ?_); rintro e w22 ⟨rfl, hb⟩; refine ⟨_, rfl, ?_⟩; have n0_ := Aside0.mk (below_step (by repeat (first | (with_reducible first | exact HB.out | apply below_alloc | apply pw_below_drewN | apply below_drew1) | exact HB.out)) hb); clear HB; have HB := n0_; clear n0_; (try clear hb); (try clear hb2); (try clear hk); (try clear hi)) | (go_at_call 12; (with_reducible refine (impl_SetHas.calls k3 t602 (wrap64 (Int.tdiv x10_3 t603)) true _ A19.out).mono ?_); rintro e w23 ⟨rfl, hb⟩; have n0_ := Aside0.mk (below_step (by repeat (first | (with_reducible first | exact HB.out | apply below_alloc | apply pw_below_drewN | apply below_drew1) | exact HB.out)) hb); clear HB; have HB := n0_; clear n0_; (try clear hb); (try clear hb2); (try clear hk); (try clear hi)))
                              go_ret
                              exact ⟨by first | rfl | (simp [errW_none, errW_some] <;> rfl) | (simp [*, errW_none, errW_some] <;> rfl) | (simp [errW_none, errW_some]; exact ⟨rfl, rfl⟩), by repeat (first | (with_reducible first | exact HB.out | apply below_alloc | apply pw_below_drewN | apply below_drew1) | exact HB.out)⟩
                            · rw [if_neg c21] at H
                              have c21b0 : (t610 != true) = false := by simpa using c21
                              (try (have c21b1 : decide (t610 = true) = true := by simpa using c21))
                              (try (have c21b2 : (t610 == true) = true := by simpa using c21))
                              clear c21
                              have H' := Aside0.mk H
                              clear H
                              go_wp2_with (first | ((with_reducible refine gate_callee (f := 12) rfl ?_); refine goesL_ (some 54) rfl rfl Try.func12 (by kernel_rfl) rfl #[.string t604, .int .i64 x10_3] rfl (by (try simp only [List.map_toArray, List.map_cons, List.map_nil]); first | done | rfl | (simp only [List.length_drop, List.length_take]; rfl)) ?_; (with_reducible refine (impl_SetHas.calls k3 t604 x10_3 t610 _ A15.out).mono ?_); rintro e w24 ⟨rfl, hb⟩; refine ⟨_, rfl, ?_⟩; have n0_ := Aside0.mk (below_step (by repeat (first | (with_reducible first | exact HB.out | apply below_alloc | apply pw_below_drewN | apply below_drew1) | exact HB.out)) hb); clear HB; have HB := n0_; clear n0_; (try clear hb); (try clear hb2); (try clear hk); (try clear hi)) | (go_at_call 12; (with_reducible refine (impl_SetHas.calls k3 t602 (wrap64 (Int.tdiv x10_3 t603)) true _ A19.out).mono ?_); rintro e w25 ⟨rfl, hb⟩; have n0_ := Aside0.mk (below_step (by repeat (first | (with_reducible first | exact HB.out | apply below_alloc | apply pw_below_drewN | apply below_drew1) | exact HB.out)) hb); clear HB; have HB := n0_; clear n0_; (try clear hb); (try clear hb2); (try clear hk); (try clear hi)))
                              go_roundg k3
                              case measure => have := HJ5.out; have := HJ10.out; have := HK3.out; omega
                              case rel => exact ⟨(wrap64 (x10_3 + 1)), (by first | rfl | (simp; done) | (simp [*]; done) | (simp [Int.tmod_eq_emod_of_nonneg]; done)), H', ⟨by have := HJ5.out; have := HJ10.out; have := HK3.out; omega⟩, ⟨by repeat (first | (with_reducible first | exact HB.out | apply below_alloc | apply pw_below_drewN | apply below_drew1) | exact HB.out)⟩⟩
                          · replace c20 := Bool.eq_false_iff.mpr c20
                            subst c20
                            have H1 : (if (t610 != false) = true then (some false) else (laws_FnMakeTimes.l0 k3 t602 t603 t604 (wrap64 (x10_3 + 1)))) = some r := by rw [if_neg (show ¬ (false = true) by decide)] at H; exact H
                            clear H
                            have H := H1
                            clear H1
                            by_cases c26 : (t610 != false) = true
                            · rw [if_pos c26] at H
                              have c26b0 : (t610 != false) = true := c26
                              (try (have c26b1 : decide (t610 = false) = false := by simpa using c26))
                              (try (have c26b2 : (t610 == false) = false := by simpa using c26))
                              (try (have c26b3 : ¬ (t610 = false) := by simpa using c26))
                              clear c26
                              obtain rfl := Option.some.inj H
                              go_wp2_with (first | ((with_reducible refine gate_callee (f := 12) rfl ?_); refine goesL_ (some 54) rfl rfl Try.func12 (by kernel_rfl) rfl #[.string t604, .int .i64 x10_3] rfl (by (try simp only [List.map_toArray, List.map_cons, List.map_nil]); first | done | rfl | (simp only [List.length_drop, List.length_take]; rfl)) ?_; (with_reducible refine (impl_SetHas.calls k3 t604 x10_3 t610 _ A15.out).mono ?_); rintro e w27 ⟨rfl, hb⟩; refine ⟨_, rfl, ?_⟩; have n0_ := Aside0.mk (below_step (by repeat (first | (with_reducible first | exact HB.out | apply below_alloc | apply pw_below_drewN | apply below_drew1) | exact HB.out)) hb); clear HB; have HB := n0_; clear n0_; (try clear hb); (try clear hb2); (try clear hk); (try clear hi)) | (go_at_call 12; (with_reducible refine (impl_SetHas.calls k3 t602 (wrap64 (Int.tdiv x10_3 t603)) false _ A19.out).mono ?_); rintro e w28 ⟨rfl, hb⟩; have n0_ := Aside0.mk (below_step (by repeat (first | (with_reducible first | exact HB.out | apply below_alloc | apply pw_below_drewN | apply below_drew1) | exact HB.out)) hb); clear HB; have HB := n0_; clear n0_; (try clear hb); (try clear hb2); (try clear hk); (try clear hi)))
                              go_ret
                              exact ⟨by first | rfl | (simp [errW_none, errW_some] <;> rfl) | (simp [*, errW_none, errW_some] <;> rfl) | (simp [errW_none, errW_some]; exact ⟨rfl, rfl⟩), by repeat (first | (with_reducible first | exact HB.out | apply below_alloc | apply pw_below_drewN | apply below_drew1) | exact HB.out)⟩
                            · rw [if_neg c26] at H
                              have c26b0 : (t610 != false) = false := by simpa using c26
                              (try (have c26b1 : decide (t610 = false) = true := by simpa using c26))
                              (try (have c26b2 : (t610 == false) = true := by simpa using c26))
                              clear c26
                              have H' := Aside0.mk H
                              clear H
                              go_wp2_with (first | ((with_reducible refine gate_callee (f := 12) rfl ?_); refine goesL_ (some 54) rfl rfl Try.func12 (by kernel_rfl) rfl #[.string t604, .int .i64 x10_3] rfl (by (try simp only [List.map_toArray, List.map_cons, List.map_nil]); first | done | rfl | (simp only [List.length_drop, List.length_take]; rfl)) ?_; (with_reducible refine (impl_SetHas.calls k3 t604 x10_3 t610 _ A15.out).mono ?_); rintro e w29 ⟨rfl, hb⟩; refine ⟨_, rfl, ?_⟩; have n0_ := Aside0.mk (below_step (by repeat (first | (with_reducible first | exact HB.out | apply below_alloc | apply pw_below_drewN | apply below_drew1) | exact HB.out)) hb); clear HB; have HB := n0_; clear n0_; (try clear hb); (try clear hb2); (try clear hk); (try clear hi)) | (go_at_call 12; (with_reducible refine (impl_SetHas.calls k3 t602 (wrap64 (Int.tdiv x10_3 t603)) false _ A19.out).mono ?_); rintro e w30 ⟨rfl, hb⟩; have n0_ := Aside0.mk (below_step (by repeat (first | (with_reducible first | exact HB.out | apply below_alloc | apply pw_below_drewN | apply below_drew1) | exact HB.out)) hb); clear HB; have HB := n0_; clear n0_; (try clear hb); (try clear hb2); (try clear hk); (try clear hi)))
                              go_roundg k3
                              case measure => have := HJ5.out; have := HJ10.out; have := HK3.out; omega
                              case rel => exact ⟨(wrap64 (x10_3 + 1)), (by first | rfl | (simp; done) | (simp [*]; done) | (simp [Int.tmod_eq_emod_of_nonneg]; done)), H', ⟨by have := HJ5.out; have := HJ10.out; have := HK3.out; omega⟩, ⟨by repeat (first | (with_reducible first | exact HB.out | apply below_alloc | apply pw_below_drewN | apply below_drew1) | exact HB.out)⟩⟩
                        · rw [if_neg c18] at H
                          have c18b0 : ((Int.tmod x10_3 t603) == 0) = false := beq_eq_false_iff_ne.mpr c18
                          have c18b1 : ((Int.tmod x10_3 t603) != 0) = true := bne_iff_ne.mpr c18
                          by_cases c31 : (t610 != false) = true
                          · rw [if_pos c31] at H
                            have c31b0 : (t610 != false) = true := c31
                            (try (have c31b1 : decide (t610 = false) = false := by simpa using c31))
                            (try (have c31b2 : (t610 == false) = false := by simpa using c31))
                            (try (have c31b3 : ¬ (t610 = false) := by simpa using c31))
                            clear c31
                            obtain rfl := Option.some.inj H
                            go_wp2_with (first | ((with_reducible refine gate_callee (f := 12) rfl ?_); refine goesL_ (some 54) rfl rfl Try.func12 (by kernel_rfl) rfl #[.string t604, .int .i64 x10_3] rfl (by (try simp only [List.map_toArray, List.map_cons, List.map_nil]); first | done | rfl | (simp only [List.length_drop, List.length_take]; rfl)) ?_; (with_reducible refine (impl_SetHas.calls k3 t604 x10_3 t610 _ A15.out).mono ?_); rintro e w32 ⟨rfl, hb⟩; refine ⟨_, rfl, ?_⟩; have n0_ := Aside0.mk (below_step (by repeat (first | (with_reducible first | exact HB.out | apply below_alloc | apply pw_below_drewN | apply below_drew1) | exact HB.out)) hb); clear HB; have HB := n0_; clear n0_; (try clear hb); (try clear hb2); (try clear hk); (try clear hi)))
                            go_ret
                            exact ⟨by first | rfl | (simp [errW_none, errW_some] <;> rfl) | (simp [*, errW_none, errW_some] <;> rfl) | (simp [errW_none, errW_some]; exact ⟨rfl, rfl⟩), by repeat (first | (with_reducible first | exact HB.out | apply below_alloc | apply pw_below_drewN | apply below_drew1) | exact HB.out)⟩
                          · rw [if_neg c31] at H
                            have c31b0 : (t610 != false) = false := by simpa using c31
                            (try (have c31b1 : decide (t610 = false) = true := by simpa using c31))
                            (try (have c31b2 : (t610 == false) = true := by simpa using c31))
                            clear c31
                            have H' := Aside0.mk H
                            clear H
                            go_wp2_with (first | ((with_reducible refine gate_callee (f := 12) rfl ?_); refine goesL_ (some 54) rfl rfl Try.func12 (by kernel_rfl) rfl #[.string t604, .int .i64 x10_3] rfl (by (try simp only [List.map_toArray, List.map_cons, List.map_nil]); first | done | rfl | (simp only [List.length_drop, List.length_take]; rfl)) ?_; (with_reducible refine (impl_SetHas.calls k3 t604 x10_3 t610 _ A15.out).mono ?_); rintro e w33 ⟨rfl, hb⟩; refine ⟨_, rfl, ?_⟩; have n0_ := Aside0.mk (below_step (by repeat (first | (with_reducible first | exact HB.out | apply below_alloc | apply pw_below_drewN | apply below_drew1) | exact HB.out)) hb); clear HB; have HB := n0_; clear n0_; (try clear hb); (try clear hb2); (try clear hk); (try clear hi)))
                            go_roundg k3
                            case measure => have := HJ5.out; have := HJ10.out; have := HK3.out; omega
                            case rel => exact ⟨(wrap64 (x10_3 + 1)), (by first | rfl | (simp; done) | (simp [*]; done) | (simp [Int.tmod_eq_emod_of_nonneg]; done)), H', ⟨by have := HJ5.out; have := HJ10.out; have := HK3.out; omega⟩, ⟨by repeat (first | (with_reducible first | exact HB.out | apply below_alloc | apply pw_below_drewN | apply below_drew1) | exact HB.out)⟩⟩
                    · rw [if_neg c16] at H
                      have c16b0 : decide (0 < t603) = false := decide_eq_false c16
                      clear c16
                      by_cases c34 : t603 = 0
                      · rw [if_pos c34] at H
                        have c34b0 : (t603 == 0) = true := beq_iff_eq.mpr c34
                        have c34b1 : (t603 != 0) = false := bne_eq_false_iff_eq.mpr c34
                        clear c34
                        by_cases c35 : x10_3 = 0
                        · rw [if_pos c35] at H
                          have c35b0 : (x10_3 == 0) = true := beq_iff_eq.mpr c35
                          have c35b1 : (x10_3 != 0) = false := bne_eq_false_iff_eq.mpr c35
                          clear c35
                          replace H := Option.bind_eq_some_iff.mp H
                          obtain ⟨t612, A360, H⟩ := H
                          replace H : (if t612 = true then ((impl_SetSame.f k3 t602 (⟨#[40, 48, 41]⟩ : ByteArray)).bind fun t613 => (if (t610 != (!t613)) = true then (some false) else (laws_FnMakeTimes.l0 k3 t602 t603 t604 (wrap64 (x10_3 + 1))))) else (if (t610 != (!false)) = true then (some false) else (laws_FnMakeTimes.l0 k3 t602 t603 t604 (wrap64 (x10_3 + 1))))) = some r := H
                          have A36 := Aside0.mk A360
                          clear A360
                          by_cases c37 : t612 = true
                          · subst c37
                            have H1 : ((impl_SetSame.f k3 t602 (⟨#[40, 48, 41]⟩ : ByteArray)).bind fun t613 => (if (t610 != (!t613)) = true then (some false) else (laws_FnMakeTimes.l0 k3 t602 t603 t604 (wrap64 (x10_3 + 1))))) = some r := by rw [if_pos rfl] at H; exact H
                            clear H
                            have H := H1
                            clear H1
                            replace H := Option.bind_eq_some_iff.mp H
                            obtain ⟨t613, A380, H⟩ := H
                            replace H : (if (t610 != (!t613)) = true then (some false) else (laws_FnMakeTimes.l0 k3 t602 t603 t604 (wrap64 (x10_3 + 1)))) = some r := H
                            have A38 := Aside0.mk A380
                            clear A380
                            by_cases c39 : (t610 != (!t613)) = true
                            · rw [if_pos c39] at H
                              have c39b0 : (t610 != (!t613)) = true := c39
                              (try (have c39b1 : decide (t610 = (!t613)) = false := by simpa using c39))
                              have c39b2 : (t610 == (!t613)) = false := bne_t c39
                              (try (have c39b3 : ¬ (t610 = (!t613)) := by simpa using c39))
                              clear c39
                              obtain rfl := Option.some.inj H
                              go_wp2_with (first | ((with_reducible refine gate_callee (f := 12) rfl ?_); refine goesL_ (some 54) rfl rfl Try.func12 (by kernel_rfl) rfl #[.string t604, .int .i64 x10_3] rfl (by (try simp only [List.map_toArray, List.map_cons, List.map_nil]); first | done | rfl | (simp only [List.length_drop, List.length_take]; rfl)) ?_; (with_reducible refine (impl_SetHas.calls k3 t604 x10_3 t610 _ A15.out).mono ?_); rintro e w40 ⟨rfl, hb⟩; refine ⟨_, rfl, ?_⟩; have n0_ := Aside0.mk (below_step (by repeat (first | (with_reducible first | exact HB.out | apply below_alloc | apply pw_below_drewN | apply below_drew1) | exact HB.out)) hb); clear HB; have HB := n0_; clear n0_; (try clear hb); (try clear hb2); (try clear hk); (try clear hi)) | (go_at_call 30; (with_reducible refine (impl_SetEnds.calls k3 t602 true _ A36.out).mono ?_); rintro e w41 ⟨rfl, hb⟩; have n0_ := Aside0.mk (below_step (by repeat (first | (with_reducible first | exact HB.out | apply below_alloc | apply pw_below_drewN | apply below_drew1) | exact HB.out)) hb); clear HB; have HB := n0_; clear n0_; (try clear hb); (try clear hb2); (try clear hk); (try clear hi)) | (go_at_call 17; (with_reducible refine (impl_SetSame.calls k3 t602 (⟨#[40, 48, 41]⟩ : ByteArray) t613 _ A38.out).mono ?_); rintro e w42 ⟨rfl, hb⟩; have n0_ := Aside0.mk (below_step (by repeat (first | (with_reducible first | exact HB.out | apply below_alloc | apply pw_below_drewN | apply below_drew1) | exact HB.out)) hb); clear HB; have HB := n0_; clear n0_; (try clear hb); (try clear hb2); (try clear hk); (try clear hi)))
                              go_ret
                              exact ⟨by first | rfl | (simp [errW_none, errW_some] <;> rfl) | (simp [*, errW_none, errW_some] <;> rfl) | (simp [errW_none, errW_some]; exact ⟨rfl, rfl⟩), by repeat (first | (with_reducible first | exact HB.out | apply below_alloc | apply pw_below_drewN | apply below_drew1) | exact HB.out)⟩
                            · rw [if_neg c39] at H
                              have c39b0 : (t610 != (!t613)) = false := by simpa using c39
                              (try (have c39b1 : decide (t610 = (!t613)) = true := by simpa using c39))
                              have c39b2 : (t610 == (!t613)) = true := bne_f c39
                              clear c39
                              have H' := Aside0.mk H
                              clear H
                              go_wp2_with (first | ((with_reducible refine gate_callee (f := 12) rfl ?_); refine goesL_ (some 54) rfl rfl Try.func12 (by kernel_rfl) rfl #[.string t604, .int .i64 x10_3] rfl (by (try simp only [List.map_toArray, List.map_cons, List.map_nil]); first | done | rfl | (simp only [List.length_drop, List.length_take]; rfl)) ?_; (with_reducible refine (impl_SetHas.calls k3 t604 x10_3 t610 _ A15.out).mono ?_); rintro e w43 ⟨rfl, hb⟩; refine ⟨_, rfl, ?_⟩; have n0_ := Aside0.mk (below_step (by repeat (first | (with_reducible first | exact HB.out | apply below_alloc | apply pw_below_drewN | apply below_drew1) | exact HB.out)) hb); clear HB; have HB := n0_; clear n0_; (try clear hb); (try clear hb2); (try clear hk); (try clear hi)) | (go_at_call 30; (with_reducible refine (impl_SetEnds.calls k3 t602 true _ A36.out).mono ?_); rintro e w44 ⟨rfl, hb⟩; have n0_ := Aside0.mk (below_step (by repeat (first | (with_reducible first | exact HB.out | apply below_alloc | apply pw_below_drewN | apply below_drew1) | exact HB.out)) hb); clear HB; have HB := n0_; clear n0_; (try clear hb); (try clear hb2); (try clear hk); (try clear hi)) | (go_at_call 17; (with_reducible refine (impl_SetSame.calls k3 t602 (⟨#[40, 48, 41]⟩ : ByteArray) t613 _ A38.out).mono ?_); rintro e w45 ⟨rfl, hb⟩; have n0_ := Aside0.mk (below_step (by repeat (first | (with_reducible first | exact HB.out | apply below_alloc | apply pw_below_drewN | apply below_drew1) | exact HB.out)) hb); clear HB; have HB := n0_; clear n0_; (try clear hb); (try clear hb2); (try clear hk); (try clear hi)))
                              go_roundg k3
                              case measure => have := HJ5.out; have := HJ10.out; have := HK3.out; omega
                              case rel => exact ⟨(wrap64 (x10_3 + 1)), (by first | rfl | (simp; done) | (simp [*]; done) | (simp [Int.tmod_eq_emod_of_nonneg]; done)), H', ⟨by have := HJ5.out; have := HJ10.out; have := HK3.out; omega⟩, ⟨by repeat (first | (with_reducible first | exact HB.out | apply below_alloc | apply pw_below_drewN | apply below_drew1) | exact HB.out)⟩⟩
                          · replace c37 := Bool.eq_false_iff.mpr c37
                            subst c37
                            have H1 : (if (t610 != (!false)) = true then (some false) else (laws_FnMakeTimes.l0 k3 t602 t603 t604 (wrap64 (x10_3 + 1)))) = some r := by rw [if_neg (show ¬ (false = true) by decide)] at H; exact H
                            clear H
                            have H := H1
                            clear H1
                            by_cases c46 : (t610 != (!false)) = true
                            · rw [if_pos c46] at H
                              have c46b0 : (t610 != (!false)) = true := c46
                              (try (have c46b1 : decide (t610 = (!false)) = false := by simpa using c46))
                              have c46b2 : (t610 == (!false)) = false := bne_t c46; have c46b9 : (!t610) = true := bne_tt c46
                              (try (have c46b3 : ¬ (t610 = (!false)) := by simpa using c46))
                              clear c46
                              obtain rfl := Option.some.inj H
                              go_wp2_with (first | ((with_reducible refine gate_callee (f := 12) rfl ?_); refine goesL_ (some 54) rfl rfl Try.func12 (by kernel_rfl) rfl #[.string t604, .int .i64 x10_3] rfl (by (try simp only [List.map_toArray, List.map_cons, List.map_nil]); first | done | rfl | (simp only [List.length_drop, List.length_take]; rfl)) ?_; (with_reducible refine (impl_SetHas.calls k3 t604 x10_3 t610 _ A15.out).mono ?_); rintro e w47 ⟨rfl, hb⟩; refine ⟨_, rfl, ?_⟩; have n0_ := Aside0.mk (below_step (by repeat (first | (with_reducible first | exact HB.out | apply below_alloc | apply pw_below_drewN | apply below_drew1) | exact HB.out)) hb); clear HB; have HB := n0_; clear n0_; (try clear hb); (try clear hb2); (try clear hk); (try clear hi)) | (go_at_call 30; (with_reducible refine (impl_SetEnds.calls k3 t602 false _ A36.out).mono ?_); rintro e w48 ⟨rfl, hb⟩; have n0_ := Aside0.mk (below_step (by repeat (first | (with_reducible first | exact HB.out | apply below_alloc | apply pw_below_drewN | apply below_drew1) | exact HB.out)) hb); clear HB; have HB := n0_; clear n0_; (try clear hb); (try clear hb2); (try clear hk); (try clear hi)))
                              go_ret
                              exact ⟨by first | rfl | (simp [errW_none, errW_some] <;> rfl) | (simp [*, errW_none, errW_some] <;> rfl) | (simp [errW_none, errW_some]; exact ⟨rfl, rfl⟩), by repeat (first | (with_reducible first | exact HB.out | apply below_alloc | apply pw_below_drewN | apply below_drew1) | exact HB.out)⟩
                            · rw [if_neg c46] at H
                              have c46b0 : (t610 != (!false)) = false := by simpa using c46
                              (try (have c46b1 : decide (t610 = (!false)) = true := by simpa using c46))
                              have c46b2 : (t610 == (!false)) = true := bne_f c46; have c46b9 : (!t610) = false := bne_ft c46
                              clear c46
                              have H' := Aside0.mk H
                              clear H
                              go_wp2_with (first | ((with_reducible refine gate_callee (f := 12) rfl ?_); refine goesL_ (some 54) rfl rfl Try.func12 (by kernel_rfl) rfl #[.string t604, .int .i64 x10_3] rfl (by (try simp only [List.map_toArray, List.map_cons, List.map_nil]); first | done | rfl | (simp only [List.length_drop, List.length_take]; rfl)) ?_; (with_reducible refine (impl_SetHas.calls k3 t604 x10_3 t610 _ A15.out).mono ?_); rintro e w49 ⟨rfl, hb⟩; refine ⟨_, rfl, ?_⟩; have n0_ := Aside0.mk (below_step (by repeat (first | (with_reducible first | exact HB.out | apply below_alloc | apply pw_below_drewN | apply below_drew1) | exact HB.out)) hb); clear HB; have HB := n0_; clear n0_; (try clear hb); (try clear hb2); (try clear hk); (try clear hi)) | (go_at_call 30; (with_reducible refine (impl_SetEnds.calls k3 t602 false _ A36.out).mono ?_); rintro e w50 ⟨rfl, hb⟩; have n0_ := Aside0.mk (below_step (by repeat (first | (with_reducible first | exact HB.out | apply below_alloc | apply pw_below_drewN | apply below_drew1) | exact HB.out)) hb); clear HB; have HB := n0_; clear n0_; (try clear hb); (try clear hb2); (try clear hk); (try clear hi)))
                              go_roundg k3
                              case measure => have := HJ5.out; have := HJ10.out; have := HK3.out; omega
                              case rel => exact ⟨(wrap64 (x10_3 + 1)), (by first | rfl | (simp; done) | (simp [*]; done) | (simp [Int.tmod_eq_emod_of_nonneg]; done)), H', ⟨by have := HJ5.out; have := HJ10.out; have := HK3.out; omega⟩, ⟨by repeat (first | (with_reducible first | exact HB.out | apply below_alloc | apply pw_below_drewN | apply below_drew1) | exact HB.out)⟩⟩
                        · rw [if_neg c35] at H
                          have c35b0 : (x10_3 == 0) = false := beq_eq_false_iff_ne.mpr c35
                          have c35b1 : (x10_3 != 0) = true := bne_iff_ne.mpr c35
                          by_cases c51 : (t610 != false) = true
                          · rw [if_pos c51] at H
                            have c51b0 : (t610 != false) = true := c51
                            (try (have c51b1 : decide (t610 = false) = false := by simpa using c51))
                            (try (have c51b2 : (t610 == false) = false := by simpa using c51))
                            (try (have c51b3 : ¬ (t610 = false) := by simpa using c51))
                            clear c51
                            obtain rfl := Option.some.inj H
                            go_wp2_with (first | ((with_reducible refine gate_callee (f := 12) rfl ?_); refine goesL_ (some 54) rfl rfl Try.func12 (by kernel_rfl) rfl #[.string t604, .int .i64 x10_3] rfl (by (try simp only [List.map_toArray, List.map_cons, List.map_nil]); first | done | rfl | (simp only [List.length_drop, List.length_take]; rfl)) ?_; (with_reducible refine (impl_SetHas.calls k3 t604 x10_3 t610 _ A15.out).mono ?_); rintro e w52 ⟨rfl, hb⟩; refine ⟨_, rfl, ?_⟩; have n0_ := Aside0.mk (below_step (by repeat (first | (with_reducible first | exact HB.out | apply below_alloc | apply pw_below_drewN | apply below_drew1) | exact HB.out)) hb); clear HB; have HB := n0_; clear n0_; (try clear hb); (try clear hb2); (try clear hk); (try clear hi)))
                            go_ret
                            exact ⟨by first | rfl | (simp [errW_none, errW_some] <;> rfl) | (simp [*, errW_none, errW_some] <;> rfl) | (simp [errW_none, errW_some]; exact ⟨rfl, rfl⟩), by repeat (first | (with_reducible first | exact HB.out | apply below_alloc | apply pw_below_drewN | apply below_drew1) | exact HB.out)⟩
                          · rw [if_neg c51] at H
                            have c51b0 : (t610 != false) = false := by simpa using c51
                            (try (have c51b1 : decide (t610 = false) = true := by simpa using c51))
                            (try (have c51b2 : (t610 == false) = true := by simpa using c51))
                            clear c51
                            have H' := Aside0.mk H
                            clear H
                            go_wp2_with (first | ((with_reducible refine gate_callee (f := 12) rfl ?_); refine goesL_ (some 54) rfl rfl Try.func12 (by kernel_rfl) rfl #[.string t604, .int .i64 x10_3] rfl (by (try simp only [List.map_toArray, List.map_cons, List.map_nil]); first | done | rfl | (simp only [List.length_drop, List.length_take]; rfl)) ?_; (with_reducible refine (impl_SetHas.calls k3 t604 x10_3 t610 _ A15.out).mono ?_); rintro e w53 ⟨rfl, hb⟩; refine ⟨_, rfl, ?_⟩; have n0_ := Aside0.mk (below_step (by repeat (first | (with_reducible first | exact HB.out | apply below_alloc | apply pw_below_drewN | apply below_drew1) | exact HB.out)) hb); clear HB; have HB := n0_; clear n0_; (try clear hb); (try clear hb2); (try clear hk); (try clear hi)))
                            go_roundg k3
                            case measure => have := HJ5.out; have := HJ10.out; have := HK3.out; omega
                            case rel => exact ⟨(wrap64 (x10_3 + 1)), (by first | rfl | (simp; done) | (simp [*]; done) | (simp [Int.tmod_eq_emod_of_nonneg]; done)), H', ⟨by have := HJ5.out; have := HJ10.out; have := HK3.out; omega⟩, ⟨by repeat (first | (with_reducible first | exact HB.out | apply below_alloc | apply pw_below_drewN | apply below_drew1) | exact HB.out)⟩⟩
                      · rw [if_neg c34] at H
                        have c34b0 : (t603 == 0) = false := beq_eq_false_iff_ne.mpr c34
                        have c34b1 : (t603 != 0) = true := bne_iff_ne.mpr c34
                        by_cases c54 : (t610 != false) = true
                        · rw [if_pos c54] at H
                          have c54b0 : (t610 != false) = true := c54
                          (try (have c54b1 : decide (t610 = false) = false := by simpa using c54))
                          (try (have c54b2 : (t610 == false) = false := by simpa using c54))
                          (try (have c54b3 : ¬ (t610 = false) := by simpa using c54))
                          clear c54
                          obtain rfl := Option.some.inj H
                          go_wp2_with (first | ((with_reducible refine gate_callee (f := 12) rfl ?_); refine goesL_ (some 54) rfl rfl Try.func12 (by kernel_rfl) rfl #[.string t604, .int .i64 x10_3] rfl (by (try simp only [List.map_toArray, List.map_cons, List.map_nil]); first | done | rfl | (simp only [List.length_drop, List.length_take]; rfl)) ?_; (with_reducible refine (impl_SetHas.calls k3 t604 x10_3 t610 _ A15.out).mono ?_); rintro e w55 ⟨rfl, hb⟩; refine ⟨_, rfl, ?_⟩; have n0_ := Aside0.mk (below_step (by repeat (first | (with_reducible first | exact HB.out | apply below_alloc | apply pw_below_drewN | apply below_drew1) | exact HB.out)) hb); clear HB; have HB := n0_; clear n0_; (try clear hb); (try clear hb2); (try clear hk); (try clear hi)))
                          go_ret
                          exact ⟨by first | rfl | (simp [errW_none, errW_some] <;> rfl) | (simp [*, errW_none, errW_some] <;> rfl) | (simp [errW_none, errW_some]; exact ⟨rfl, rfl⟩), by repeat (first | (with_reducible first | exact HB.out | apply below_alloc | apply pw_below_drewN | apply below_drew1) | exact HB.out)⟩
                        · rw [if_neg c54] at H
                          have c54b0 : (t610 != false) = false := by simpa using c54
                          (try (have c54b1 : decide (t610 = false) = true := by simpa using c54))
                          (try (have c54b2 : (t610 == false) = true := by simpa using c54))
                          clear c54
                          have H' := Aside0.mk H
                          clear H
                          go_wp2_with (first | ((with_reducible refine gate_callee (f := 12) rfl ?_); refine goesL_ (some 54) rfl rfl Try.func12 (by kernel_rfl) rfl #[.string t604, .int .i64 x10_3] rfl (by (try simp only [List.map_toArray, List.map_cons, List.map_nil]); first | done | rfl | (simp only [List.length_drop, List.length_take]; rfl)) ?_; (with_reducible refine (impl_SetHas.calls k3 t604 x10_3 t610 _ A15.out).mono ?_); rintro e w56 ⟨rfl, hb⟩; refine ⟨_, rfl, ?_⟩; have n0_ := Aside0.mk (below_step (by repeat (first | (with_reducible first | exact HB.out | apply below_alloc | apply pw_below_drewN | apply below_drew1) | exact HB.out)) hb); clear HB; have HB := n0_; clear n0_; (try clear hb); (try clear hb2); (try clear hk); (try clear hi)))
                          go_roundg k3
                          case measure => have := HJ5.out; have := HJ10.out; have := HK3.out; omega
                          case rel => exact ⟨(wrap64 (x10_3 + 1)), (by first | rfl | (simp; done) | (simp [*]; done) | (simp [Int.tmod_eq_emod_of_nonneg]; done)), H', ⟨by have := HJ5.out; have := HJ10.out; have := HK3.out; omega⟩, ⟨by repeat (first | (with_reducible first | exact HB.out | apply below_alloc | apply pw_below_drewN | apply below_drew1) | exact HB.out)⟩⟩
                  · rw [if_neg c14] at H
                    have c14b0 : decide (x10_3 ≤ 150) = false := decide_eq_false c14
                    clear c14
                    replace H := Option.bind_eq_some_iff.mp H
                    obtain ⟨⟨t608, t609⟩, A570, H⟩ := H
                    replace H : (if t609 = true then (some (t608.toList == t604.toList)) else (some false)) = some r := H
                    have A57 := Aside0.mk A570
                    clear A570
                    by_cases c58 : t609 = true
                    · subst c58
                      have H1 : (some (t608.toList == t604.toList)) = some r := by rw [if_pos rfl] at H; exact H
                      clear H
                      have H := H1
                      clear H1
                      obtain rfl := Option.some.inj H
                      go_wp2_with (first | ((with_reducible refine gate_callee (f := 21) rfl ?_); refine goesL_ (some 90) rfl rfl Try.func21 (by kernel_rfl) rfl #[.string t604] rfl (by (try simp only [List.map_toArray, List.map_cons, List.map_nil]); first | done | rfl | (simp only [List.length_drop, List.length_take]; rfl)) ?_; (with_reducible refine (impl_SetTidy.calls k3 t604 t608 true _ A57.out).mono ?_); rintro e w59 ⟨rfl, hb⟩; refine ⟨_, rfl, ?_⟩; have n0_ := Aside0.mk (below_step (by repeat (first | (with_reducible first | exact HB.out | apply below_alloc | apply pw_below_drewN | apply below_drew1) | exact HB.out)) hb); clear HB; have HB := n0_; clear n0_; (try clear hb); (try clear hb2); (try clear hk); (try clear hi)))
                      go_ret
                      exact ⟨by first | rfl | (simp [errW_none, errW_some] <;> rfl) | (simp [*, errW_none, errW_some] <;> rfl) | (simp [errW_none, errW_some]; exact ⟨rfl, rfl⟩), by repeat (first | (with_reducible first | exact HB.out | apply below_alloc | apply pw_below_drewN | apply below_drew1) | exact HB.out)⟩
                    · replace c58 := Bool.eq_false_iff.mpr c58
                      subst c58
                      have H1 : (some false) = some r := by rw [if_neg (show ¬ (false = true) by decide)] at H; exact H
                      clear H
                      have H := H1
                      clear H1
                      obtain rfl := Option.some.inj H
                      go_wp2_with (first | ((with_reducible refine gate_callee (f := 21) rfl ?_); refine goesL_ (some 90) rfl rfl Try.func21 (by kernel_rfl) rfl #[.string t604] rfl (by (try simp only [List.map_toArray, List.map_cons, List.map_nil]); first | done | rfl | (simp only [List.length_drop, List.length_take]; rfl)) ?_; (with_reducible refine (impl_SetTidy.calls k3 t604 t608 false _ A57.out).mono ?_); rintro e w60 ⟨rfl, hb⟩; refine ⟨_, rfl, ?_⟩; have n0_ := Aside0.mk (below_step (by repeat (first | (with_reducible first | exact HB.out | apply below_alloc | apply pw_below_drewN | apply below_drew1) | exact HB.out)) hb); clear HB; have HB := n0_; clear n0_; (try clear hb); (try clear hb2); (try clear hk); (try clear hi)))
                      go_ret
                      exact ⟨by first | rfl | (simp [errW_none, errW_some] <;> rfl) | (simp [*, errW_none, errW_some] <;> rfl) | (simp [errW_none, errW_some]; exact ⟨rfl, rfl⟩), by repeat (first | (with_reducible first | exact HB.out | apply below_alloc | apply pw_below_drewN | apply below_drew1) | exact HB.out)⟩

/-- THE ONE PURE STATEMENT of laws_FnMakeTimes: yours. -/
noncomputable def laws_FnMakeTimes.Pure : Prop := ∀ (l0 : List Int), l0.length ≤ maxLen → l0.length * 1 ≤ 140737488351232 → (∀ x ∈ l0, (Lit.int .u8 x).wf = true) → ∃ k, laws_FnMakeTimes.f k l0 = some true
theorem laws_FnMakeTimes.walk (P : laws_FnMakeTimes.Pure) (a0 : Option Addr) (len0 cap0 : Nat) (z0 : List Int) (w : World) (w0 : (a0 = none ∧ len0 = 0 ∧ cap0 = 0 ∧ z0 = []) ∨ ∃ x, a0 = some x ∧ len0 ≤ cap0 ∧ cap0 ≤ maxLen ∧ z0.length = cap0 ∧ (∀ i, i < z0.length → w.cell? (x.add i) = some (.int .u8 (z0.getD i 0))) ∧ ∀ n ∈ z0, (Lit.int .u8 n).wf = true) (y0 : len0 * 1 ≤ 140737488351232) :
    Calls Try.prog 8 #[.slice a0 len0 cap0] w fun e w' => e = .returned (.bool true) ∧ Below w.heap.size w w' := by
  obtain ⟨l0, rfl, hr0, hm0, hw0, hc0⟩ := ReadsInt.ofRowC w0
  obtain ⟨k, h⟩ := P l0 hm0 y0 hw0
  refine (laws_FnMakeTimes.calls k _ _ l0 true w (Kd.C_of_reads (d := (0 : Int)) (h1 := fun _ => rfl) hr0) hc0 h).mono ?_
  rintro e w' ⟨rfl, hd⟩
  exact ⟨rfl, hd⟩

end Go.Proofs.Ytflfabdfkfigcaa.P

-- spec.MakeTimes marks multiples.
namespace Go.Proofs.Ytflfabdfkfigcaa.P
open Go.RowKit Go.Proofs.YtflfabdfkfigcaaW.PrintWords Go.Proofs.YtflfabdfkfigcaaW.PrintLast Go.Proofs.YtflfabdfkfigcaaW.PrintMore
set_option linter.unusedVariables false
set_option linter.unusedSimpArgs false

/-- Whether some sign from i on tells a number. -/
noncomputable def anyFrom (l : List Bool) (i : Nat) : Bool := dec (∃ j, i ≤ j ∧ j < l.length ∧ l.getD j false = true)
theorem anyFrom_end (l : List Bool) : anyFrom l l.length = false := dec_false fun ⟨j, a, b, _⟩ => by omega
theorem anyFrom_step {l : List Bool} {i : Nat} (hi : i < l.length) : anyFrom l i = (l.getD i false || anyFrom l (i + 1)) := by
  unfold anyFrom
  cases h : l.getD i false with
  | true => rw [dec_true ⟨i, Nat.le_refl _, hi, h⟩]; rfl
  | false =>
    rw [Bool.false_or]
    apply dec_congr
    constructor
    · rintro ⟨j, a, b, c⟩
      rcases Nat.eq_or_lt_of_le a with rfl | a
      · rw [h] at c; cases c
      · exact ⟨j, a, b, c⟩
    · rintro ⟨j, a, b, c⟩; exact ⟨j, by omega, b, c⟩
theorem anyFrom_has {t r : List Bool} (hr : 0 < r.length) : (anyFrom r 0 || anyFrom t 0) = dec (∃ m, hasB t r m = true) := by
  rw [Bool.eq_iff_iff, Bool.or_eq_true]
  unfold anyFrom
  rw [dec_iff, dec_iff, dec_iff]
  constructor
  · rintro (⟨j, _, b, c⟩ | ⟨j, _, b, c⟩)
    · exact ⟨t.length + j, by rw [hasB_ring, Nat.mod_eq_of_lt b]; exact c⟩
    · exact ⟨j, by rw [hasB_tail b]; exact c⟩
  · rintro ⟨m, h⟩
    rcases Nat.lt_or_ge m t.length with h1 | h1
    · rw [hasB_tail h1] at h; exact .inr ⟨m, Nat.zero_le _, h1, h⟩
    · rw [hasB_ring' h1] at h; exact .inl ⟨_, Nat.zero_le _, Nat.mod_lt _ hr, h⟩
theorem ends_l0 (t r : List Bool) (hl : r.length ≤ 1000000) : ∀ (e i : Nat), i ≤ r.length → r.length - i = e → Ev (fun k => spec_l1Ends.l0 k i t r) (!anyFrom r i) := by
  intro e
  induction e with
  | zero =>
    intro i hi he
    have e : i = r.length := by omega
    subst e
    rw [anyFrom_end]
    refine Ev.step (f := fun k => some true) (fun k => ?_) (Ev.now _)
    simp only [spec_l1Ends.l0]; rw [if_neg (by omega)]
  | succ e ih =>
    intro i hi he
    have hih := ih (i + 1) (by omega) (by omega)
    rw [anyFrom_step (by omega)]
    cases h : r.getD i false with
    | true =>
      refine Ev.step (f := fun k => some false) (fun k => ?_) (Ev.now _)
      simp only [spec_l1Ends.l0]; rw [if_pos (by omega), if_pos (by omega), rdOf_nat, h, if_pos (by trivial)]
    | false =>
      rw [Bool.false_or]
      refine Ev.step (fun k => ?_) hih
      simp only [spec_l1Ends.l0]; rw [if_pos (by omega), if_pos (by omega), rdOf_nat, h, if_neg (by decide), wsucc (by omega)]
theorem ends_f (t r : List Bool) (hl : r.length ≤ 1000000) : Ev (fun k => spec_l1Ends.f k t r) (!anyFrom r 0) := ends_l0 t r hl _ 0 (Nat.zero_le _) rfl
theorem one_has (v : Bool) : hasB [v] [false] = fun n => decide (n = 0) && v := by
  funext n
  rcases Nat.eq_zero_or_pos n with rfl | h
  · rw [hasB_tail (Nat.zero_lt_one)]; rfl
  · rw [hasB_ring' (show [v].length ≤ n from h), decide_eq_false (by omega)]; simp [Nat.mod_one]
theorem smakeTimes_l0 (a b : List Bool) (ha : a.length ≤ 60) : ∀ (d i : Nat) (v : Bool), i ≤ a.length → a.length - i = d →
    Ev (fun n => spec_MakeTimes.l0 n v i a b) (txt (cn (fun n => decide (n = 0) && (v || anyFrom a i)))) := by
  intro d
  induction d with
  | zero =>
    intro i v h1 h2
    have e : i = a.length := by omega
    subst e
    rw [anyFrom_end, Bool.or_false, ← one_has]
    refine Ev.step (f := fun n => (spec_l1Done.f n [v] [false]).bind fun bt400 => (some (bt400.1, bt400.2))) (fun n => ?_) (Ev.bind (done_f [v] [false] (by simp) (by simp)) (Ev.now _))
    simp only [spec_MakeTimes.l0]; rw [if_neg (by omega)]
  | succ d ih =>
    intro i v h1 h2
    cases v with
    | true =>
      have := ih (i + 1) true (by omega) (by omega)
      rw [Bool.true_or] at this ⊢
      refine Ev.step (fun n => ?_) this
      simp only [spec_MakeTimes.l0]; rw [if_pos (by omega), if_pos (by trivial), wsucc (by omega)]
    | false =>
      have := ih (i + 1) (a.getD i false) (by omega) (by omega)
      rw [Bool.false_or, anyFrom_step (by omega)]
      refine Ev.step (fun n => ?_) this
      simp only [spec_MakeTimes.l0]; rw [if_pos (by omega), if_neg (by decide), if_pos (by omega), rdOf_nat, wsucc (by omega)]
theorem smakeTimes_l1 (a b : List Bool) (hb : b ≠ []) (ha : a.length ≤ 60) (hbl : b.length ≤ 60) (k : Nat) (h1k : 1 ≤ k) (hk : k ≤ 20) : ∀ (d x : Nat), x ≤ k * a.length + k * b.length → k * a.length + k * b.length - x = d →
    Ev (fun n => spec_MakeTimes.l1 n k (mkT (tmq (hasB a b) k) x) x a b) (txt (cn (tmq (hasB a b) k))) := by
  have hpos := List.length_pos_iff.2 hb
  have hper := tmq_per (hasB_per a b) h1k
  have hp2 : 0 < k * b.length := Nat.mul_pos h1k hpos
  have hm1 : k * a.length ≤ 20 * 60 := Nat.mul_le_mul hk ha
  have hm2 : k * b.length ≤ 20 * 60 := Nat.mul_le_mul hk hbl
  have hadd : k * (a.length + b.length) = k * a.length + k * b.length := Nat.mul_add _ _ _
  have e1 : wrap64 ((k : Int) * ((a.length + b.length : Nat) : Int)) = ((k * a.length + k * b.length : Nat) : Int) := by rw [wmul (by rw [hadd]; omega), hadd]
  have e2 : wrap64 ((k : Int) * (a.length : Int)) = ((k * a.length : Nat) : Int) := wmul (by omega)
  have hv : ∀ x, tmq (hasB a b) k x = (decide (x % k = 0) && hasB a b (x / k)) := fun x => by rw [tmq_pos _ h1k]
  generalize k * a.length = X at *
  generalize k * b.length = Y at *
  intro d
  induction d with
  | zero =>
    intro x h1 h2
    have e : x = X + Y := by clear e1 e2; omega
    subst e
    refine Ev.step (f := fun n => (spec_l2Fill.f n (mkT (tmq (hasB a b) k) (X + Y)) (X : Int)).bind fun bt309 => (some (bt309.1, bt309.2))) (fun n => ?_) (Ev.bind (fill_f hp2 hper (by clear e1 e2; omega)) (Ev.now _))
    simp only [spec_MakeTimes.l1]
    rw [wadd (by clear e1 e2; omega), e1, e2, if_neg (Int.lt_irrefl _)]
  | succ d ih =>
    intro x h1 h2
    have c1 : (x : Int) < ((X + Y : Nat) : Int) := by clear e1 e2; omega
    have c2 : a.length + b.length ≤ 4611686018427387904 := by clear e1 e2; omega
    have c3 : x ≤ 4611686018427387904 := by clear e1 e2; omega
    have c4 : x ≤ 3000 := by clear e1 e2; omega
    have c5 : ¬ ((k : Int) = 0) := by clear e1 e2; omega
    have c6 : (mkT (tmq (hasB a b) k) x).length < 140737488355328 := by rw [mkT_length]; clear e1 e2; omega
    have hdv : x / k ≤ x := Nat.div_le_self _ _
    have hh : spec_l1Has.f a b ((x / k : Nat) : Int) = some (hasB a b (x / k)) := shas_f a b hb (by clear e1 e2; omega) _ (by clear e1 e2; generalize x / k = q at *; omega)
    have hw : wrap64 (((x / k : Nat) : Int)) = ((x / k : Nat) : Int) := by clear e1 e2; generalize x / k = q at *; exact w64 (by omega) (by omega)
    have h3 := ih (x + 1) (by clear e1 e2 hw; omega) (by clear e1 e2 hw; omega)
    rw [mkT_succ, hv x] at h3
    refine Ev.step (fun n => ?_) h3
    simp only [spec_MakeTimes.l1]
    rw [wadd c2, e1, if_pos c1, if_neg c5, tmod_nat, tdiv_nat, hw, hh]
    simp only [Option.bind_some]
    by_cases hz : x % k = 0
    · rw [hz, if_pos (by rfl), if_pos c6, decide_eq_true rfl, Bool.true_and, wsucc c3]
    · have hz2 : ¬ (((x % k : Nat) : Int) = 0) := fun h => hz (Int.natCast_eq_zero.1 h)
      rw [if_neg hz2, if_pos c6, decide_eq_false hz, Bool.false_and, wsucc c3]
theorem smakeTimes_f (s : ByteArray) (hs : s.size ≤ 70368744177664) (k : Int) : Ev (fun n => spec_MakeTimes.f n s k) (tmr (chrs s) k) := by
  have out : ∀ a b, Ev (fun n => spec_MakeTimes.j0 n k true a b) ((⟨#[]⟩ : ByteArray), false) := fun a b => by
    refine Ev.step (f := fun n => some ((⟨#[]⟩ : ByteArray), false)) (fun n => ?_) (Ev.now _)
    simp only [spec_MakeTimes.j0]; rfl
  refine Ev.congr (fun n => rfl) (Ev.bind (read_f s hs) ?_)
  unfold parsed
  cases h : parse (chrs s) with
  | none =>
    have e : tmr (chrs s) k = (⟨#[]⟩, false) := by unfold tmr; rw [h]; rfl
    rw [e]; simp only [Bool.false_eq_true, if_false]; exact out _ _
  | some ab =>
    have hb := parse_some (a := ab.1) (b := ab.2) h
    simp only [if_true, l6in_f, Option.bind_some]
    by_cases hk : 0 ≤ k ∧ k ≤ 20
    · obtain ⟨k, rfl⟩ := Int.eq_ofNat_of_zero_le (show 0 ≤ k by omega)
      have e : tmr (chrs s) k = txt (cn (tmq (hasB ab.1 ab.2) k)) := by
        unfold tmr; rw [h, setf_some (a := ab.1) (b := ab.2) h, decide_eq_true hk, Int.toNat_natCast]; rfl
      rw [e]
      simp only [decide_eq_true hk, Bool.not_true]
      rcases Nat.eq_zero_or_pos k with rfl | h1
      · have h2 := smakeTimes_l0 ab.1 ab.2 hb.1 _ 0 (anyFrom ab.2 0) (Nat.zero_le _) rfl
        rw [anyFrom_has (List.length_pos_iff.2 hb.2.2), ← tmq_zero] at h2
        refine Ev.step (f := fun n => (spec_l1Ends.f n ab.1 ab.2).bind fun t392 => (spec_MakeTimes.l0 n (!t392) 0 ab.1 ab.2)) (fun n => ?_) (Ev.bind (ends_f ab.1 ab.2 (by omega)) (by rw [Bool.not_not]; exact h2))
        simp only [spec_MakeTimes.j0]
        rw [if_neg (by decide), if_pos (by rfl)]
      · refine Ev.step (fun n => ?_) (smakeTimes_l1 ab.1 ab.2 hb.2.2 hb.1 hb.2.1 k h1 (by omega) _ 0 (Nat.zero_le _) rfl)
        simp only [spec_MakeTimes.j0]
        rw [if_neg (by decide), if_neg (by omega)]; rfl
    · have e : tmr (chrs s) k = (⟨#[]⟩, false) := by unfold tmr; rw [decide_eq_false hk, Bool.and_false]; rfl
      rw [e]; simp only [decide_eq_false hk, Bool.not_false]; exact out _ _
end Go.Proofs.Ytflfabdfkfigcaa.P

-- impl.SetEnds asks the ring.
namespace Go.Proofs.Ytflfabdfkfigcaa.P
open Go.RowKit Go.Proofs.YtflfabdfkfigcaaW.PrintWords Go.Proofs.YtflfabdfkfigcaaW.PrintLast Go.Proofs.YtflfabdfkfigcaaW.PrintMore
set_option linter.unusedVariables false
set_option linter.unusedSimpArgs false

theorem zero_parse : parse (chrs (⟨#[40, 48, 41]⟩ : ByteArray)) = some ([], [false]) := by rfl
theorem zero_has : hasB [] [false] = fun _ => false := by
  funext n
  rw [hasB_ring' (Nat.zero_le _)]
  simp [Nat.mod_one]
theorem index_l0 (l : List Bool) (hl : l.length ≤ 1000000) : ∀ (d i : Nat), i ≤ l.length → l.length - i = d → ∃ v : Int, (v ≥ 0 ↔ anyFrom l i = true) ∧ Ev (fun k => slices_Index_bool_bool.l0 k l true l.length i) v := by
  intro d
  induction d with
  | zero =>
    intro i hi hd
    have e : i = l.length := by omega
    subst e
    refine ⟨-1, by rw [anyFrom_end]; simp, ?_⟩
    refine Ev.step (f := fun k => some (-1)) (fun k => ?_) (Ev.now _)
    simp only [slices_Index_bool_bool.l0]; rw [if_neg (by omega)]
  | succ d ih =>
    intro i hi hd
    rw [anyFrom_step (by omega)]
    cases h : l.getD i false with
    | true =>
      refine ⟨i, by simp, ?_⟩
      refine Ev.step (f := fun k => some (i : Int)) (fun k => ?_) (Ev.now _)
      simp only [slices_Index_bool_bool.l0]
      rw [if_pos (by omega), if_pos (by omega), if_pos (by omega), rdOf_nat, h, if_pos (by rfl)]
    | false =>
      obtain ⟨v, h1, h2⟩ := ih (i + 1) (by omega) (by omega)
      refine ⟨v, by rw [Bool.false_or]; exact h1, ?_⟩
      refine Ev.step (fun k => ?_) h2
      simp only [slices_Index_bool_bool.l0]
      rw [if_pos (by omega), if_pos (by omega), if_pos (by omega), rdOf_nat, h, if_neg (by decide), wsucc (by omega)]
theorem isetEnds_f (s : ByteArray) (hs : s.size ≤ 70368744177664) {a b : List Bool} (hp : parse (chrs s) = some (a, b)) : Ev (fun k => impl_SetEnds.f k s) (!anyFrom b 0) := by
  obtain ⟨x, y, hev, hxy⟩ := setOf_f s hs
  obtain ⟨rfl, rfl⟩ := hxy a b hp
  have hb := parse_some hp
  obtain ⟨v, h1, h2⟩ := index_l0 y (by omega) _ 0 (Nat.zero_le _) rfl
  refine Ev.congr (fun k => rfl) (Ev.bind hev ?_)
  simp only [hp, Option.isSome_some, if_true]
  have h3 : Ev (fun k => slices_Contains_bool_bool.f k y true) (anyFrom y 0) := by
    have e : anyFrom y 0 = decide (v ≥ 0) := by
      rw [Bool.eq_iff_iff, decide_eq_true_iff]; exact h1.symm
    rw [e]
    exact Ev.congr (fun k => rfl) (Ev.bind (f := fun k t => some (decide (t ≥ 0))) h2 (Ev.now _))
  exact Ev.bind h3 (Ev.now _)
end Go.Proofs.Ytflfabdfkfigcaa.P

-- For every code the law FnMakeTimes holds.
namespace Go.Proofs.Ytflfabdfkfigcaa.P
open Go.RowKit Go.Proofs.YtflfabdfkfigcaaW.PrintWords Go.Proofs.YtflfabdfkfigcaaW.PrintLast Go.Proofs.YtflfabdfkfigcaaW.PrintMore
set_option linter.unusedVariables false
set_option linter.unusedSimpArgs false

theorem drawTimes_f (l : List Int) (h : ∀ x ∈ l, (Lit.int .u8 x).wf = true) : ∃ (s : ByteArray) (n0 : Int), Few s ∧ -2 ≤ n0 ∧ n0 ≤ 2000 ∧ Ev (fun k => spec_DrawMakeTimes.f k l) (s, n0) := by
  obtain ⟨s, q, hf, hq, K0, h0⟩ := set91_f (code_of h) 0 (by omega)
  dsimp only at h0
  have g0 : ∀ k, K0 ≤ k → spec_l91Set.f k (l.take 2000) 0 = some (s, (q : Int)) := h0
  obtain ⟨v0, p0, a0, b0, c0, K1, h1⟩ := num91_f (code_of h) q 20 (by omega) (by omega)
  dsimp only at h1
  have g1 : ∀ k, K1 ≤ k → spec_l91Number.f k (l.take 2000) (q : Int) 20 = some (v0, (p0 : Int)) := h1
  refine ⟨s, v0, hf, by omega, by omega, K0 + K1, fun k hk => ?_⟩
  dsimp only
  unfold spec_DrawMakeTimes.f
  rw [open_f, Option.bind_some, g0 k (by omega), Option.bind_some, g1 k (by omega), Option.bind_some]
theorem lawMakeTimes_l0 (s x0 : ByteArray) (hs : s.size ≤ 70368744177664) (hx : x0.size ≤ 122) (a : Nat) (ha : a ≤ 20) {ca cb : List Bool} (hp : parse (chrs s) = some (ca, cb)) (hq : setf (chrs x0) = tmq (setf (chrs s)) a) (ht : tdy (chrs x0) = (x0, true)) : ∀ (d n : Nat), n ≤ 151 → 151 - n = d →
    Ev (fun k => laws_FnMakeTimes.l0 k s a x0 n) true := by
  intro d
  induction d with
  | zero =>
    intro n hn hd
    have e : n = 151 := by omega
    subst e
    obtain ⟨K, hK⟩ := tdy_again x0 hx ht
    dsimp only at hK
    refine ⟨K + 1, fun k hk => ?_⟩
    obtain ⟨k, rfl, hk2⟩ := down1 hk
    simp only [laws_FnMakeTimes.l0]
    rw [if_neg (by omega), hK k hk2, Option.bind_some, if_pos (by trivial), BEq.rfl]
  | succ d ih =>
    intro n hn hd
    obtain ⟨K3, h3⟩ := ih (n + 1) (by omega) (by omega)
    dsimp only at h3
    obtain ⟨K1, h1⟩ := isetHas_f x0 (by omega) n (by omega)
    dsimp only at h1
    rw [hq] at h1
    rcases Nat.eq_zero_or_pos a with rfl | hpos
    · rw [tmq_zero] at h1
      dsimp only at h1
      rcases Nat.eq_zero_or_pos n with rfl | hn0
      · rw [setf_some hp] at h1
        obtain ⟨K2, h2⟩ := isetEnds_f s hs hp
        dsimp only at h2
        have hz := zero_parse
        obtain ⟨K4, h4⟩ := isetSame_f s (⟨#[40, 48, 41]⟩ : ByteArray) hs (by show (3 : Nat) ≤ _; omega)
        dsimp only at h4
        cases he : anyFrom cb 0 with
        | true =>
          have hv : dec (∃ m, hasB ca cb m = true) = true := by rw [← anyFrom_has (List.length_pos_iff.2 (parse_some hp).2.2), he]; rfl
          rw [hv] at h1
          rw [he] at h2
          refine ⟨K1 + K2 + K3 + 1, fun k hk => ?_⟩
          obtain ⟨k, rfl, hk2⟩ := down1 hk
          simp only [laws_FnMakeTimes.l0]
          rw [if_pos (by omega), h1 k (by omega), Option.bind_some, if_neg (by omega), if_pos (by trivial), if_pos (by trivial), h2 k (by omega), Option.bind_some, if_neg (by decide), if_neg (by decide), wsucc (by omega)]
          exact h3 k (by omega)
        | false =>
          have hsm : sameS (chrs s) (chrs (⟨#[40, 48, 41]⟩ : ByteArray)) = !dec (∃ m, hasB ca cb m = true) := by
            have := sameS_some hp hz
            cases hx : dec (∃ m, hasB ca cb m = true) with
            | true =>
              obtain ⟨m, hm⟩ := dec_iff.1 hx
              cases hy : sameS (chrs s) (chrs (⟨#[40, 48, 41]⟩ : ByteArray)) with
              | false => rfl
              | true => rw [this.1 hy, zero_has] at hm; cases hm
            | false =>
              rw [Bool.not_false, this, zero_has]
              funext m
              cases hy : hasB ca cb m with
              | false => rfl
              | true => rw [dec_true ⟨m, hy⟩] at hx; cases hx
          rw [hsm] at h4
          rw [he] at h2
          refine ⟨K1 + K2 + K3 + K4 + 1, fun k hk => ?_⟩
          obtain ⟨k, rfl, hk2⟩ := down1 hk
          simp only [laws_FnMakeTimes.l0]
          rw [if_pos (by omega), h1 k (by omega), Option.bind_some, if_neg (by omega), if_pos (by trivial), if_pos (by trivial), h2 k (by omega), Option.bind_some, if_pos (by decide), h4 k (by omega), Option.bind_some, Bool.not_not, decide_eq_true rfl, Bool.true_and, if_neg (bne_no _), wsucc (by omega)]
          exact h3 k (by omega)
      · rw [decide_eq_false (by omega), Bool.false_and] at h1
        refine ⟨K1 + K3 + 1, fun k hk => ?_⟩
        obtain ⟨k, rfl, hk2⟩ := down1 hk
        simp only [laws_FnMakeTimes.l0]
        rw [if_pos (by omega), h1 k (by omega), Option.bind_some, if_neg (by omega), if_pos (by trivial), if_neg (by omega), if_neg (bne_no _), wsucc (by omega)]
        exact h3 k (by omega)
    · rw [tmq_pos _ hpos] at h1
      dsimp only at h1
      have hdv : n / a ≤ n := Nat.div_le_self _ _
      have hd1 : n / a ≤ 1000000 := Nat.le_trans hdv (by omega)
      have hd2 : n / a ≤ 4611686018427387904 := Nat.le_trans hdv (by omega)
      have hw : wrap64 ((n / a : Nat) : Int) = ((n / a : Nat) : Int) := by generalize n / a = q at hd2 ⊢; exact w64 (by omega) (by omega)
      obtain ⟨K2, h2⟩ := isetHas_f s hs (n / a) hd1
      dsimp only at h2
      have c1 : (n : Int) ≤ 150 := by clear hw; omega
      have c2 : (a : Int) > 0 := by clear hw; omega
      have c3 : ¬ ((a : Int) = 0) := by clear hw; omega
      have c4 : n ≤ 4611686018427387904 := by clear hw; omega
      by_cases hz : n % a = 0
      · rw [decide_eq_true hz, Bool.true_and] at h1
        have hz2 : ((n % a : Nat) : Int) = 0 := by rw [hz]; rfl
        refine ⟨K1 + K2 + K3 + 1, fun k hk => ?_⟩
        obtain ⟨k, rfl, hk2⟩ := down1 hk
        have k1 : K1 ≤ k := by clear hw; omega
        have k2 : K2 ≤ k := by clear hw; omega
        have k3 : K3 ≤ k := by clear hw; omega
        simp only [laws_FnMakeTimes.l0]
        rw [if_pos c1, h1 k k1, Option.bind_some, if_pos c2, if_neg c3, tmod_nat, if_pos hz2, tdiv_nat, hw, h2 k k2, Option.bind_some, wsucc c4]
        cases setf (chrs s) (n / a) with
        | true => rw [if_pos (by trivial), if_neg (bne_no _)]; exact h3 k k3
        | false => rw [if_neg (by decide), if_neg (bne_no _)]; exact h3 k k3
      · rw [decide_eq_false hz, Bool.false_and] at h1
        have hz2 : ¬ (((n % a : Nat) : Int) = 0) := fun h => hz (Int.natCast_eq_zero.1 h)
        refine ⟨K1 + K2 + K3 + 1, fun k hk => ?_⟩
        obtain ⟨k, rfl, hk2⟩ := down1 hk
        have k1 : K1 ≤ k := by clear hw; omega
        have k3 : K3 ≤ k := by clear hw; omega
        simp only [laws_FnMakeTimes.l0]
        rw [if_pos c1, h1 k k1, Option.bind_some, if_pos c2, if_neg c3, tmod_nat, if_neg hz2, if_neg (bne_no _), wsucc c4]
        exact h3 k k3
theorem lawMakeTimes_ev (l : List Int) (h : ∀ x ∈ l, (Lit.int .u8 x).wf = true) : Ev (fun k => laws_FnMakeTimes.f k l) true := by
  by_cases hl : (l.length : Int) > 1048576
  · exact ⟨0, fun k _ => by dsimp only; unfold laws_FnMakeTimes.f; rw [if_pos hl]⟩
  · obtain ⟨s, n0, hf, lo0, hi0, K1, h1⟩ := drawTimes_f l h
    dsimp only at h1
    have hz := hf.size
    have hs : s.size ≤ 70368744177664 := by omega
    obtain ⟨K2, h2⟩ := smakeTimes_f s hs n0
    dsimp only at h2
    have h3 := makeTimes_f s hs n0
    have main : Ev (fun k => laws_FnMakeTimes.j0 k s n0 (tmr (chrs s) n0).1 (tmr (chrs s) n0).2 true) true := by
      cases h4 : (tmr (chrs s) n0).2 with
      | false =>
        refine Ev.step (f := fun k => laws_FnMakeTimes.j1 k s n0 (tmr (chrs s) n0).1 true true) (fun k => ?_) (Ev.step (f := fun k => some true) (fun k => ?_) (Ev.now _))
        · simp only [laws_FnMakeTimes.j0]; rfl
        · simp only [laws_FnMakeTimes.j1]; rfl
      | true =>
        unfold tmr at h4 ⊢
        obtain ⟨hc, hA⟩ := ite_ok h4
        rw [if_pos hc]
        rw [Bool.and_eq_true] at hc
        have hr := of_decide_eq_true hc.2
        obtain ⟨kk, rfl⟩ := Int.eq_ofNat_of_zero_le hr.1
        rw [Int.toNat_natCast] at hA ⊢
        obtain ⟨⟨a, b⟩, hp⟩ := Option.isSome_iff_exists.1 hc.1
        have hb := parse_some hp
        have hpos := List.length_pos_iff.2 hb.2.2
        have hset := setf_some hp
        obtain ⟨m, p, hp0, hper⟩ : ∃ m p, 0 < p ∧ Per (tmq (setf (chrs s)) kk) m p := by
          rcases Nat.eq_zero_or_pos kk with rfl | h1
          · exact ⟨1, 1, by omega, tmq_per0 _⟩
          · exact ⟨kk * a.length, kk * b.length, Nat.mul_pos h1 hpos, by rw [hset]; exact tmq_per (hasB_per a b) h1⟩
        refine Ev.step (f := fun k => laws_FnMakeTimes.j1 k s kk (txt (cn (tmq (setf (chrs s)) kk))).1 true false) (fun k => ?_) (Ev.step (fun k => ?_) (lawMakeTimes_l0 s _ hs (txt_size _) kk (by omega) hp (txt_setf hp0 hper hA) (txt_tdy hp0 hper hA) _ 0 (by omega) rfl))
        · simp only [laws_FnMakeTimes.j0]; rfl
        · simp only [laws_FnMakeTimes.j1]; rfl
    obtain ⟨K4, h4⟩ := main
    dsimp only at h4
    refine ⟨K1 + K2 + K4, fun k hk => ?_⟩
    dsimp only
    unfold laws_FnMakeTimes.f
    rw [if_neg hl, h1 k (by omega), Option.bind_some]
    try dsimp only
    rw [h3, Option.bind_some, h2 k (by omega), Option.bind_some, if_pos rfl, BEq.rfl]
    exact h4 k (by omega)
theorem lawMakeTimes_pure : laws_FnMakeTimes.Pure := fun l _ _ h => (lawMakeTimes_ev l h).rounds
end Go.Proofs.Ytflfabdfkfigcaa.P

-- For every code the law FnMakeTimes holds.
namespace Go.Proofs.Ytflfabdfkfigcaa.Pure
theorem FnMakeTimes : Go.Proofs.Ytflfabdfkfigcaa.P.laws_FnMakeTimes.Pure := Go.Proofs.Ytflfabdfkfigcaa.P.lawMakeTimes_pure
end Go.Proofs.Ytflfabdfkfigcaa.Pure
