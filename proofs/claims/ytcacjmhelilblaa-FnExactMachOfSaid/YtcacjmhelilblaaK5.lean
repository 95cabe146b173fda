/- What these laws reach, joined by a program of this session: contracts (written by that program over the kit's print, or by hand) and plain lemmas. -/
import Derived.Test.YtcacjmhelilblaaK1
import Derived.Test.YtcacjmhelilblaaK2
import Derived.Test.YtcacjmhelilblaaK3
import Derived.Test.YtcacjmhelilblaaK4
namespace Go.Proofs.Ytcacjmhelilblaa.P
open Go.RowKit Go.Proofs.YtcacjmhelilblaaW.PrintWords Go.Proofs.YtcacjmhelilblaaW.PrintLast Go.Proofs.YtcacjmhelilblaaW.PrintMore
attribute [local go_sem] max2_int min2_int max_two min_two max_three min_three max_four min_four   -- for this text's walks alone
set_option linter.unusedVariables false
set_option linter.unusedSimpArgs false

/-! ### spec_MachOf: function 13 -/
def spec_MachOf.l0 : Nat → Int → Int → List Bool → List Bool → List Int → Int → Int → Option (List Int × Int × Int × Bool)
  | 0, _, _, _, _, _, _, _ => none
  | k + 1, x7, x9, x415000, x415001, x419000, x419001, x419002 => if x9 < x7 then (if (wrap64 (x9 + 1)) = x7 then (if x419000.length < 17592186044416 then ((spec_l1Has.f x415000 x415001 x9).bind fun t422 => ((spec_l1Bit.f t422).bind fun t423 => (if 0 ≤ x9 then (spec_MachOf.l0 k x7 (wrap64 (x9 + 1)) x415000 x415001 (x419000 ++ [shl .i64 1 (x415000.length : Int)]) x419001 (Go.bits .or .i64 x419002 (shl .i64 t423 x9))) else (none)))) else (none)) else (if 0 ≤ (wrap64 (x9 + 1)) then (if x419000.length < 17592186044416 then ((spec_l1Has.f x415000 x415001 x9).bind fun t427 => ((spec_l1Bit.f t427).bind fun t428 => (if 0 ≤ x9 then (spec_MachOf.l0 k x7 (wrap64 (x9 + 1)) x415000 x415001 (x419000 ++ [shl .i64 1 (wrap64 (x9 + 1))]) x419001 (Go.bits .or .i64 x419002 (shl .i64 t428 x9))) else (none)))) else (none)) else (none))) else (some (x419000, x419001, x419002, true))
def spec_MachOf.f (k : Nat) (a0 : ByteArray) : Option (List Int × Int × Int × Bool) := (spec_l1Read.f k a0).bind fun bt400 => (if bt400.2.2 = true then ((spec_l1Less.f k bt400.1 bt400.2.1).bind fun bt408 => (if (wrap64 ((bt408.1.length : Int) + (bt408.2.length : Int))) > 5 then (some (([] : List Int), 0, 0, false)) else (spec_MachOf.l0 k (wrap64 ((bt408.1.length : Int) + (bt408.2.length : Int))) 0 bt408.1 bt408.2 (([] : List Int)) 1 0))) else (some (([] : List Int), 0, 0, false)))
theorem spec_MachOf.mono_l : ∀ k, (∀ y0 y1 y2 y3 y4 y5 y6, LeO (spec_MachOf.l0 k y0 y1 y2 y3 y4 y5 y6) (spec_MachOf.l0 (k + 1) y0 y1 y2 y3 y4 y5 y6))
  | 0 => fun _ _ _ _ _ _ _ r h => by simp [spec_MachOf.l0] at h
  | k + 1 => by
    have ih0 := spec_MachOf.mono_l k
    · intro y0 y1 y2 y3 y4 y5 y6
      unfold spec_MachOf.l0
      repeat' first
      | (with_reducible exact ih0 _ _ _ _ _ _ _)
      | (with_reducible exact spec_l1Less.mono _ _ _)
      | (with_reducible exact spec_l1Read.mono _ _)
      | (with_reducible exact LeO.refl _)
      | (with_reducible exact LeO.none _)
      | (with_reducible refine LeO.ite ?_ ?_)
      | (with_reducible refine LeO.bind ?_ (fun _ => ?_))
      | exact ih0 _ _ _ _ _ _ _
      | exact spec_l1Less.mono _ _ _
      | exact spec_l1Read.mono _ _
      | exact LeO.none _
      | refine LeO.ite ?_ ?_
      | refine LeO.bind ?_ (fun _ => ?_)
theorem spec_MachOf.mono : ∀ a0 k, LeO (spec_MachOf.f k a0) (spec_MachOf.f (k + 1) a0) := by
  intro a0 k
  have ih0 := spec_MachOf.mono_l k
  unfold spec_MachOf.f
  repeat' first
      | (with_reducible exact ih0 _ _ _ _ _ _ _)
      | (with_reducible exact spec_l1Less.mono _ _ _)
      | (with_reducible exact spec_l1Read.mono _ _)
      | (with_reducible exact LeO.refl _)
      | (with_reducible exact LeO.none _)
      | (with_reducible refine LeO.ite ?_ ?_)
      | (with_reducible refine LeO.bind ?_ (fun _ => ?_))
      | exact ih0 _ _ _ _ _ _ _
      | exact spec_l1Less.mono _ _ _
      | exact spec_l1Read.mono _ _
      | exact LeO.none _
      | refine LeO.ite ?_ ?_
      | refine LeO.bind ?_ (fun _ => ?_)
def spec_MachOf.T15 : Bool × List (List Nat × List Nat) := (true, [([], []), ([0], [0]), ([], []), ([2], [2]), ([3], [3]), ([1, 4], [1, 4]), ([0, 1, 2, 3, 4, 5], []), ([6, 5, 5, 0, 1, 2, 3, 4, 5], [5, 6])])
def spec_MachOf.B15 : List Nat := [0, 1, 0, 4, 12, 31, 63, 127]
theorem spec_MachOf.tab15 : rtab .any (opsOf Try.f13 15) = spec_MachOf.T15 := by kernel_rfl
theorem spec_MachOf.bits15 : waitsOk spec_MachOf.T15.2 spec_MachOf.B15 = true := by kernel_rfl
def spec_MachOf.T16 : Bool × List (List Nat × List Nat) := (true, [([], []), ([0], [0]), ([], []), ([], []), ([2, 3], [2, 3]), ([4, 4], [4]), ([], []), ([5, 6], [5, 6]), ([1, 7], [1, 7]), ([0, 1, 2, 3, 4, 5, 6, 7, 8], []), ([9, 8, 5, 0, 1, 2, 3, 4, 5, 6, 7, 8], [8, 9])])
def spec_MachOf.B16 : List Nat := [0, 1, 0, 0, 12, 28, 0, 124, 255, 511, 1023]
theorem spec_MachOf.tab16 : rtab .any (opsOf Try.f13 16) = spec_MachOf.T16 := by kernel_rfl
theorem spec_MachOf.bits16 : waitsOk spec_MachOf.T16.2 spec_MachOf.B16 = true := by kernel_rfl
set_option maxHeartbeats 8000000 in
set_option maxRecDepth 100000 in
theorem spec_MachOf.calls (k : Nat) (a0 : ByteArray) (r1 : List Int) (r2 : Int) (r3 : Int) (r4 : Bool) (w : World) (h : spec_MachOf.f k a0 = some (r1, r2, r3, r4)) :
    Calls Try.prog 13 #[.string a0] w fun e w' => ∃ v0_ : Value, e = .returned (.tuple #[.agg #[v0_, .int .i64 r2, .int .i64 r3], .bool r4]) ∧ Kd.R (Kd.int .i64) 3 w' w.heap.size (fun _ => True) v0_ r1 ∧ Below w.heap.size w w' := by
  have hu35 := Try.underlying35
  have hu46 := Try.underlying46
  have HB := Aside0.mk (Below.refl w.heap.size w)
  have H : ((spec_l1Read.f k a0).bind fun bt400 => (if bt400.2.2 = true then ((spec_l1Less.f k bt400.1 bt400.2.1).bind fun bt408 => (if (wrap64 ((bt408.1.length : Int) + (bt408.2.length : Int))) > 5 then (some (([] : List Int), 0, 0, false)) else (spec_MachOf.l0 k (wrap64 ((bt408.1.length : Int) + (bt408.2.length : Int))) 0 bt408.1 bt408.2 (([] : List Int)) 1 0))) else (some (([] : List Int), 0, 0, false)))) = some (r1, r2, r3, r4) := h
  clear h
  replace H := Option.bind_eq_some_iff.mp H
  obtain ⟨⟨t400, t403, t406⟩, A20, H⟩ := H
  replace H : (if t406 = true then ((spec_l1Less.f k t400 t403).bind fun bt408 => (if (wrap64 ((bt408.1.length : Int) + (bt408.2.length : Int))) > 5 then (some (([] : List Int), 0, 0, false)) else (spec_MachOf.l0 k (wrap64 ((bt408.1.length : Int) + (bt408.2.length : Int))) 0 bt408.1 bt408.2 (([] : List Int)) 1 0))) else (some (([] : List Int), 0, 0, false))) = some (r1, r2, r3, r4) := H
  have A2 := Aside0.mk A20
  clear A20
  by_cases c3 : t406 = true
  · subst c3
    have H1 : ((spec_l1Less.f k t400 t403).bind fun bt408 => (if (wrap64 ((bt408.1.length : Int) + (bt408.2.length : Int))) > 5 then (some (([] : List Int), 0, 0, false)) else (spec_MachOf.l0 k (wrap64 ((bt408.1.length : Int) + (bt408.2.length : Int))) 0 bt408.1 bt408.2 (([] : List Int)) 1 0))) = some (r1, r2, r3, r4) := by rw [if_pos rfl] at H; exact H
    clear H
    have H := H1
    clear H1
    replace H := Option.bind_eq_some_iff.mp H
    obtain ⟨⟨t408, t411⟩, A40, H⟩ := H
    replace H : (if (wrap64 ((t408.length : Int) + (t411.length : Int))) > 5 then (some (([] : List Int), 0, 0, false)) else (spec_MachOf.l0 k (wrap64 ((t408.length : Int) + (t411.length : Int))) 0 t408 t411 (([] : List Int)) 1 0)) = some (r1, r2, r3, r4) := H
    have A4 := Aside0.mk A40
    clear A40
    by_cases c5 : (wrap64 ((t408.length : Int) + (t411.length : Int))) > 5
    · rw [if_pos c5] at H
      have c5b0 : decide (5 < (wrap64 ((t408.length : Int) + (t411.length : Int)))) = true := decide_eq_true c5
      clear c5
      simp only [Option.some.injEq, Prod.mk.injEq] at H
      obtain ⟨rfl, rfl, rfl, rfl⟩ := H
      go_enter Try.func13, Try.ntmps13
      go_wp2_with (first | ((with_reducible refine gate_dst (N := 2) rfl ?_); refine box_event ?hg (N := 2) ?hd (cs := #[.slice none 0 0, .int .i64 0, .int .i64 0]) (t := 35) ?hr ?_; (case hd => rfl); (case hg => rfl); (case hr => first | (go_simp; done) | (go_simp; rfl)); intro gb399 hg w6 hbox hb; have n0_ := Aside0.mk (below_step (by repeat (first | (with_reducible first | exact HB.out | apply below_alloc | apply pw_below_drewN | apply below_drew1) | exact HB.out)) hb); have n1_ := Aside0.mk (hbox); have n2_ := Aside0.mk ((by rw [hg]; exact (below_size (by repeat (first | (with_reducible first | exact HB.out | apply below_alloc | apply pw_below_drewN | apply below_drew1) | exact HB.out))) : w.heap.size ≤ gb399)); have n3_ := Aside0.mk ((by rw [hg]; exact (below_size (by repeat (first | (with_reducible first | exact HB.out | apply below_alloc | apply pw_below_drewN | apply below_drew1) | exact HB.out))) : w.heap.size ≤ gb399)); clear HB; have HB := n0_; have BK399 := n1_; have GW399 := n2_; have GE399 := n3_; clear n0_ n1_ n2_ n3_; clear hb hbox hg) | ((with_reducible refine gate_callee (f := 20) rfl ?_); refine goesL_ (some 13) rfl rfl Try.func20 (by kernel_rfl) rfl #[.string a0] rfl (by (try simp only [List.map_toArray, List.map_cons, List.map_nil]); first | done | rfl | (simp only [List.length_drop, List.length_take]; rfl)) ?_; (with_reducible refine (spec_l1Read.calls k a0 t400 t403 true _ A2.out).mono ?_); rintro e w7 ⟨v401, v404, rfl, ho0, ho1, hb⟩; refine ⟨_, rfl, ?_⟩; have n0_ := Aside0.mk (Kd.R_lower ho0 (below_size (by repeat (first | (with_reducible first | exact HB.out | apply below_alloc | apply pw_below_drewN | apply below_drew1 | refine below_set ?_ GE399.out) | exact HB.out)))); have n1_ := Aside0.mk (Kd.R_lower ho1 (below_size (by repeat (first | (with_reducible first | exact HB.out | apply below_alloc | apply pw_below_drewN | apply below_drew1 | refine below_set ?_ GE399.out) | exact HB.out)))); have n2_ := Aside0.mk (blk_below (g := gb399) (o := .cells #[.slice none 0 0, .int .i64 0, .int .i64 0] 35 (0, 0)) (by (with_reducible repeat (first | refine blk_drewN ?_ _ | refine blk_drew ?_ | refine blk_alloc ?_ _)); exact BK399.out) hb); have n3_ := Aside0.mk (below_step (by repeat (first | (with_reducible first | exact HB.out | apply below_alloc | apply pw_below_drewN | apply below_drew1 | refine below_set ?_ GE399.out) | exact HB.out)) hb); clear BK399; clear HB; have HO402 := n0_; have HO405 := n1_; have BK399 := n2_; have HB := n3_; clear n0_ n1_ n2_ n3_; (try clear hb); (try clear hb2); (try clear hk); (try clear hi); (try clear ho0); (try clear ho1)) | ((with_reducible refine gate_dst (N := 4) rfl ?_); refine box_event ?hg (N := 4) ?hd (cs := #[.slice none 0 0, .slice none 0 0]) (t := 46) ?hr ?_; (case hd => rfl); (case hg => rfl); (case hr => first | (go_simp; done) | (go_simp; rfl)); intro gb407 hg w8 hbox hb; have n0_ := Aside0.mk (Kd.R_below (by (with_reducible repeat (first | apply Kd.R_alloc | apply Kd.R_drewN | apply Kd.R_drew)); exact HO402.out) hb); have n1_ := Aside0.mk (Kd.R_below (by (with_reducible repeat (first | apply Kd.R_alloc | apply Kd.R_drewN | apply Kd.R_drew)); exact HO405.out) hb); have n2_ := Aside0.mk (blk_below (g := gb399) (o := .cells #[.slice none 0 0, .int .i64 0, .int .i64 0] 35 (0, 0)) (by (with_reducible repeat (first | refine blk_drewN ?_ _ | refine blk_drew ?_ | refine blk_alloc ?_ _)); exact BK399.out) hb); have n3_ := Aside0.mk (below_step (by repeat (first | (with_reducible first | exact HB.out | apply below_alloc | apply pw_below_drewN | apply below_drew1 | refine below_set ?_ GE399.out) | exact HB.out)) hb); have n4_ := Aside0.mk (hbox); have n5_ := Aside0.mk ((by rw [hg]; exact (below_size (by repeat (first | (with_reducible first | exact HB.out | apply below_alloc | apply pw_below_drewN | apply below_drew1 | refine below_set ?_ GE399.out) | exact HB.out))) : w.heap.size ≤ gb407)); have n6_ := Aside0.mk ((by rw [hg]; exact (below_size (by repeat (first | (with_reducible first | exact HB.out | apply below_alloc | apply pw_below_drewN | apply below_drew1 | refine below_set ?_ GE399.out) | exact HB.out))) : w.heap.size ≤ gb407)); have n7_ := Aside0.mk ((by rw [hg]; exact Nat.ne_of_lt (blk_lt (g := gb399) (o := .cells #[.slice none 0 0, .int .i64 0, .int .i64 0] 35 (0, 0)) (by (with_reducible repeat (first | refine blk_drewN ?_ _ | refine blk_drew ?_ | refine blk_alloc ?_ _)); exact BK399.out)) : gb399 ≠ gb407)); have n8_ := Aside0.mk ((by rw [hg]; exact Nat.ne_of_gt (blk_lt (g := gb399) (o := .cells #[.slice none 0 0, .int .i64 0, .int .i64 0] 35 (0, 0)) (by (with_reducible repeat (first | refine blk_drewN ?_ _ | refine blk_drew ?_ | refine blk_alloc ?_ _)); exact BK399.out)) : gb407 ≠ gb399)); clear HO402; clear HO405; clear BK399; clear HB; have HO402 := n0_; have HO405 := n1_; have BK399 := n2_; have HB := n3_; have BK407 := n4_; have GW407 := n5_; have GE407 := n6_; have NB399_407 := n7_; have NB407_399 := n8_; clear n0_ n1_ n2_ n3_ n4_ n5_ n6_ n7_ n8_; clear hb hbox hg; obtain ⟨Ao9, co9, eo9⟩ := Kd.R_slice HO402.out; subst eo9; have hnb10 := NB407_399.out; have hnc10 := NB399_407.out; have hcz11_0 : w8.cell? ⟨gb407, 0, none⟩ = some (.slice none 0 0) := (blk_cell BK407.out 0).trans rfl; have hcz11_1 : w8.cell? ⟨gb407, 1, none⟩ = some (.slice none 0 0) := (blk_cell BK407.out 1).trans rfl; have hfz11_0 := blk_frozen BK407.out 0; have hfz11_1 := blk_frozen BK407.out 1; obtain ⟨Ao12, co12, eo12⟩ := Kd.R_slice HO405.out; subst eo12) | ((with_reducible refine gate_store (t := 46) (p := 4) rfl ?_); refine store_event (t := 46) (p := 4) (v := ?vo_w13) (w1 := ((w8.setCell ⟨gb407, 0, none⟩ (.slice Ao9 t400.length co9)).setCell ⟨gb407, 1, none⟩ (.slice Ao12 t403.length co12))) ?hg ?ho ?hn ?hr ?_; (case ho => rfl); (case hg => rfl); (case hn => rfl); (case hr => first | (go_simp; done) | (go_simp; rfl)); intro w13 hw; have n0_ : Aside0 (Kd.R Kd.bool 4 w13 w.heap.size (fun k_ => some k_ ≠ (.slice Ao12 t403.length co12 : Value).ownBlock) (.slice Ao9 t400.length co9) t400) := ⟨(by rw [hw]; exact (by (with_reducible repeat (first | apply Kd.R_alloc | apply Kd.R_drewN | apply Kd.R_drew)); exact Kd.R_mono (Kd.R_far (p := ⟨gb407, 1, none⟩) (Kd.R_far (p := ⟨gb407, 0, none⟩) (Kd.R_types HO402.out BK407.out (by decide)) (fun _ hk => hk.2) (.slice Ao9 t400.length co9)) (fun _ hk => hk.2) (.slice Ao12 t403.length co12)) (fun _ hk => hk.1)))⟩; have n1_ : Aside0 (Kd.R Kd.bool 4 w13 w.heap.size (fun k_ => some k_ ≠ (.slice Ao9 t400.length co9 : Value).ownBlock) (.slice Ao12 t403.length co12) t403) := ⟨(by rw [hw]; exact (by (with_reducible repeat (first | apply Kd.R_alloc | apply Kd.R_drewN | apply Kd.R_drew)); exact Kd.R_mono (Kd.R_far (p := ⟨gb407, 1, none⟩) (Kd.R_far (p := ⟨gb407, 0, none⟩) (Kd.R_types HO405.out BK407.out (by decide)) (fun _ hk => hk.2) (.slice Ao9 t400.length co9)) (fun _ hk => hk.2) (.slice Ao12 t403.length co12)) (fun _ hk => hk.1)))⟩; have n2_ : Aside0 (w13.heap[gb399]? = some (.cells #[.slice none 0 0, .int .i64 0, .int .i64 0] 35 (0, 0))) := ⟨(by rw [hw]; exact (by (with_reducible repeat (first | refine blk_drewN ?_ _ | refine blk_drew ?_ | refine blk_alloc ?_ _)); refine blk_far ?_ NB399_407.out _; (with_reducible repeat (first | refine blk_drewN ?_ _ | refine blk_drew ?_ | refine blk_alloc ?_ _)); refine blk_far ?_ NB399_407.out _; (with_reducible repeat (first | refine blk_drewN ?_ _ | refine blk_drew ?_ | refine blk_alloc ?_ _)); exact BK399.out))⟩; have n3_ : Aside0 (w13.heap[gb407]? = some (.cells #[.slice Ao9 t400.length co9, .slice Ao12 t403.length co12] 46 (0, 0))) := ⟨(by rw [hw]; exact (by (with_reducible repeat (first | refine blk_drewN ?_ _ | refine blk_drew ?_ | refine blk_alloc ?_ _)); refine blk_put (cs := #[.slice Ao9 t400.length co9, .slice none 0 0]) ?_ 1 _ rfl; (with_reducible repeat (first | refine blk_drewN ?_ _ | refine blk_drew ?_ | refine blk_alloc ?_ _)); refine blk_put (cs := #[.slice none 0 0, .slice none 0 0]) ?_ 0 _ rfl; (with_reducible repeat (first | refine blk_drewN ?_ _ | refine blk_drew ?_ | refine blk_alloc ?_ _)); exact BK407.out))⟩; have n4_ : Aside0 (Below w.heap.size w w13) := ⟨(by rw [hw]; exact (by repeat (first | (with_reducible first | exact HB.out | apply below_alloc | apply pw_below_drewN | apply below_drew1 | refine below_set ?_ GE399.out | refine below_set ?_ GE407.out) | exact HB.out)))⟩; clear hw; clear HO402; clear HO405; clear BK399; clear BK407; clear HB; have HO402 := n0_; have HO405 := n1_; have BK399 := n2_; have BK407 := n3_; have HB := n4_; clear n0_ n1_ n2_ n3_ n4_; have hcz14_0 : w13.cell? ⟨gb407, 0, none⟩ = some (.slice Ao9 t400.length co9) := (blk_cell BK407.out 0).trans rfl; have hcz14_1 : w13.cell? ⟨gb407, 1, none⟩ = some (.slice Ao12 t403.length co12) := (blk_cell BK407.out 1).trans rfl; have hfz14_0 := blk_frozen BK407.out 0; have hfz14_1 := blk_frozen BK407.out 1) | ((with_reducible refine gate_callee (f := 27) rfl ?_); refine goesL_ (some 20) rfl rfl Try.func27 (by kernel_rfl) rfl #[.agg #[.slice Ao9 t400.length co9, .slice Ao12 t403.length co12]] rfl (by (try simp only [List.map_toArray, List.map_cons, List.map_nil]); first | done | rfl | (simp only [List.length_drop, List.length_take]; rfl)) ?_; (with_reducible refine (spec_l1Less.calls k (fun k_ => some k_ = (.slice Ao9 t400.length co9 : Value).ownBlock) _ _ t400 (fun k_ => some k_ = (.slice Ao12 t403.length co12 : Value).ownBlock) _ _ t403 t408 t411 _ ?side1 ?side2 A4.out).mono ?_); (case side1 => exact Kd.R_V (Kd.R_tight rfl (Kd.R_types (Kd.R_types (HO402.out) BK399.out (by decide)) BK407.out (by decide)))); (case side2 => exact Kd.R_V (Kd.R_tight rfl (Kd.R_types (Kd.R_types (HO405.out) BK399.out (by decide)) BK407.out (by decide)))); rintro e w15 ⟨v409, v412, rfl, ho0, ho1, hb⟩; refine ⟨_, rfl, ?_⟩; have n0_ := Aside0.mk (Kd.R_below (by (with_reducible repeat (first | apply Kd.R_alloc | apply Kd.R_drewN | apply Kd.R_drew)); exact HO402.out) hb); have n1_ := Aside0.mk (Kd.R_below (by (with_reducible repeat (first | apply Kd.R_alloc | apply Kd.R_drewN | apply Kd.R_drew)); exact HO405.out) hb); have n2_ := Aside0.mk (Kd.V_lower (Kd.V_mono (ok' := fun k_ => k_ ≠ gb399 ∧ k_ ≠ gb407) ho0 (fun k_ hk_ => ⟨Or.elim hk_ (fun hs_ => Or.elim hs_ (fun hs_ => ((Kd.R_types (Kd.R_types (HO402.out) BK399.out (by decide)) BK407.out (by decide)).1 k_ hs_.symm).1.2) (fun hs_ => ((Kd.R_types (Kd.R_types (HO405.out) BK399.out (by decide)) BK407.out (by decide)).1 k_ hs_.symm).1.2)) (fun hn_ => (Kd.freshB (g := gb399) (o := .cells #[.slice none 0 0, .int .i64 0, .int .i64 0] 35 (0, 0)) (by (with_reducible repeat (first | refine blk_drewN ?_ _ | refine blk_drew ?_ | refine blk_alloc ?_ _)); exact BK399.out) k_ hn_)), Or.elim hk_ (fun hs_ => Or.elim hs_ (fun hs_ => ((Kd.R_types (Kd.R_types (HO402.out) BK399.out (by decide)) BK407.out (by decide)).1 k_ hs_.symm).2) (fun hs_ => ((Kd.R_types (Kd.R_types (HO405.out) BK399.out (by decide)) BK407.out (by decide)).1 k_ hs_.symm).2)) (fun hn_ => (Kd.freshB (g := gb407) (o := .cells #[.slice Ao9 t400.length co9, .slice Ao12 t403.length co12] 46 (0, 0)) (by (with_reducible repeat (first | refine blk_drewN ?_ _ | refine blk_drew ?_ | refine blk_alloc ?_ _)); exact BK407.out) k_ hn_))⟩)) (below_size (by repeat (first | (with_reducible first | exact HB.out | apply below_alloc | apply pw_below_drewN | apply below_drew1 | refine below_set ?_ GE399.out | refine below_set ?_ GE407.out) | exact HB.out)))); have n3_ := Aside0.mk (Kd.V_lower (Kd.V_mono (ok' := fun k_ => k_ ≠ gb399 ∧ k_ ≠ gb407) ho1 (fun k_ hk_ => ⟨Or.elim hk_ (fun hs_ => Or.elim hs_ (fun hs_ => ((Kd.R_types (Kd.R_types (HO402.out) BK399.out (by decide)) BK407.out (by decide)).1 k_ hs_.symm).1.2) (fun hs_ => ((Kd.R_types (Kd.R_types (HO405.out) BK399.out (by decide)) BK407.out (by decide)).1 k_ hs_.symm).1.2)) (fun hn_ => (Kd.freshB (g := gb399) (o := .cells #[.slice none 0 0, .int .i64 0, .int .i64 0] 35 (0, 0)) (by (with_reducible repeat (first | refine blk_drewN ?_ _ | refine blk_drew ?_ | refine blk_alloc ?_ _)); exact BK399.out) k_ hn_)), Or.elim hk_ (fun hs_ => Or.elim hs_ (fun hs_ => ((Kd.R_types (Kd.R_types (HO402.out) BK399.out (by decide)) BK407.out (by decide)).1 k_ hs_.symm).2) (fun hs_ => ((Kd.R_types (Kd.R_types (HO405.out) BK399.out (by decide)) BK407.out (by decide)).1 k_ hs_.symm).2)) (fun hn_ => (Kd.freshB (g := gb407) (o := .cells #[.slice Ao9 t400.length co9, .slice Ao12 t403.length co12] 46 (0, 0)) (by (with_reducible repeat (first | refine blk_drewN ?_ _ | refine blk_drew ?_ | refine blk_alloc ?_ _)); exact BK407.out) k_ hn_))⟩)) (below_size (by repeat (first | (with_reducible first | exact HB.out | apply below_alloc | apply pw_below_drewN | apply below_drew1 | refine below_set ?_ GE399.out | refine below_set ?_ GE407.out) | exact HB.out)))); have n4_ := Aside0.mk (blk_below (g := gb399) (o := .cells #[.slice none 0 0, .int .i64 0, .int .i64 0] 35 (0, 0)) (by (with_reducible repeat (first | refine blk_drewN ?_ _ | refine blk_drew ?_ | refine blk_alloc ?_ _)); exact BK399.out) hb); have n5_ := Aside0.mk (blk_below (g := gb407) (o := .cells #[.slice Ao9 t400.length co9, .slice Ao12 t403.length co12] 46 (0, 0)) (by (with_reducible repeat (first | refine blk_drewN ?_ _ | refine blk_drew ?_ | refine blk_alloc ?_ _)); exact BK407.out) hb); have n6_ := Aside0.mk (below_step (by repeat (first | (with_reducible first | exact HB.out | apply below_alloc | apply pw_below_drewN | apply below_drew1 | refine below_set ?_ GE399.out | refine below_set ?_ GE407.out) | exact HB.out)) hb); clear HO402; clear HO405; clear BK399; clear BK407; clear HB; have HO402 := n0_; have HO405 := n1_; have HO410 := n2_; have HO413 := n3_; have BK399 := n4_; have BK407 := n5_; have HB := n6_; clear n0_ n1_ n2_ n3_ n4_ n5_ n6_; (try clear hb); (try clear hb2); (try clear hk); (try clear hi); (try clear ho0); (try clear ho1)) | ((with_reducible refine gate_dst (N := 6) rfl ?_); refine box_event ?hg (N := 6) ?hd (cs := #[.slice none 0 0, .slice none 0 0]) (t := 46) ?hr ?_; (case hd => rfl); (case hg => rfl); (case hr => first | (go_simp; done) | (go_simp; rfl)); intro gb414 hg w16 hbox hb; have n0_ := Aside0.mk (Kd.R_below (by (with_reducible repeat (first | apply Kd.R_alloc | apply Kd.R_drewN | apply Kd.R_drew)); exact HO402.out) hb); have n1_ := Aside0.mk (Kd.R_below (by (with_reducible repeat (first | apply Kd.R_alloc | apply Kd.R_drewN | apply Kd.R_drew)); exact HO405.out) hb); have n2_ := Aside0.mk (Kd.V_below (Kd.V_elderB (by (with_reducible repeat (first | apply Kd.V_alloc | apply Kd.V_drewN | apply Kd.V_drew)); exact HO410.out) gb414 (Nat.le_of_eq hg.symm)) hb); have n3_ := Aside0.mk (Kd.V_below (Kd.V_elderB (by (with_reducible repeat (first | apply Kd.V_alloc | apply Kd.V_drewN | apply Kd.V_drew)); exact HO413.out) gb414 (Nat.le_of_eq hg.symm)) hb); have n4_ := Aside0.mk (blk_below (g := gb399) (o := .cells #[.slice none 0 0, .int .i64 0, .int .i64 0] 35 (0, 0)) (by (with_reducible repeat (first | refine blk_drewN ?_ _ | refine blk_drew ?_ | refine blk_alloc ?_ _)); exact BK399.out) hb); have n5_ := Aside0.mk (blk_below (g := gb407) (o := .cells #[.slice Ao9 t400.length co9, .slice Ao12 t403.length co12] 46 (0, 0)) (by (with_reducible repeat (first | refine blk_drewN ?_ _ | refine blk_drew ?_ | refine blk_alloc ?_ _)); exact BK407.out) hb); have n6_ := Aside0.mk (below_step (by repeat (first | (with_reducible first | exact HB.out | apply below_alloc | apply pw_below_drewN | apply below_drew1 | refine below_set ?_ GE399.out | refine below_set ?_ GE407.out) | exact HB.out)) hb); have n7_ := Aside0.mk (hbox); have n8_ := Aside0.mk ((by rw [hg]; exact (below_size (by repeat (first | (with_reducible first | exact HB.out | apply below_alloc | apply pw_below_drewN | apply below_drew1 | refine below_set ?_ GE399.out | refine below_set ?_ GE407.out) | exact HB.out))) : w.heap.size ≤ gb414)); have n9_ := Aside0.mk ((by rw [hg]; exact (below_size (by repeat (first | (with_reducible first | exact HB.out | apply below_alloc | apply pw_below_drewN | apply below_drew1 | refine below_set ?_ GE399.out | refine below_set ?_ GE407.out) | exact HB.out))) : w.heap.size ≤ gb414)); have n10_ := Aside0.mk ((by rw [hg]; exact Nat.ne_of_lt (blk_lt (g := gb399) (o := .cells #[.slice none 0 0, .int .i64 0, .int .i64 0] 35 (0, 0)) (by (with_reducible repeat (first | refine blk_drewN ?_ _ | refine blk_drew ?_ | refine blk_alloc ?_ _)); exact BK399.out)) : gb399 ≠ gb414)); have n11_ := Aside0.mk ((by rw [hg]; exact Nat.ne_of_gt (blk_lt (g := gb399) (o := .cells #[.slice none 0 0, .int .i64 0, .int .i64 0] 35 (0, 0)) (by (with_reducible repeat (first | refine blk_drewN ?_ _ | refine blk_drew ?_ | refine blk_alloc ?_ _)); exact BK399.out)) : gb414 ≠ gb399)); have n12_ := Aside0.mk ((by rw [hg]; exact Nat.ne_of_lt (blk_lt (g := gb407) (o := .cells #[.slice Ao9 t400.length co9, .slice Ao12 t403.length co12] 46 (0, 0)) (by (with_reducible repeat (first | refine blk_drewN ?_ _ | refine blk_drew ?_ | refine blk_alloc ?_ _)); exact BK407.out)) : gb407 ≠ gb414)); have n13_ := Aside0.mk ((by rw [hg]; exact Nat.ne_of_gt (blk_lt (g := gb407) (o := .cells #[.slice Ao9 t400.length co9, .slice Ao12 t403.length co12] 46 (0, 0)) (by (with_reducible repeat (first | refine blk_drewN ?_ _ | refine blk_drew ?_ | refine blk_alloc ?_ _)); exact BK407.out)) : gb414 ≠ gb407)); clear HO402; clear HO405; clear HO410; clear HO413; clear BK399; clear BK407; clear HB; have HO402 := n0_; have HO405 := n1_; have HO410 := n2_; have HO413 := n3_; have BK399 := n4_; have BK407 := n5_; have HB := n6_; have BK414 := n7_; have GW414 := n8_; have GE414 := n9_; have NB399_414 := n10_; have NB414_399 := n11_; have NB407_414 := n12_; have NB414_407 := n13_; clear n0_ n1_ n2_ n3_ n4_ n5_ n6_ n7_ n8_ n9_ n10_ n11_ n12_ n13_; clear hb hbox hg; obtain ⟨Ao17, co17, eo17⟩ := Kd.V_slice HO410.out; subst eo17; have hnb18 := NB414_399.out; have hnc18 := NB399_414.out; have hnb19 := NB414_407.out; have hnc19 := NB407_414.out; have hcz20_0 : w16.cell? ⟨gb414, 0, none⟩ = some (.slice none 0 0) := (blk_cell BK414.out 0).trans rfl; have hcz20_1 : w16.cell? ⟨gb414, 1, none⟩ = some (.slice none 0 0) := (blk_cell BK414.out 1).trans rfl; have hfz20_0 := blk_frozen BK414.out 0; have hfz20_1 := blk_frozen BK414.out 1; obtain ⟨Ao21, co21, eo21⟩ := Kd.V_slice HO413.out; subst eo21; have hcz22_0 : w16.cell? ⟨gb399, 0, none⟩ = some (.slice none 0 0) := (blk_cell BK399.out 0).trans rfl; have hcz22_1 : w16.cell? ⟨gb399, 1, none⟩ = some (.int .i64 0) := (blk_cell BK399.out 1).trans rfl; have hcz22_2 : w16.cell? ⟨gb399, 2, none⟩ = some (.int .i64 0) := (blk_cell BK399.out 2).trans rfl; have hfz22_0 := blk_frozen BK399.out 0; have hfz22_1 := blk_frozen BK399.out 1; have hfz22_2 := blk_frozen BK399.out 2))
      refine bodyPost_ret (results_ct rfl _ _ gb399 35 #[.slice none 0 0, .int .i64 0, .int .i64 0] (0, 0) _ rfl (by (with_reducible repeat (first | refine blk_drewN ?_ _ | refine blk_drew ?_ | refine blk_alloc ?_ _)); refine blk_put (cs := #[.slice none 0 0, .int .i64 0, .int .i64 0]) ?_ 2 _ rfl; (with_reducible repeat (first | refine blk_drewN ?_ _ | refine blk_drew ?_ | refine blk_alloc ?_ _)); refine blk_put (cs := #[.slice none 0 0, .int .i64 0, .int .i64 0]) ?_ 1 _ rfl; (with_reducible repeat (first | refine blk_drewN ?_ _ | refine blk_drew ?_ | refine blk_alloc ?_ _)); refine blk_put (cs := #[.slice none 0 0, .int .i64 0, .int .i64 0]) ?_ 0 _ rfl; (with_reducible repeat (first | refine blk_drewN ?_ _ | refine blk_drew ?_ | refine blk_alloc ?_ _)); refine blk_far ?_ NB399_414.out _; (with_reducible repeat (first | refine blk_drewN ?_ _ | refine blk_drew ?_ | refine blk_alloc ?_ _)); refine blk_far ?_ NB399_414.out _; (with_reducible repeat (first | refine blk_drewN ?_ _ | refine blk_drew ?_ | refine blk_alloc ?_ _)); exact BK399.out) Try.underlying35 rfl (by kernel_rfl)) rfl ?_
      exact ⟨_, by first | rfl | (simp [errW_none, errW_some] <;> rfl) | (simp [*, errW_none, errW_some] <;> rfl) | (simp [errW_none, errW_some]; exact ⟨rfl, rfl⟩), by first | exact Kd.R_nil _ _ _ _ _ | exact Kd.N_nil _ _ _ _ _ | exact Kd.V_nil _ _ _ _ _ | exact Kd.Q_nil _ _ _ _ _ | exact Kd.S_nil _ _ _ _ _, by repeat (first | (with_reducible first | exact HB.out | apply below_alloc | apply pw_below_drewN | apply below_drew1 | refine below_set ?_ GE399.out | refine below_set ?_ GE407.out | refine below_set ?_ GE414.out) | exact HB.out)⟩
    · rw [if_neg c5] at H
      have c5b0 : decide (5 < (wrap64 ((t408.length : Int) + (t411.length : Int)))) = false := decide_eq_false c5
      clear c5
      obtain ⟨y415, hy415⟩ : ∃ y_ : List Int, y_ = (([] : List Int)) := ⟨_, rfl⟩
      replace H : (spec_MachOf.l0 k (wrap64 ((t408.length : Int) + (t411.length : Int))) 0 t408 t411 y415 1 0) = some (r1, r2, r3, r4) := by first | (rw [hy415]; with_reducible exact H) | (have H2_ := (Option.bind_some _ _).symm.trans H; rw [hy415]; with_reducible exact H2_) | (have H2_ := (Option.bind_some _ _).symm.trans H; with_reducible exact H2_) | with_reducible exact H | (rw [hy415]; exact H) | exact H
      have Ny415 := Aside0.mk hy415
      clear hy415
      have H' := Aside0.mk H
      clear H
      go_enter Try.func13, Try.ntmps13
      go_wp2_with (first | ((with_reducible refine gate_dst (N := 2) rfl ?_); refine box_event ?hg (N := 2) ?hd (cs := #[.slice none 0 0, .int .i64 0, .int .i64 0]) (t := 35) ?hr ?_; (case hd => rfl); (case hg => rfl); (case hr => first | (go_simp; done) | (go_simp; rfl)); intro gb399 hg w23 hbox hb; have n0_ := Aside0.mk (below_step (by repeat (first | (with_reducible first | exact HB.out | apply below_alloc | apply pw_below_drewN | apply below_drew1) | exact HB.out)) hb); have n1_ := Aside0.mk (hbox); have n2_ := Aside0.mk ((by rw [hg]; exact (below_size (by repeat (first | (with_reducible first | exact HB.out | apply below_alloc | apply pw_below_drewN | apply below_drew1) | exact HB.out))) : w.heap.size ≤ gb399)); have n3_ := Aside0.mk ((by rw [hg]; exact (below_size (by repeat (first | (with_reducible first | exact HB.out | apply below_alloc | apply pw_below_drewN | apply below_drew1) | exact HB.out))) : w.heap.size ≤ gb399)); clear HB; have HB := n0_; have BK399 := n1_; have GW399 := n2_; have GE399 := n3_; clear n0_ n1_ n2_ n3_; clear hb hbox hg) | ((with_reducible refine gate_callee (f := 20) rfl ?_); refine goesL_ (some 13) rfl rfl Try.func20 (by kernel_rfl) rfl #[.string a0] rfl (by (try simp only [List.map_toArray, List.map_cons, List.map_nil]); first | done | rfl | (simp only [List.length_drop, List.length_take]; rfl)) ?_; (with_reducible refine (spec_l1Read.calls k a0 t400 t403 true _ A2.out).mono ?_); rintro e w24 ⟨v401, v404, rfl, ho0, ho1, hb⟩; refine ⟨_, rfl, ?_⟩; have n0_ := Aside0.mk (Kd.R_lower ho0 (below_size (by repeat (first | (with_reducible first | exact HB.out | apply below_alloc | apply pw_below_drewN | apply below_drew1 | refine below_set ?_ GE399.out) | exact HB.out)))); have n1_ := Aside0.mk (Kd.R_lower ho1 (below_size (by repeat (first | (with_reducible first | exact HB.out | apply below_alloc | apply pw_below_drewN | apply below_drew1 | refine below_set ?_ GE399.out) | exact HB.out)))); have n2_ := Aside0.mk (blk_below (g := gb399) (o := .cells #[.slice none 0 0, .int .i64 0, .int .i64 0] 35 (0, 0)) (by (with_reducible repeat (first | refine blk_drewN ?_ _ | refine blk_drew ?_ | refine blk_alloc ?_ _)); exact BK399.out) hb); have n3_ := Aside0.mk (below_step (by repeat (first | (with_reducible first | exact HB.out | apply below_alloc | apply pw_below_drewN | apply below_drew1 | refine below_set ?_ GE399.out) | exact HB.out)) hb); clear BK399; clear HB; have HO402 := n0_; have HO405 := n1_; have BK399 := n2_; have HB := n3_; clear n0_ n1_ n2_ n3_; (try clear hb); (try clear hb2); (try clear hk); (try clear hi); (try clear ho0); (try clear ho1)) | ((with_reducible refine gate_dst (N := 4) rfl ?_); refine box_event ?hg (N := 4) ?hd (cs := #[.slice none 0 0, .slice none 0 0]) (t := 46) ?hr ?_; (case hd => rfl); (case hg => rfl); (case hr => first | (go_simp; done) | (go_simp; rfl)); intro gb407 hg w25 hbox hb; have n0_ := Aside0.mk (Kd.R_below (by (with_reducible repeat (first | apply Kd.R_alloc | apply Kd.R_drewN | apply Kd.R_drew)); exact HO402.out) hb); have n1_ := Aside0.mk (Kd.R_below (by (with_reducible repeat (first | apply Kd.R_alloc | apply Kd.R_drewN | apply Kd.R_drew)); exact HO405.out) hb); have n2_ := Aside0.mk (blk_below (g := gb399) (o := .cells #[.slice none 0 0, .int .i64 0, .int .i64 0] 35 (0, 0)) (by (with_reducible repeat (first | refine blk_drewN ?_ _ | refine blk_drew ?_ | refine blk_alloc ?_ _)); exact BK399.out) hb); have n3_ := Aside0.mk (below_step (by repeat (first | (with_reducible first | exact HB.out | apply below_alloc | apply pw_below_drewN | apply below_drew1 | refine below_set ?_ GE399.out) | exact HB.out)) hb); have n4_ := Aside0.mk (hbox); have n5_ := Aside0.mk ((by rw [hg]; exact (below_size (by repeat (first | (with_reducible first | exact HB.out | apply below_alloc | apply pw_below_drewN | apply below_drew1 | refine below_set ?_ GE399.out) | exact HB.out))) : w.heap.size ≤ gb407)); have n6_ := Aside0.mk ((by rw [hg]; exact (below_size (by repeat (first | (with_reducible first | exact HB.out | apply below_alloc | apply pw_below_drewN | apply below_drew1 | refine below_set ?_ GE399.out) | exact HB.out))) : w.heap.size ≤ gb407)); have n7_ := Aside0.mk ((by rw [hg]; exact Nat.ne_of_lt (blk_lt (g := gb399) (o := .cells #[.slice none 0 0, .int .i64 0, .int .i64 0] 35 (0, 0)) (by (with_reducible repeat (first | refine blk_drewN ?_ _ | refine blk_drew ?_ | refine blk_alloc ?_ _)); exact BK399.out)) : gb399 ≠ gb407)); have n8_ := Aside0.mk ((by rw [hg]; exact Nat.ne_of_gt (blk_lt (g := gb399) (o := .cells #[.slice none 0 0, .int .i64 0, .int .i64 0] 35 (0, 0)) (by (with_reducible repeat (first | refine blk_drewN ?_ _ | refine blk_drew ?_ | refine blk_alloc ?_ _)); exact BK399.out)) : gb407 ≠ gb399)); clear HO402; clear HO405; clear BK399; clear HB; have HO402 := n0_; have HO405 := n1_; have BK399 := n2_; have HB := n3_; have BK407 := n4_; have GW407 := n5_; have GE407 := n6_; have NB399_407 := n7_; have NB407_399 := n8_; clear n0_ n1_ n2_ n3_ n4_ n5_ n6_ n7_ n8_; clear hb hbox hg; obtain ⟨Ao26, co26, eo26⟩ := Kd.R_slice HO402.out; subst eo26; have hnb27 := NB407_399.out; have hnc27 := NB399_407.out; have hcz28_0 : w25.cell? ⟨gb407, 0, none⟩ = some (.slice none 0 0) := (blk_cell BK407.out 0).trans rfl; have hcz28_1 : w25.cell? ⟨gb407, 1, none⟩ = some (.slice none 0 0) := (blk_cell BK407.out 1).trans rfl; have hfz28_0 := blk_frozen BK407.out 0; have hfz28_1 := blk_frozen BK407.out 1; obtain ⟨Ao29, co29, eo29⟩ := Kd.R_slice HO405.out; subst eo29) | ((with_reducible refine gate_store (t := 46) (p := 4) rfl ?_); refine store_event (t := 46) (p := 4) (v := ?vo_w30) (w1 := ((w25.setCell ⟨gb407, 0, none⟩ (.slice Ao26 t400.length co26)).setCell ⟨gb407, 1, none⟩ (.slice Ao29 t403.length co29))) ?hg ?ho ?hn ?hr ?_; (case ho => rfl); (case hg => rfl); (case hn => rfl); (case hr => first | (go_simp; done) | (go_simp; rfl)); intro w30 hw; have n0_ : Aside0 (Kd.R Kd.bool 4 w30 w.heap.size (fun k_ => some k_ ≠ (.slice Ao29 t403.length co29 : Value).ownBlock) (.slice Ao26 t400.length co26) t400) := ⟨(by rw [hw]; exact (by (with_reducible repeat (first | apply Kd.R_alloc | apply Kd.R_drewN | apply Kd.R_drew)); exact Kd.R_mono (Kd.R_far (p := ⟨gb407, 1, none⟩) (Kd.R_far (p := ⟨gb407, 0, none⟩) (Kd.R_types HO402.out BK407.out (by decide)) (fun _ hk => hk.2) (.slice Ao26 t400.length co26)) (fun _ hk => hk.2) (.slice Ao29 t403.length co29)) (fun _ hk => hk.1)))⟩; have n1_ : Aside0 (Kd.R Kd.bool 4 w30 w.heap.size (fun k_ => some k_ ≠ (.slice Ao26 t400.length co26 : Value).ownBlock) (.slice Ao29 t403.length co29) t403) := ⟨(by rw [hw]; exact (by (with_reducible repeat (first | apply Kd.R_alloc | apply Kd.R_drewN | apply Kd.R_drew)); exact Kd.R_mono (Kd.R_far (p := ⟨gb407, 1, none⟩) (Kd.R_far (p := ⟨gb407, 0, none⟩) (Kd.R_types HO405.out BK407.out (by decide)) (fun _ hk => hk.2) (.slice Ao26 t400.length co26)) (fun _ hk => hk.2) (.slice Ao29 t403.length co29)) (fun _ hk => hk.1)))⟩; have n2_ : Aside0 (w30.heap[gb399]? = some (.cells #[.slice none 0 0, .int .i64 0, .int .i64 0] 35 (0, 0))) := ⟨(by rw [hw]; exact (by (with_reducible repeat (first | refine blk_drewN ?_ _ | refine blk_drew ?_ | refine blk_alloc ?_ _)); refine blk_far ?_ NB399_407.out _; (with_reducible repeat (first | refine blk_drewN ?_ _ | refine blk_drew ?_ | refine blk_alloc ?_ _)); refine blk_far ?_ NB399_407.out _; (with_reducible repeat (first | refine blk_drewN ?_ _ | refine blk_drew ?_ | refine blk_alloc ?_ _)); exact BK399.out))⟩; have n3_ : Aside0 (w30.heap[gb407]? = some (.cells #[.slice Ao26 t400.length co26, .slice Ao29 t403.length co29] 46 (0, 0))) := ⟨(by rw [hw]; exact (by (with_reducible repeat (first | refine blk_drewN ?_ _ | refine blk_drew ?_ | refine blk_alloc ?_ _)); refine blk_put (cs := #[.slice Ao26 t400.length co26, .slice none 0 0]) ?_ 1 _ rfl; (with_reducible repeat (first | refine blk_drewN ?_ _ | refine blk_drew ?_ | refine blk_alloc ?_ _)); refine blk_put (cs := #[.slice none 0 0, .slice none 0 0]) ?_ 0 _ rfl; (with_reducible repeat (first | refine blk_drewN ?_ _ | refine blk_drew ?_ | refine blk_alloc ?_ _)); exact BK407.out))⟩; have n4_ : Aside0 (Below w.heap.size w w30) := ⟨(by rw [hw]; exact (by repeat (first | (with_reducible first | exact HB.out | apply below_alloc | apply pw_below_drewN | apply below_drew1 | refine below_set ?_ GE399.out | refine below_set ?_ GE407.out) | exact HB.out)))⟩; clear hw; clear HO402; clear HO405; clear BK399; clear BK407; clear HB; have HO402 := n0_; have HO405 := n1_; have BK399 := n2_; have BK407 := n3_; have HB := n4_; clear n0_ n1_ n2_ n3_ n4_; have hcz31_0 : w30.cell? ⟨gb407, 0, none⟩ = some (.slice Ao26 t400.length co26) := (blk_cell BK407.out 0).trans rfl; have hcz31_1 : w30.cell? ⟨gb407, 1, none⟩ = some (.slice Ao29 t403.length co29) := (blk_cell BK407.out 1).trans rfl; have hfz31_0 := blk_frozen BK407.out 0; have hfz31_1 := blk_frozen BK407.out 1) | ((with_reducible refine gate_callee (f := 27) rfl ?_); refine goesL_ (some 20) rfl rfl Try.func27 (by kernel_rfl) rfl #[.agg #[.slice Ao26 t400.length co26, .slice Ao29 t403.length co29]] rfl (by (try simp only [List.map_toArray, List.map_cons, List.map_nil]); first | done | rfl | (simp only [List.length_drop, List.length_take]; rfl)) ?_; (with_reducible refine (spec_l1Less.calls k (fun k_ => some k_ = (.slice Ao26 t400.length co26 : Value).ownBlock) _ _ t400 (fun k_ => some k_ = (.slice Ao29 t403.length co29 : Value).ownBlock) _ _ t403 t408 t411 _ ?side1 ?side2 A4.out).mono ?_); (case side1 => exact Kd.R_V (Kd.R_tight rfl (Kd.R_types (Kd.R_types (HO402.out) BK399.out (by decide)) BK407.out (by decide)))); (case side2 => exact Kd.R_V (Kd.R_tight rfl (Kd.R_types (Kd.R_types (HO405.out) BK399.out (by decide)) BK407.out (by decide)))); rintro e w32 ⟨v409, v412, rfl, ho0, ho1, hb⟩; refine ⟨_, rfl, ?_⟩; have n0_ := Aside0.mk (Kd.R_below (by (with_reducible repeat (first | apply Kd.R_alloc | apply Kd.R_drewN | apply Kd.R_drew)); exact HO402.out) hb); have n1_ := Aside0.mk (Kd.R_below (by (with_reducible repeat (first | apply Kd.R_alloc | apply Kd.R_drewN | apply Kd.R_drew)); exact HO405.out) hb); have n2_ := Aside0.mk (Kd.V_lower (Kd.V_mono (ok' := fun k_ => k_ ≠ gb399 ∧ k_ ≠ gb407) ho0 (fun k_ hk_ => ⟨Or.elim hk_ (fun hs_ => Or.elim hs_ (fun hs_ => ((Kd.R_types (Kd.R_types (HO402.out) BK399.out (by decide)) BK407.out (by decide)).1 k_ hs_.symm).1.2) (fun hs_ => ((Kd.R_types (Kd.R_types (HO405.out) BK399.out (by decide)) BK407.out (by decide)).1 k_ hs_.symm).1.2)) (fun hn_ => (Kd.freshB (g := gb399) (o := .cells #[.slice none 0 0, .int .i64 0, .int .i64 0] 35 (0, 0)) (by (with_reducible repeat (first | refine blk_drewN ?_ _ | refine blk_drew ?_ | refine blk_alloc ?_ _)); exact BK399.out) k_ hn_)), Or.elim hk_ (fun hs_ => Or.elim hs_ (fun hs_ => ((Kd.R_types (Kd.R_types (HO402.out) BK399.out (by decide)) BK407.out (by decide)).1 k_ hs_.symm).2) (fun hs_ => ((Kd.R_types (Kd.R_types (HO405.out) BK399.out (by decide)) BK407.out (by decide)).1 k_ hs_.symm).2)) (fun hn_ => (Kd.freshB (g := gb407) (o := .cells #[.slice Ao26 t400.length co26, .slice Ao29 t403.length co29] 46 (0, 0)) (by (with_reducible repeat (first | refine blk_drewN ?_ _ | refine blk_drew ?_ | refine blk_alloc ?_ _)); exact BK407.out) k_ hn_))⟩)) (below_size (by repeat (first | (with_reducible first | exact HB.out | apply below_alloc | apply pw_below_drewN | apply below_drew1 | refine below_set ?_ GE399.out | refine below_set ?_ GE407.out) | exact HB.out)))); have n3_ := Aside0.mk (Kd.V_lower (Kd.V_mono (ok' := fun k_ => k_ ≠ gb399 ∧ k_ ≠ gb407) ho1 (fun k_ hk_ => ⟨Or.elim hk_ (fun hs_ => Or.elim hs_ (fun hs_ => ((Kd.R_types (Kd.R_types (HO402.out) BK399.out (by decide)) BK407.out (by decide)).1 k_ hs_.symm).1.2) (fun hs_ => ((Kd.R_types (Kd.R_types (HO405.out) BK399.out (by decide)) BK407.out (by decide)).1 k_ hs_.symm).1.2)) (fun hn_ => (Kd.freshB (g := gb399) (o := .cells #[.slice none 0 0, .int .i64 0, .int .i64 0] 35 (0, 0)) (by (with_reducible repeat (first | refine blk_drewN ?_ _ | refine blk_drew ?_ | refine blk_alloc ?_ _)); exact BK399.out) k_ hn_)), Or.elim hk_ (fun hs_ => Or.elim hs_ (fun hs_ => ((Kd.R_types (Kd.R_types (HO402.out) BK399.out (by decide)) BK407.out (by decide)).1 k_ hs_.symm).2) (fun hs_ => ((Kd.R_types (Kd.R_types (HO405.out) BK399.out (by decide)) BK407.out (by decide)).1 k_ hs_.symm).2)) (fun hn_ => (Kd.freshB (g := gb407) (o := .cells #[.slice Ao26 t400.length co26, .slice Ao29 t403.length co29] 46 (0, 0)) (by (with_reducible repeat (first | refine blk_drewN ?_ _ | refine blk_drew ?_ | refine blk_alloc ?_ _)); exact BK407.out) k_ hn_))⟩)) (below_size (by repeat (first | (with_reducible first | exact HB.out | apply below_alloc | apply pw_below_drewN | apply below_drew1 | refine below_set ?_ GE399.out | refine below_set ?_ GE407.out) | exact HB.out)))); have n4_ := Aside0.mk (blk_below (g := gb399) (o := .cells #[.slice none 0 0, .int .i64 0, .int .i64 0] 35 (0, 0)) (by (with_reducible repeat (first | refine blk_drewN ?_ _ | refine blk_drew ?_ | refine blk_alloc ?_ _)); exact BK399.out) hb); have n5_ := Aside0.mk (blk_below (g := gb407) (o := .cells #[.slice Ao26 t400.length co26, .slice Ao29 t403.length co29] 46 (0, 0)) (by (with_reducible repeat (first | refine blk_drewN ?_ _ | refine blk_drew ?_ | refine blk_alloc ?_ _)); exact BK407.out) hb); have n6_ := Aside0.mk (below_step (by repeat (first | (with_reducible first | exact HB.out | apply below_alloc | apply pw_below_drewN | apply below_drew1 | refine below_set ?_ GE399.out | refine below_set ?_ GE407.out) | exact HB.out)) hb); clear HO402; clear HO405; clear BK399; clear BK407; clear HB; have HO402 := n0_; have HO405 := n1_; have HO410 := n2_; have HO413 := n3_; have BK399 := n4_; have BK407 := n5_; have HB := n6_; clear n0_ n1_ n2_ n3_ n4_ n5_ n6_; (try clear hb); (try clear hb2); (try clear hk); (try clear hi); (try clear ho0); (try clear ho1)) | ((with_reducible refine gate_dst (N := 6) rfl ?_); refine box_event ?hg (N := 6) ?hd (cs := #[.slice none 0 0, .slice none 0 0]) (t := 46) ?hr ?_; (case hd => rfl); (case hg => rfl); (case hr => first | (go_simp; done) | (go_simp; rfl)); intro gb414 hg w33 hbox hb; have n0_ := Aside0.mk (Kd.R_below (by (with_reducible repeat (first | apply Kd.R_alloc | apply Kd.R_drewN | apply Kd.R_drew)); exact HO402.out) hb); have n1_ := Aside0.mk (Kd.R_below (by (with_reducible repeat (first | apply Kd.R_alloc | apply Kd.R_drewN | apply Kd.R_drew)); exact HO405.out) hb); have n2_ := Aside0.mk (Kd.V_below (Kd.V_elderB (by (with_reducible repeat (first | apply Kd.V_alloc | apply Kd.V_drewN | apply Kd.V_drew)); exact HO410.out) gb414 (Nat.le_of_eq hg.symm)) hb); have n3_ := Aside0.mk (Kd.V_below (Kd.V_elderB (by (with_reducible repeat (first | apply Kd.V_alloc | apply Kd.V_drewN | apply Kd.V_drew)); exact HO413.out) gb414 (Nat.le_of_eq hg.symm)) hb); have n4_ := Aside0.mk (blk_below (g := gb399) (o := .cells #[.slice none 0 0, .int .i64 0, .int .i64 0] 35 (0, 0)) (by (with_reducible repeat (first | refine blk_drewN ?_ _ | refine blk_drew ?_ | refine blk_alloc ?_ _)); exact BK399.out) hb); have n5_ := Aside0.mk (blk_below (g := gb407) (o := .cells #[.slice Ao26 t400.length co26, .slice Ao29 t403.length co29] 46 (0, 0)) (by (with_reducible repeat (first | refine blk_drewN ?_ _ | refine blk_drew ?_ | refine blk_alloc ?_ _)); exact BK407.out) hb); have n6_ := Aside0.mk (below_step (by repeat (first | (with_reducible first | exact HB.out | apply below_alloc | apply pw_below_drewN | apply below_drew1 | refine below_set ?_ GE399.out | refine below_set ?_ GE407.out) | exact HB.out)) hb); have n7_ := Aside0.mk (hbox); have n8_ := Aside0.mk ((by rw [hg]; exact (below_size (by repeat (first | (with_reducible first | exact HB.out | apply below_alloc | apply pw_below_drewN | apply below_drew1 | refine below_set ?_ GE399.out | refine below_set ?_ GE407.out) | exact HB.out))) : w.heap.size ≤ gb414)); have n9_ := Aside0.mk ((by rw [hg]; exact (below_size (by repeat (first | (with_reducible first | exact HB.out | apply below_alloc | apply pw_below_drewN | apply below_drew1 | refine below_set ?_ GE399.out | refine below_set ?_ GE407.out) | exact HB.out))) : w.heap.size ≤ gb414)); have n10_ := Aside0.mk ((by rw [hg]; exact Nat.ne_of_lt (blk_lt (g := gb399) (o := .cells #[.slice none 0 0, .int .i64 0, .int .i64 0] 35 (0, 0)) (by (with_reducible repeat (first | refine blk_drewN ?_ _ | refine blk_drew ?_ | refine blk_alloc ?_ _)); exact BK399.out)) : gb399 ≠ gb414)); have n11_ := Aside0.mk ((by rw [hg]; exact Nat.ne_of_gt (blk_lt (g := gb399) (o := .cells #[.slice none 0 0, .int .i64 0, .int .i64 0] 35 (0, 0)) (by (with_reducible repeat (first | refine blk_drewN ?_ _ | refine blk_drew ?_ | refine blk_alloc ?_ _)); exact BK399.out)) : gb414 ≠ gb399)); have n12_ := Aside0.mk ((by rw [hg]; exact Nat.ne_of_lt (blk_lt (g := gb407) (o := .cells #[.slice Ao26 t400.length co26, .slice Ao29 t403.length co29] 46 (0, 0)) (by (with_reducible repeat (first | refine blk_drewN ?_ _ | refine blk_drew ?_ | refine blk_alloc ?_ _)); exact BK407.out)) : gb407 ≠ gb414)); have n13_ := Aside0.mk ((by rw [hg]; exact Nat.ne_of_gt (blk_lt (g := gb407) (o := .cells #[.slice Ao26 t400.length co26, .slice Ao29 t403.length co29] 46 (0, 0)) (by (with_reducible repeat (first | refine blk_drewN ?_ _ | refine blk_drew ?_ | refine blk_alloc ?_ _)); exact BK407.out)) : gb414 ≠ gb407)); clear HO402; clear HO405; clear HO410; clear HO413; clear BK399; clear BK407; clear HB; have HO402 := n0_; have HO405 := n1_; have HO410 := n2_; have HO413 := n3_; have BK399 := n4_; have BK407 := n5_; have HB := n6_; have BK414 := n7_; have GW414 := n8_; have GE414 := n9_; have NB399_414 := n10_; have NB414_399 := n11_; have NB407_414 := n12_; have NB414_407 := n13_; clear n0_ n1_ n2_ n3_ n4_ n5_ n6_ n7_ n8_ n9_ n10_ n11_ n12_ n13_; clear hb hbox hg; obtain ⟨Ao34, co34, eo34⟩ := Kd.V_slice HO410.out; subst eo34; have hnb35 := NB414_399.out; have hnc35 := NB399_414.out; have hnb36 := NB414_407.out; have hnc36 := NB407_414.out; have hcz37_0 : w33.cell? ⟨gb414, 0, none⟩ = some (.slice none 0 0) := (blk_cell BK414.out 0).trans rfl; have hcz37_1 : w33.cell? ⟨gb414, 1, none⟩ = some (.slice none 0 0) := (blk_cell BK414.out 1).trans rfl; have hfz37_0 := blk_frozen BK414.out 0; have hfz37_1 := blk_frozen BK414.out 1; obtain ⟨Ao38, co38, eo38⟩ := Kd.V_slice HO413.out; subst eo38) | ((with_reducible refine gate_dst (N := 31) rfl ?_); refine Kd.R_lit (Kd.int .i64) _ 3 ?hg (N := 31) ?hd (xs := ([] : List Int)) (inner := []) (ok := fun _ => True) (okp := fun _ => True) ?hr ?hp (fun _ hk => hk) trivial (Below.refl _ _) (Nat.le_refl _) (by simp) ?_; (case hd => rfl); (case hg => rfl); (case hr => first | (go_simp; done) | (go_simp; rfl)); (case hp => exact (Reps.none _ _)); intro v416 w39 ho40 hb hg_ hnew_; clear hg_ hnew_; (first | rw [← Ny415.out] at ho40 | (simp only [Int.reduceToNat] at ho40; rw [← Ny415.out] at ho40)); have n0_ := Aside0.mk (Kd.R_below (by (with_reducible repeat (first | apply Kd.R_alloc | apply Kd.R_drewN | apply Kd.R_drew)); exact (Kd.R_mono (Kd.R_far (p := ⟨gb414, 1, none⟩) (Kd.R_far (p := ⟨gb414, 0, none⟩) (Kd.R_types HO402.out BK414.out (by decide)) (fun _ hk => hk.2) (.slice Ao34 t408.length co34)) (fun _ hk => hk.2) (.slice Ao38 t411.length co38)) (fun _ h_ => h_.1))) hb); have n1_ := Aside0.mk (Kd.R_below (by (with_reducible repeat (first | apply Kd.R_alloc | apply Kd.R_drewN | apply Kd.R_drew)); exact (Kd.R_mono (Kd.R_far (p := ⟨gb414, 1, none⟩) (Kd.R_far (p := ⟨gb414, 0, none⟩) (Kd.R_types HO405.out BK414.out (by decide)) (fun _ hk => hk.2) (.slice Ao34 t408.length co34)) (fun _ hk => hk.2) (.slice Ao38 t411.length co38)) (fun _ h_ => h_.1))) hb); have n2_ := Aside0.mk (Kd.V_elder' (by (with_reducible repeat (first | apply Kd.V_alloc | apply Kd.V_drewN | apply Kd.V_drew)); exact (Kd.V_mono (Kd.V_far (p := ⟨gb414, 1, none⟩) (Kd.V_far (p := ⟨gb414, 0, none⟩) (Kd.V_mono HO410.out (fun k_ hk => (⟨hk, hk.2⟩ : _ ∧ k_ ≠ gb414))) (fun _ hk => hk.2) (.slice Ao34 t408.length co34)) (fun _ hk => hk.2) (.slice Ao38 t411.length co38)) (fun _ h_ => h_.1))) (Kd.R_base ho40) hb); have n3_ := Aside0.mk (Kd.V_elder' (by (with_reducible repeat (first | apply Kd.V_alloc | apply Kd.V_drewN | apply Kd.V_drew)); exact (Kd.V_mono (Kd.V_far (p := ⟨gb414, 1, none⟩) (Kd.V_far (p := ⟨gb414, 0, none⟩) (Kd.V_mono HO413.out (fun k_ hk => (⟨hk, hk.2⟩ : _ ∧ k_ ≠ gb414))) (fun _ hk => hk.2) (.slice Ao34 t408.length co34)) (fun _ hk => hk.2) (.slice Ao38 t411.length co38)) (fun _ h_ => h_.1))) (Kd.R_base ho40) hb); have n4_ := Aside0.mk (Kd.R_lower ho40 (below_size (by repeat (first | (with_reducible first | exact HB.out | apply below_alloc | apply pw_below_drewN | apply below_drew1 | refine below_set ?_ GE399.out | refine below_set ?_ GE407.out | refine below_set ?_ GE414.out) | exact HB.out)))); have n5_ := Aside0.mk (blk_below (g := gb399) (o := .cells #[.slice none 0 0, .int .i64 0, .int .i64 0] 35 (0, 0)) (by (with_reducible repeat (first | refine blk_drewN ?_ _ | refine blk_drew ?_ | refine blk_alloc ?_ _)); refine blk_far ?_ NB399_414.out _; (with_reducible repeat (first | refine blk_drewN ?_ _ | refine blk_drew ?_ | refine blk_alloc ?_ _)); refine blk_far ?_ NB399_414.out _; (with_reducible repeat (first | refine blk_drewN ?_ _ | refine blk_drew ?_ | refine blk_alloc ?_ _)); exact BK399.out) hb); have n6_ := Aside0.mk (blk_below (g := gb407) (o := .cells #[.slice Ao26 t400.length co26, .slice Ao29 t403.length co29] 46 (0, 0)) (by (with_reducible repeat (first | refine blk_drewN ?_ _ | refine blk_drew ?_ | refine blk_alloc ?_ _)); refine blk_far ?_ NB407_414.out _; (with_reducible repeat (first | refine blk_drewN ?_ _ | refine blk_drew ?_ | refine blk_alloc ?_ _)); refine blk_far ?_ NB407_414.out _; (with_reducible repeat (first | refine blk_drewN ?_ _ | refine blk_drew ?_ | refine blk_alloc ?_ _)); exact BK407.out) hb); have n7_ := Aside0.mk (blk_below (g := gb414) (o := .cells #[.slice Ao34 t408.length co34, .slice Ao38 t411.length co38] 46 (0, 0)) (by (with_reducible repeat (first | refine blk_drewN ?_ _ | refine blk_drew ?_ | refine blk_alloc ?_ _)); refine blk_put (cs := #[.slice Ao34 t408.length co34, .slice none 0 0]) ?_ 1 _ rfl; (with_reducible repeat (first | refine blk_drewN ?_ _ | refine blk_drew ?_ | refine blk_alloc ?_ _)); refine blk_put (cs := #[.slice none 0 0, .slice none 0 0]) ?_ 0 _ rfl; (with_reducible repeat (first | refine blk_drewN ?_ _ | refine blk_drew ?_ | refine blk_alloc ?_ _)); exact BK414.out) hb); have n8_ := Aside0.mk (below_step (by repeat (first | (with_reducible first | exact HB.out | apply below_alloc | apply pw_below_drewN | apply below_drew1 | refine below_set ?_ GE399.out | refine below_set ?_ GE407.out | refine below_set ?_ GE414.out) | exact HB.out)) hb); clear HO402; clear HO405; clear HO410; clear HO413; clear BK399; clear BK407; clear BK414; clear HB; have HO402 := n0_; have HO405 := n1_; have HO410 := n2_; have HO413 := n3_; have HO417 := n4_; have BK399 := n5_; have BK407 := n6_; have BK414 := n7_; have HB := n8_; clear n0_ n1_ n2_ n3_ n4_ n5_ n6_ n7_ n8_; clear hb ho40; obtain ⟨Ao41, co41, eo41⟩ := Kd.R_slice HO417.out; subst eo41) | ((with_reducible refine gate_dst (N := 8) rfl ?_); refine box_event ?hg (N := 8) ?hd (cs := #[.slice none 0 0, .int .i64 0, .int .i64 0]) (t := 35) ?hr ?_; (case hd => rfl); (case hg => rfl); (case hr => first | (go_simp; done) | (go_simp; rfl)); intro gb418 hg w42 hbox hb; have n0_ := Aside0.mk (Kd.R_below (by (with_reducible repeat (first | apply Kd.R_alloc | apply Kd.R_drewN | apply Kd.R_drew)); exact HO402.out) hb); have n1_ := Aside0.mk (Kd.R_below (by (with_reducible repeat (first | apply Kd.R_alloc | apply Kd.R_drewN | apply Kd.R_drew)); exact HO405.out) hb); have n2_ := Aside0.mk (Kd.V_below (Kd.V_elderB (by (with_reducible repeat (first | apply Kd.V_alloc | apply Kd.V_drewN | apply Kd.V_drew)); exact HO410.out) gb418 (Nat.le_of_eq hg.symm)) hb); have n3_ := Aside0.mk (Kd.V_below (Kd.V_elderB (by (with_reducible repeat (first | apply Kd.V_alloc | apply Kd.V_drewN | apply Kd.V_drew)); exact HO413.out) gb418 (Nat.le_of_eq hg.symm)) hb); have n4_ := Aside0.mk (Kd.R_below (by (with_reducible repeat (first | apply Kd.R_alloc | apply Kd.R_drewN | apply Kd.R_drew)); exact HO417.out) hb); have n5_ := Aside0.mk (blk_below (g := gb399) (o := .cells #[.slice none 0 0, .int .i64 0, .int .i64 0] 35 (0, 0)) (by (with_reducible repeat (first | refine blk_drewN ?_ _ | refine blk_drew ?_ | refine blk_alloc ?_ _)); exact BK399.out) hb); have n6_ := Aside0.mk (blk_below (g := gb407) (o := .cells #[.slice Ao26 t400.length co26, .slice Ao29 t403.length co29] 46 (0, 0)) (by (with_reducible repeat (first | refine blk_drewN ?_ _ | refine blk_drew ?_ | refine blk_alloc ?_ _)); exact BK407.out) hb); have n7_ := Aside0.mk (blk_below (g := gb414) (o := .cells #[.slice Ao34 t408.length co34, .slice Ao38 t411.length co38] 46 (0, 0)) (by (with_reducible repeat (first | refine blk_drewN ?_ _ | refine blk_drew ?_ | refine blk_alloc ?_ _)); exact BK414.out) hb); have n8_ := Aside0.mk (below_step (by repeat (first | (with_reducible first | exact HB.out | apply below_alloc | apply pw_below_drewN | apply below_drew1 | refine below_set ?_ GE399.out | refine below_set ?_ GE407.out | refine below_set ?_ GE414.out) | exact HB.out)) hb); have n9_ := Aside0.mk (hbox); have n10_ := Aside0.mk ((by rw [hg]; exact (below_size (by repeat (first | (with_reducible first | exact HB.out | apply below_alloc | apply pw_below_drewN | apply below_drew1 | refine below_set ?_ GE399.out | refine below_set ?_ GE407.out | refine below_set ?_ GE414.out) | exact HB.out))) : w.heap.size ≤ gb418)); have n11_ := Aside0.mk ((by rw [hg]; exact (below_size (by repeat (first | (with_reducible first | exact HB.out | apply below_alloc | apply pw_below_drewN | apply below_drew1 | refine below_set ?_ GE399.out | refine below_set ?_ GE407.out | refine below_set ?_ GE414.out) | exact HB.out))) : w.heap.size ≤ gb418)); have n12_ := Aside0.mk ((by rw [hg]; exact Nat.ne_of_lt (blk_lt (g := gb399) (o := .cells #[.slice none 0 0, .int .i64 0, .int .i64 0] 35 (0, 0)) (by (with_reducible repeat (first | refine blk_drewN ?_ _ | refine blk_drew ?_ | refine blk_alloc ?_ _)); exact BK399.out)) : gb399 ≠ gb418)); have n13_ := Aside0.mk ((by rw [hg]; exact Nat.ne_of_gt (blk_lt (g := gb399) (o := .cells #[.slice none 0 0, .int .i64 0, .int .i64 0] 35 (0, 0)) (by (with_reducible repeat (first | refine blk_drewN ?_ _ | refine blk_drew ?_ | refine blk_alloc ?_ _)); exact BK399.out)) : gb418 ≠ gb399)); have n14_ := Aside0.mk ((by rw [hg]; exact Nat.ne_of_lt (blk_lt (g := gb407) (o := .cells #[.slice Ao26 t400.length co26, .slice Ao29 t403.length co29] 46 (0, 0)) (by (with_reducible repeat (first | refine blk_drewN ?_ _ | refine blk_drew ?_ | refine blk_alloc ?_ _)); exact BK407.out)) : gb407 ≠ gb418)); have n15_ := Aside0.mk ((by rw [hg]; exact Nat.ne_of_gt (blk_lt (g := gb407) (o := .cells #[.slice Ao26 t400.length co26, .slice Ao29 t403.length co29] 46 (0, 0)) (by (with_reducible repeat (first | refine blk_drewN ?_ _ | refine blk_drew ?_ | refine blk_alloc ?_ _)); exact BK407.out)) : gb418 ≠ gb407)); have n16_ := Aside0.mk ((by rw [hg]; exact Nat.ne_of_lt (blk_lt (g := gb414) (o := .cells #[.slice Ao34 t408.length co34, .slice Ao38 t411.length co38] 46 (0, 0)) (by (with_reducible repeat (first | refine blk_drewN ?_ _ | refine blk_drew ?_ | refine blk_alloc ?_ _)); exact BK414.out)) : gb414 ≠ gb418)); have n17_ := Aside0.mk ((by rw [hg]; exact Nat.ne_of_gt (blk_lt (g := gb414) (o := .cells #[.slice Ao34 t408.length co34, .slice Ao38 t411.length co38] 46 (0, 0)) (by (with_reducible repeat (first | refine blk_drewN ?_ _ | refine blk_drew ?_ | refine blk_alloc ?_ _)); exact BK414.out)) : gb418 ≠ gb414)); clear HO402; clear HO405; clear HO410; clear HO413; clear HO417; clear BK399; clear BK407; clear BK414; clear HB; have HO402 := n0_; have HO405 := n1_; have HO410 := n2_; have HO413 := n3_; have HO417 := n4_; have BK399 := n5_; have BK407 := n6_; have BK414 := n7_; have HB := n8_; have BK418 := n9_; have GW418 := n10_; have GE418 := n11_; have NB399_418 := n12_; have NB418_399 := n13_; have NB407_418 := n14_; have NB418_407 := n15_; have NB414_418 := n16_; have NB418_414 := n17_; clear n0_ n1_ n2_ n3_ n4_ n5_ n6_ n7_ n8_ n9_ n10_ n11_ n12_ n13_ n14_ n15_ n16_ n17_; clear hb hbox hg; have hnb43 := NB418_399.out; have hnc43 := NB399_418.out; have hnb44 := NB418_407.out; have hnc44 := NB407_418.out; have hnb45 := NB418_414.out; have hnc45 := NB414_418.out; have hcz46_0 : w42.cell? ⟨gb418, 0, none⟩ = some (.slice none 0 0) := (blk_cell BK418.out 0).trans rfl; have hcz46_1 : w42.cell? ⟨gb418, 1, none⟩ = some (.int .i64 0) := (blk_cell BK418.out 1).trans rfl; have hcz46_2 : w42.cell? ⟨gb418, 2, none⟩ = some (.int .i64 0) := (blk_cell BK418.out 2).trans rfl; have hfz46_0 := blk_frozen BK418.out 0; have hfz46_1 := blk_frozen BK418.out 1; have hfz46_2 := blk_frozen BK418.out 2))
      go_loopg [9] k (fun kq v9 w' => ∃ (x9_1 : Int) (x419000_1 : List Int) (x419002_1 : Int) (u419000 : Value), v9 = .int .i64 x9_1 ∧ Aside0 (spec_MachOf.l0 kq (wrap64 ((t408.length : Int) + (t411.length : Int))) x9_1 t408 t411 x419000_1 1 x419002_1 = some (r1, r2, r3, r4)) ∧ Aside0 (kq ≤ k) ∧ Aside0 (Kd.R Kd.bool 4 w' w.heap.size (fun k_ => some k_ ≠ ((.slice Ao29 t403.length co29) : Value).ownBlock) (.slice Ao26 t400.length co26) t400) ∧ Aside0 (Kd.R Kd.bool 4 w' w.heap.size (fun k_ => some k_ ≠ ((.slice Ao26 t400.length co26) : Value).ownBlock) (.slice Ao29 t403.length co29) t403) ∧ Aside0 (Kd.V Kd.bool 4 w' w.heap.size (fun k_ => some k_ ≠ (u419000 : Value).ownBlock ∧ k_ ≠ gb399 ∧ k_ ≠ gb407 ∧ k_ ≠ gb414 ∧ k_ ≠ gb418) (.slice Ao34 t408.length co34) t408) ∧ Aside0 (Kd.V Kd.bool 4 w' w.heap.size (fun k_ => some k_ ≠ (u419000 : Value).ownBlock ∧ k_ ≠ gb399 ∧ k_ ≠ gb407 ∧ k_ ≠ gb414 ∧ k_ ≠ gb418) (.slice Ao38 t411.length co38) t411) ∧ Aside0 (Kd.R (Kd.int .i64) 3 w' w.heap.size (fun _ => True) u419000 x419000_1) ∧ Aside0 (w'.heap[gb399]? = some (.cells #[(.slice none 0 0), .int .i64 0, .int .i64 0] 35 (0, 0))) ∧ Aside0 (w'.heap[gb407]? = some (.cells #[(.slice Ao26 t400.length co26), (.slice Ao29 t403.length co29)] 46 (0, 0))) ∧ Aside0 (w'.heap[gb414]? = some (.cells #[(.slice Ao34 t408.length co34), (.slice Ao38 t411.length co38)] 46 (0, 0))) ∧ Aside0 (w'.heap[gb418]? = some (.cells #[u419000, .int .i64 1, .int .i64 x419002_1] 35 (0, 0))) ∧ Aside0 (Below w.heap.size w w'))
      case atStart => exact ⟨(0), (y415), (0), (.slice Ao41 y415.length co41), (by first | rfl | (simp; done) | (simp [*]; done) | (simp [Int.tmod_eq_emod_of_nonneg]; done)), H', ⟨Nat.le_refl _⟩, ⟨by (with_reducible repeat (first | apply Kd.R_alloc | apply Kd.R_drewN | apply Kd.R_drew)); exact Kd.R_mono (Kd.R_far (p := ⟨gb418, 2, none⟩) (Kd.R_far (p := ⟨gb418, 1, none⟩) (Kd.R_far (p := ⟨gb418, 0, none⟩) (Kd.R_types HO402.out BK418.out (by decide)) (fun _ hk => hk.2) (.slice Ao41 y415.length co41)) (fun _ hk => hk.2) (.int .i64 1)) (fun _ hk => hk.2) (.int .i64 0)) (fun _ hk => hk.1)⟩, ⟨by (with_reducible repeat (first | apply Kd.R_alloc | apply Kd.R_drewN | apply Kd.R_drew)); exact Kd.R_mono (Kd.R_far (p := ⟨gb418, 2, none⟩) (Kd.R_far (p := ⟨gb418, 1, none⟩) (Kd.R_far (p := ⟨gb418, 0, none⟩) (Kd.R_types HO405.out BK418.out (by decide)) (fun _ hk => hk.2) (.slice Ao41 y415.length co41)) (fun _ hk => hk.2) (.int .i64 1)) (fun _ hk => hk.2) (.int .i64 0)) (fun _ hk => hk.1)⟩, ⟨by (with_reducible repeat (first | apply Kd.V_alloc | apply Kd.V_drewN | apply Kd.V_drew)); exact Kd.V_mono (Kd.V_far (p := ⟨gb418, 2, none⟩) (Kd.V_far (p := ⟨gb418, 1, none⟩) (Kd.V_far (p := ⟨gb418, 0, none⟩) (Kd.V_mono HO410.out (fun k_ hk => (⟨hk, hk.2⟩ : _ ∧ k_ ≠ gb418))) (fun _ hk => hk.2) (.slice Ao41 y415.length co41)) (fun _ hk => hk.2) (.int .i64 1)) (fun _ hk => hk.2) (.int .i64 0)) (fun _ hk => ⟨hk.1.1.2, ⟨hk.1.1.1.1.1, ⟨hk.1.1.1.1.2, ⟨hk.1.1.1.2, hk.1.2⟩⟩⟩⟩)⟩, ⟨by (with_reducible repeat (first | apply Kd.V_alloc | apply Kd.V_drewN | apply Kd.V_drew)); exact Kd.V_mono (Kd.V_far (p := ⟨gb418, 2, none⟩) (Kd.V_far (p := ⟨gb418, 1, none⟩) (Kd.V_far (p := ⟨gb418, 0, none⟩) (Kd.V_mono HO413.out (fun k_ hk => (⟨hk, hk.2⟩ : _ ∧ k_ ≠ gb418))) (fun _ hk => hk.2) (.slice Ao41 y415.length co41)) (fun _ hk => hk.2) (.int .i64 1)) (fun _ hk => hk.2) (.int .i64 0)) (fun _ hk => ⟨hk.1.1.2, ⟨hk.1.1.1.1.1, ⟨hk.1.1.1.1.2, ⟨hk.1.1.1.2, hk.1.2⟩⟩⟩⟩)⟩, ⟨by (with_reducible repeat (first | apply Kd.R_alloc | apply Kd.R_drewN | apply Kd.R_drew)); exact Kd.R_mono (Kd.R_far (p := ⟨gb418, 2, none⟩) (Kd.R_far (p := ⟨gb418, 1, none⟩) (Kd.R_far (p := ⟨gb418, 0, none⟩) (Kd.R_types HO417.out BK418.out (by decide)) (fun _ hk => hk.2) (.slice Ao41 y415.length co41)) (fun _ hk => hk.2) (.int .i64 1)) (fun _ hk => hk.2) (.int .i64 0)) (fun _ hk => trivial)⟩, ⟨by (with_reducible repeat (first | refine blk_drewN ?_ _ | refine blk_drew ?_ | refine blk_alloc ?_ _)); refine blk_far ?_ NB399_418.out _; (with_reducible repeat (first | refine blk_drewN ?_ _ | refine blk_drew ?_ | refine blk_alloc ?_ _)); refine blk_far ?_ NB399_418.out _; (with_reducible repeat (first | refine blk_drewN ?_ _ | refine blk_drew ?_ | refine blk_alloc ?_ _)); refine blk_far ?_ NB399_418.out _; (with_reducible repeat (first | refine blk_drewN ?_ _ | refine blk_drew ?_ | refine blk_alloc ?_ _)); exact BK399.out⟩, ⟨by (with_reducible repeat (first | refine blk_drewN ?_ _ | refine blk_drew ?_ | refine blk_alloc ?_ _)); refine blk_far ?_ NB407_418.out _; (with_reducible repeat (first | refine blk_drewN ?_ _ | refine blk_drew ?_ | refine blk_alloc ?_ _)); refine blk_far ?_ NB407_418.out _; (with_reducible repeat (first | refine blk_drewN ?_ _ | refine blk_drew ?_ | refine blk_alloc ?_ _)); refine blk_far ?_ NB407_418.out _; (with_reducible repeat (first | refine blk_drewN ?_ _ | refine blk_drew ?_ | refine blk_alloc ?_ _)); exact BK407.out⟩, ⟨by (with_reducible repeat (first | refine blk_drewN ?_ _ | refine blk_drew ?_ | refine blk_alloc ?_ _)); refine blk_far ?_ NB414_418.out _; (with_reducible repeat (first | refine blk_drewN ?_ _ | refine blk_drew ?_ | refine blk_alloc ?_ _)); refine blk_far ?_ NB414_418.out _; (with_reducible repeat (first | refine blk_drewN ?_ _ | refine blk_drew ?_ | refine blk_alloc ?_ _)); refine blk_far ?_ NB414_418.out _; (with_reducible repeat (first | refine blk_drewN ?_ _ | refine blk_drew ?_ | refine blk_alloc ?_ _)); exact BK414.out⟩, ⟨by (with_reducible repeat (first | refine blk_drewN ?_ _ | refine blk_drew ?_ | refine blk_alloc ?_ _)); refine blk_put (cs := #[.slice Ao41 y415.length co41, .int .i64 1, .int .i64 0]) ?_ 2 _ rfl; (with_reducible repeat (first | refine blk_drewN ?_ _ | refine blk_drew ?_ | refine blk_alloc ?_ _)); refine blk_put (cs := #[.slice Ao41 y415.length co41, .int .i64 0, .int .i64 0]) ?_ 1 _ rfl; (with_reducible repeat (first | refine blk_drewN ?_ _ | refine blk_drew ?_ | refine blk_alloc ?_ _)); refine blk_put (cs := #[.slice none 0 0, .int .i64 0, .int .i64 0]) ?_ 0 _ rfl; (with_reducible repeat (first | refine blk_drewN ?_ _ | refine blk_drew ?_ | refine blk_alloc ?_ _)); exact BK418.out⟩, ⟨by repeat (first | (with_reducible first | exact HB.out | apply below_alloc | apply pw_below_drewN | apply below_drew1 | refine below_set ?_ GE399.out | refine below_set ?_ GE407.out | refine below_set ?_ GE414.out | refine below_set ?_ GE418.out) | exact HB.out)⟩⟩
      case round =>
        clear H'
        try clear c1
        try clear c2
        try clear p2
        try clear c3
        try clear c4
        try clear c5
        try clear c5b0
        try clear p6
        try clear c10
        try clear c13
        try clear c18
        try clear c19
        try clear c20
        try clear c27
        try clear c35
        try clear c36
        try clear c43
        try clear c44
        try clear c45
        try clear hcz11_0
        try clear hcz11_1
        try clear hcz14_0
        try clear hcz14_1
        try clear hcz20_0
        try clear hcz20_1
        try clear hcz22_0
        try clear hcz22_1
        try clear hcz22_2
        try clear hcz28_0
        try clear hcz28_1
        try clear hcz31_0
        try clear hcz31_1
        try clear hcz37_0
        try clear hcz37_1
        try clear hcz46_0
        try clear hcz46_1
        try clear hcz46_2
        try clear hfz11_0
        try clear hfz11_1
        try clear hfz14_0
        try clear hfz14_1
        try clear hfz20_0
        try clear hfz20_1
        try clear hfz22_0
        try clear hfz22_1
        try clear hfz22_2
        try clear hfz28_0
        try clear hfz28_1
        try clear hfz31_0
        try clear hfz31_1
        try clear hfz37_0
        try clear hfz37_1
        try clear hfz46_0
        try clear hfz46_1
        try clear hfz46_2
        obtain ⟨x9_1, x419000_1, x419002_1, u419000, rfl, HA, HK1, HO_408000, HO_408001, HO_415000, HO_415001, HO_419000, BK399, BK407, BK414, BK418, HB⟩ := hrel
        cases gk with
        | zero => exact absurd HA.out (by simp [spec_MachOf.l0])
        | succ k1 =>
          have H := HA.out
          clear HA
          simp only [spec_MachOf.l0] at H
          by_cases c47 : x9_1 < (wrap64 ((t408.length : Int) + (t411.length : Int)))
          · rw [if_pos c47] at H
            have c47b0 : decide (x9_1 < (wrap64 ((t408.length : Int) + (t411.length : Int)))) = true := decide_eq_true c47
            clear c47
            by_cases c48 : (wrap64 (x9_1 + 1)) = (wrap64 ((t408.length : Int) + (t411.length : Int)))
            · rw [if_pos c48] at H
              have c48b0 : ((wrap64 (x9_1 + 1)) == (wrap64 ((t408.length : Int) + (t411.length : Int)))) = true := beq_iff_eq.mpr c48
              have c48b1 : ((wrap64 (x9_1 + 1)) != (wrap64 ((t408.length : Int) + (t411.length : Int)))) = false := bne_eq_false_iff_eq.mpr c48
              clear c48
              obtain ⟨ji49, hji49⟩ : ∃ j_ : Int, (shl .i64 1 (t408.length : Int)) = j_ := ⟨_, rfl⟩
              replace H : (if x419000_1.length < 17592186044416 then ((spec_l1Has.f t408 t411 x9_1).bind fun t422 => ((spec_l1Bit.f t422).bind fun t423 => (if 0 ≤ x9_1 then (spec_MachOf.l0 k1 (wrap64 ((t408.length : Int) + (t411.length : Int))) (wrap64 (x9_1 + 1)) t408 t411 (x419000_1 ++ [ji49]) 1 (Go.bits .or .i64 x419002_1 (shl .i64 t423 x9_1))) else (none)))) else (none)) = some (r1, r2, r3, r4) := by first | (rw [hji49] at H; exact H) | (simp only [hji49] at H ⊢; exact H)
              have hji49_ : (IntKind.i64.wrap (1 * 2 ^ min (t408.length : Int).toNat 64)) = ji49 := hji49
              have hji49z : (t408.length : Int) ≤ 64 → (IntKind.i64.wrap (1 * 2 ^ (t408.length : Int).toNat)) = ji49 := shl_small hji49
              have hji49p : (IntKind.i64.wrap (1 * 2 ^ min t408.length 64)) = ji49 := hji49_
              have hji49q : (t408.length : Int) ≤ 64 → (IntKind.i64.wrap (1 * 2 ^ t408.length)) = ji49 := hji49z
              have hji49r : (IntKind.i64.wrap (2 ^ min t408.length 64)) = ji49 := by have h_ := hji49p; rw [Int.one_mul] at h_; exact h_
              have hji49s : (t408.length : Int) ≤ 64 → (IntKind.i64.wrap (2 ^ t408.length)) = ji49 := fun hle_ => by have h_ := hji49q hle_; rw [Int.one_mul] at h_; exact h_
              have hji49u : (IntKind.i64.wrap (2 ^ min (t408.length : Int).toNat 64)) = ji49 := by have h_ := hji49_; rw [Int.one_mul] at h_; exact h_
              have hji49v : (t408.length : Int) ≤ 64 → (IntKind.i64.wrap (2 ^ (t408.length : Int).toNat)) = ji49 := fun hle_ => by have h_ := hji49z hle_; rw [Int.one_mul] at h_; exact h_
              have hji49y : (wrap64 (1 * 2 ^ min (t408.length : Int).toNat 64)) = ji49 := (i64_w _).symm.trans hji49_
              have hji49x : (t408.length : Int) ≤ 64 → (wrap64 (1 * 2 ^ (t408.length : Int).toNat)) = ji49 := fun h_ => (i64_w _).symm.trans (hji49z h_)
              by_cases c50 : x419000_1.length < 17592186044416
              · rw [if_pos c50] at H
                have LMc50 := Aside0.mk c50
                clear c50
                obtain ⟨y419, hy419⟩ : ∃ y_ : List Int, y_ = (x419000_1 ++ [ji49]) := ⟨_, rfl⟩
                replace H : ((spec_l1Has.f t408 t411 x9_1).bind fun t422 => ((spec_l1Bit.f t422).bind fun t423 => (if 0 ≤ x9_1 then (spec_MachOf.l0 k1 (wrap64 ((t408.length : Int) + (t411.length : Int))) (wrap64 (x9_1 + 1)) t408 t411 y419 1 (Go.bits .or .i64 x419002_1 (shl .i64 t423 x9_1))) else (none)))) = some (r1, r2, r3, r4) := by first | (rw [hy419]; with_reducible exact H) | (have H2_ := (Option.bind_some _ _).symm.trans H; rw [hy419]; with_reducible exact H2_) | (have H2_ := (Option.bind_some _ _).symm.trans H; with_reducible exact H2_) | with_reducible exact H | (rw [hy419]; exact H) | exact H
                have Ny419 := Aside0.mk hy419
                clear hy419
                replace H := Option.bind_eq_some_iff.mp H
                obtain ⟨t422, A510, H⟩ := H
                replace H : ((spec_l1Bit.f t422).bind fun t423 => (if 0 ≤ x9_1 then (spec_MachOf.l0 k1 (wrap64 ((t408.length : Int) + (t411.length : Int))) (wrap64 (x9_1 + 1)) t408 t411 y419 1 (Go.bits .or .i64 x419002_1 (shl .i64 t423 x9_1))) else (none))) = some (r1, r2, r3, r4) := H
                have A51 := Aside0.mk A510
                clear A510
                replace H := Option.bind_eq_some_iff.mp H
                obtain ⟨t423, A520, H⟩ := H
                replace H : (if 0 ≤ x9_1 then (spec_MachOf.l0 k1 (wrap64 ((t408.length : Int) + (t411.length : Int))) (wrap64 (x9_1 + 1)) t408 t411 y419 1 (Go.bits .or .i64 x419002_1 (shl .i64 t423 x9_1))) else (none)) = some (r1, r2, r3, r4) := H
                have A52 := Aside0.mk A520
                clear A520
                by_cases c53 : 0 ≤ x9_1
                · rw [if_pos c53] at H
                  have c53b0 := eq_true c53
                  have c53b1 : decide (0 ≤ x9_1) = true := decide_eq_true c53
                  clear c53
                  obtain ⟨ji54, hji54⟩ : ∃ j_ : Int, (shl .i64 t423 x9_1) = j_ := ⟨_, rfl⟩
                  replace H : (spec_MachOf.l0 k1 (wrap64 ((t408.length : Int) + (t411.length : Int))) (wrap64 (x9_1 + 1)) t408 t411 y419 1 (Go.bits .or .i64 x419002_1 (ji54))) = some (r1, r2, r3, r4) := by first | (rw [hji54] at H; exact H) | (simp only [hji54] at H ⊢; exact H)
                  (try rw [hji54] at A51)
                  (try rw [hji54] at A52)
                  have hji54_ : (IntKind.i64.wrap (t423 * 2 ^ min x9_1.toNat 64)) = ji54 := hji54
                  have hji54z : x9_1 ≤ 64 → (IntKind.i64.wrap (t423 * 2 ^ x9_1.toNat)) = ji54 := shl_small hji54
                  have hji54y : (wrap64 (t423 * 2 ^ min x9_1.toNat 64)) = ji54 := (i64_w _).symm.trans hji54_
                  have hji54x : x9_1 ≤ 64 → (wrap64 (t423 * 2 ^ x9_1.toNat)) = ji54 := fun h_ => (i64_w _).symm.trans (hji54z h_)
                  have H' := Aside0.mk H
                  clear H
                  have hnb55 := NB414_399.out
                  have hnc55 := NB399_414.out
                  have hnb56 := NB414_407.out
                  have hnc56 := NB407_414.out
                  have hnb57 := NB414_418.out
                  have hnc57 := NB418_414.out
                  have hcz58_0 : wr.cell? ⟨gb414, 0, none⟩ = some (.slice Ao34 t408.length co34) := (blk_cell BK414.out 0).trans rfl
                  have hcz58_1 : wr.cell? ⟨gb414, 1, none⟩ = some (.slice Ao38 t411.length co38) := (blk_cell BK414.out 1).trans rfl
                  have hfz58_0 := blk_frozen BK414.out 0
                  have hfz58_1 := blk_frozen BK414.out 1
                  try go_wp2
                  have n0_ := Aside0.mk (Kd.R_drew HO_408000.out)
                  have n1_ := Aside0.mk (Kd.R_drew HO_408001.out)
                  have n2_ := Aside0.mk (Kd.V_drew HO_415000.out)
                  have n3_ := Aside0.mk (Kd.V_drew HO_415001.out)
                  have n4_ := Aside0.mk (Kd.R_drew HO_419000.out)
                  have n5_ := Aside0.mk (blk_drew BK399.out)
                  have n6_ := Aside0.mk (blk_drew BK407.out)
                  have n7_ := Aside0.mk (blk_drew BK414.out)
                  have n8_ := Aside0.mk (blk_drew BK418.out)
                  have n9_ := Aside0.mk (below_drew1 HB.out)
                  clear HO_408000
                  clear HO_408001
                  clear HO_415000
                  clear HO_415001
                  clear HO_419000
                  clear BK399
                  clear BK407
                  clear BK414
                  clear BK418
                  clear HB
                  have HO_408000 := n0_
                  have HO_408001 := n1_
                  have HO_415000 := n2_
                  have HO_415001 := n3_
                  have HO_419000 := n4_
                  have BK399 := n5_
                  have BK407 := n6_
                  have BK414 := n7_
                  have BK418 := n8_
                  have HB := n9_
                  clear n0_ n1_ n2_ n3_ n4_ n5_ n6_ n7_ n8_ n9_
                  refine start_ (n := 8) (S := fun w' => w'.cell? ⟨gb418, 0, none⟩ = some (u419000) ∧ w'.cell? ⟨gb418, 1, none⟩ = some (.int .i64 1) ∧ w'.cell? ⟨gb418, 2, none⟩ = some (.int .i64 x419002_1)) (ds := [7]) #[false, false, false, false, false, false, false, false] (by kernel_rfl) rfl rfl ⟨(blk_cell BK418.out 0).trans rfl, (blk_cell BK418.out 1).trans rfl, (blk_cell BK418.out 2).trans rfl⟩ (fun hHeld => ?_); refine with_tabW spec_MachOf.tab15 spec_MachOf.bits15 (fun HT_ HW_ => ?_)
                  generalize wr.drew = w59 at HO_408000 HO_408001 HO_415000 HO_415001 HO_419000 BK399 BK407 BK414 BK418 HB hHeld ⊢
                  refine pure_ (i := 0) (N := some 46) (v := ?_) (a' := ?_) #[true, false, false, false, false, false, false, false] rfl rfl (any_of HT_.out (by kernel_rfl)) (fun _ _ _ h => h) (Or.inl ⟨by rfl, ?_⟩) ?_ ?_
                  rotate_left
                  · intro w'
                    go_simp
                    with_reducible rfl
                  rotate_left
                  · simp only [Act.put, List.setIfInBounds_toArray, List.set_cons_zero, List.set_cons_succ, i64_w, i32_w]
                    rfl
                  refine pure_ (i := 2) (N := some 48) (v := ?_) (a' := ?_) #[true, false, true, false, false, false, false, false] rfl rfl (any_of HT_.out (by kernel_rfl)) (fun _ _ _ h => h) (Or.inl ⟨by rfl, ?_⟩) ?_ ?_
                  rotate_left
                  · intro w'
                    go_simp
                    with_reducible rfl
                  rotate_left
                  · simp only [Act.put, List.setIfInBounds_toArray, List.set_cons_zero, List.set_cons_succ, i64_w, i32_w]
                    rfl
                  refine pure_ (i := 3) (N := some 49) (v := ?_) (a' := ?_) #[true, false, true, true, false, false, false, false] rfl rfl (any_of HT_.out (by kernel_rfl)) (fun _ _ _ h => h) (Or.inl ⟨by rfl, ?_⟩) ?_ ?_
                  rotate_left
                  · intro w'
                    go_simp
                    with_reducible rfl
                  rotate_left
                  · simp only [Act.put, List.setIfInBounds_toArray, List.set_cons_zero, List.set_cons_succ, i64_w, i32_w]
                    rfl
                  refine take_ (i := 1) (N := some 47) (v := ?_) (a' := ?_) #[true, true, true, true, false, false, false, false] rfl rfl (take_ofW HT_.out HW_.out (by kernel_rfl)) (fun _ _ _ h => h) (Or.inl ⟨by rfl, ?_⟩) hHeld ?_ ?_
                  rotate_left
                  · rintro w' ⟨s0, s1, s2⟩
                    go_simp
                    with_reducible rfl
                  rotate_left
                  · simp only [Act.put, List.setIfInBounds_toArray, List.set_cons_zero, List.set_cons_succ, i64_w, i32_w]
                    rfl
                  refine one_ (i := 4) (N := some 50) #[true, true, true, true, true, false, false, false] rfl rfl (one_of HT_.out (by kernel_rfl)) (by decide) (fun K hK => ?_)
                  refine value_ (w1 := ?_) (v := ?_) (by rfl) rfl ?_ ?_
                  rotate_left 2
                  · go_simp
                    constructor
                    · rfl
                    · rfl
                  refine hK.out _ _ ⟨(blk_cell (blk_alloc BK418.out _) 0).trans rfl, (blk_cell (blk_alloc BK418.out _) 1).trans rfl, (blk_cell (blk_alloc BK418.out _) 2).trans rfl⟩ (fun hHeld => ?_)
                  clear hK K
                  refine norm_ (a' := ?_) ?_ ?_
                  rotate_left
                  · show Act.put _ (some 50) _ = _
                    simp only [Act.put, List.setIfInBounds_toArray, List.set_cons_zero, List.set_cons_succ, i64_w, i32_w]
                    rfl
                  refine one_ (i := 5) (N := some 51) #[true, true, true, true, true, true, false, false] rfl rfl (one_of HT_.out (by kernel_rfl)) (by decide) (fun K hK => ?_)
                  refine Kd.R_append_step (Kd.int .i64) (w0 := w) w.heap.size (by rfl) (.tmp 47) (.tmp 50) 33 3 (.int .i64 0) 8 rfl Try.underlying33 info3 rfl (by decide) (by omega) u419000 x419000_1 ji49 [.int .i64 ji49] (fun _ => True) (fun _ => False) rfl rfl ?aP (fun _ hk => hk.elim) ?aF ?aO ?aB ?aS ?aL ?_
                  (case aP => exact rfl)
                  (case aB => exact (by repeat (first | (with_reducible first | exact HB.out | apply below_alloc | apply pw_below_drewN | apply below_drew1 | refine below_set ?_ GE399.out | refine below_set ?_ GE407.out | refine below_set ?_ GE414.out | refine below_set ?_ GE418.out) | exact HB.out)))
                  (case aF => exact (fun _ _ => trivial))
                  (case aO => exact (by (with_reducible repeat (first | apply Kd.R_alloc | apply Kd.R_drewN | apply Kd.R_drew)); exact HO_419000.out))
                  (case aS => exact (below_size (by repeat (first | (with_reducible first | exact HB.out | apply below_alloc | apply pw_below_drewN | apply below_drew1 | refine below_set ?_ GE399.out | refine below_set ?_ GE407.out | refine below_set ?_ GE414.out | refine below_set ?_ GE418.out) | exact HB.out))))
                  (case aL => have := LMc50.out; omega)
                  intro v420 w60 ho hb hg hat
                  rw [← Ny419.out] at ho
                  have n0_ := Aside0.mk (Kd.R_over' (by (with_reducible repeat (first | apply Kd.R_alloc | apply Kd.R_drewN | apply Kd.R_drew)); exact HO_408000.out) (Kd.R_typed (by (with_reducible repeat (first | apply Kd.R_alloc | apply Kd.R_drewN | apply Kd.R_drew)); exact HO_419000.out)) (by decide) hg)
                  have n1_ := Aside0.mk (Kd.R_over' (by (with_reducible repeat (first | apply Kd.R_alloc | apply Kd.R_drewN | apply Kd.R_drew)); exact HO_408001.out) (Kd.R_typed (by (with_reducible repeat (first | apply Kd.R_alloc | apply Kd.R_drewN | apply Kd.R_drew)); exact HO_419000.out)) (by decide) hg)
                  have n2_ := Aside0.mk (Kd.V_afterv (ok := (fun k_ => k_ ≠ gb399 ∧ k_ ≠ gb407 ∧ k_ ≠ gb414 ∧ k_ ≠ gb418)) (by (with_reducible repeat (first | apply Kd.V_alloc | apply Kd.V_drewN | apply Kd.V_drew)); exact Kd.V_mono HO_415000.out (fun _ hk => ⟨⟨hk.2.1, ⟨hk.2.2.1, ⟨hk.2.2.2.1, hk.2.2.2.2⟩⟩⟩, hk.1⟩)) hg hat)
                  have n3_ := Aside0.mk (Kd.V_afterv (ok := (fun k_ => k_ ≠ gb399 ∧ k_ ≠ gb407 ∧ k_ ≠ gb414 ∧ k_ ≠ gb418)) (by (with_reducible repeat (first | apply Kd.V_alloc | apply Kd.V_drewN | apply Kd.V_drew)); exact Kd.V_mono HO_415001.out (fun _ hk => ⟨⟨hk.2.1, ⟨hk.2.2.1, ⟨hk.2.2.2.1, hk.2.2.2.2⟩⟩⟩, hk.1⟩)) hg hat)
                  have n4_ := Aside0.mk (blk_grown (g := gb399) (o := .cells #[.slice none 0 0, .int .i64 0, .int .i64 0] 35 (0, 0)) (by (with_reducible repeat (first | refine blk_drewN ?_ _ | refine blk_drew ?_ | refine blk_alloc ?_ _)); exact BK399.out) hg (Kd.R_ne HO_419000.out BK399.out (by decide)))
                  have n5_ := Aside0.mk (blk_grown (g := gb407) (o := .cells #[.slice Ao26 t400.length co26, .slice Ao29 t403.length co29] 46 (0, 0)) (by (with_reducible repeat (first | refine blk_drewN ?_ _ | refine blk_drew ?_ | refine blk_alloc ?_ _)); exact BK407.out) hg (Kd.R_ne HO_419000.out BK407.out (by decide)))
                  have n6_ := Aside0.mk (blk_grown (g := gb414) (o := .cells #[.slice Ao34 t408.length co34, .slice Ao38 t411.length co38] 46 (0, 0)) (by (with_reducible repeat (first | refine blk_drewN ?_ _ | refine blk_drew ?_ | refine blk_alloc ?_ _)); exact BK414.out) hg (Kd.R_ne HO_419000.out BK414.out (by decide)))
                  have n7_ := Aside0.mk (blk_grown (g := gb418) (o := .cells #[u419000, .int .i64 1, .int .i64 x419002_1] 35 (0, 0)) (by (with_reducible repeat (first | refine blk_drewN ?_ _ | refine blk_drew ?_ | refine blk_alloc ?_ _)); exact BK418.out) hg (Kd.R_ne HO_419000.out BK418.out (by decide)))
                  have n8_ := Aside0.mk (hb)
                  have n9_ := Aside0.mk (ho)
                  clear HO_408000
                  clear HO_408001
                  clear HO_415000
                  clear HO_415001
                  clear BK399
                  clear BK407
                  clear BK414
                  clear BK418
                  clear HB
                  clear HO_419000
                  have HO_408000 := n0_
                  have HO_408001 := n1_
                  have HO_415000 := n2_
                  have HO_415001 := n3_
                  have BK399 := n4_
                  have BK407 := n5_
                  have BK414 := n6_
                  have BK418 := n7_
                  have HB := n8_
                  have HO421 := n9_
                  clear n0_ n1_ n2_ n3_ n4_ n5_ n6_ n7_ n8_ n9_
                  clear ho hb hg hat
                  obtain ⟨Ao61, co61, eo61⟩ := Kd.R_slice HO421.out
                  (first | subst eo61 | (injection eo61 with f1_ f2_ f3_; have f4_ := f1_.symm; have f5_ := f3_.symm; clear f1_ f2_ f3_; subst f4_; subst f5_))
                  refine hK.out _ _ ⟨(blk_cell BK418.out 0).trans rfl, (blk_cell BK418.out 1).trans rfl, (blk_cell BK418.out 2).trans rfl⟩ (fun hHeld => ?_)
                  clear hK K
                  refine norm_ (a' := ?_) ?_ ?_
                  rotate_left
                  · show Act.put _ (some 51) _ = _
                    simp only [Act.put, List.setIfInBounds_toArray, List.set_cons_zero, List.set_cons_succ, i64_w, i32_w]
                    rfl
                  refine pure_ (i := 6) (N := some 52) (v := ?_) (a' := ?_) #[true, true, true, true, true, true, true, false] rfl rfl (any_of HT_.out (by kernel_rfl)) (fun _ _ _ h => h) (Or.inl ⟨by rfl, ?_⟩) ?_ ?_
                  rotate_left
                  · intro w'
                    go_simp
                    with_reducible rfl
                  rotate_left
                  · simp only [Act.put, List.setIfInBounds_toArray, List.set_cons_zero, List.set_cons_succ, i64_w, i32_w]
                    rfl
                  refine last_ (i := 7) (N := none) #[true, true, true, true, true, true, true, true] rfl rfl (one_of HT_.out (by kernel_rfl)) (by decide) (fun K hK => ?_)
                  have hs62 : w60.cell? ⟨gb418, 0, none⟩ = some (u419000) := (blk_cell BK418.out 0).trans rfl
                  have hfs62 := blk_frozen BK418.out 0
                  have hns62_0 := NB399_418.out
                  have hns62_1 := NB407_418.out
                  have hns62_2 := NB414_418.out
                  have hms62_0 := NB418_399.out
                  have hms62_1 := NB418_407.out
                  have hms62_2 := NB418_414.out
                  refine skip_ (w1 := ?_) (by rfl) rfl ?_ ?_
                  rotate_left
                  · go_simp
                    rfl
                  refine hK.out _ _ ?_
                  clear hK K
                  refine done_ (done_of HT_.out (by kernel_rfl)) ?_
                  try go_wp2
                  have n0_ : Aside0 (Kd.R Kd.bool 4 (w60.setCell ⟨gb418, 0, none⟩ (.slice Ao61 y419.length co61)) w.heap.size (fun k_ => some k_ ≠ (.slice Ao29 t403.length co29 : Value).ownBlock) (.slice Ao26 t400.length co26) t400) := ⟨by (with_reducible repeat (first | apply Kd.R_alloc | apply Kd.R_drewN | apply Kd.R_drew)); exact Kd.R_mono (Kd.R_far (p := ⟨gb418, 0, none⟩) (Kd.R_types HO_408000.out BK418.out (by decide)) (fun _ hk => hk.2) (.slice Ao61 y419.length co61)) (fun _ hk => hk.1)⟩
                  have n1_ : Aside0 (Kd.R Kd.bool 4 (w60.setCell ⟨gb418, 0, none⟩ (.slice Ao61 y419.length co61)) w.heap.size (fun k_ => some k_ ≠ (.slice Ao26 t400.length co26 : Value).ownBlock) (.slice Ao29 t403.length co29) t403) := ⟨by (with_reducible repeat (first | apply Kd.R_alloc | apply Kd.R_drewN | apply Kd.R_drew)); exact Kd.R_mono (Kd.R_far (p := ⟨gb418, 0, none⟩) (Kd.R_types HO_408001.out BK418.out (by decide)) (fun _ hk => hk.2) (.slice Ao61 y419.length co61)) (fun _ hk => hk.1)⟩
                  have n2_ : Aside0 (Kd.V Kd.bool 4 (w60.setCell ⟨gb418, 0, none⟩ (.slice Ao61 y419.length co61)) w.heap.size (fun k_ => some k_ ≠ (.slice Ao61 y419.length co61 : Value).ownBlock ∧ k_ ≠ gb399 ∧ k_ ≠ gb407 ∧ k_ ≠ gb414 ∧ k_ ≠ gb418) (.slice Ao34 t408.length co34) t408) := ⟨by (with_reducible repeat (first | apply Kd.V_alloc | apply Kd.V_drewN | apply Kd.V_drew)); exact Kd.V_mono (Kd.V_far (p := ⟨gb418, 0, none⟩) (Kd.V_mono HO_415000.out (fun k_ hk => (⟨hk, hk.1.2.2.2⟩ : _ ∧ k_ ≠ gb418))) (fun _ hk => hk.2) (.slice Ao61 y419.length co61)) (fun _ hk => ⟨hk.1.2, ⟨hk.1.1.1, ⟨hk.1.1.2.1, ⟨hk.1.1.2.2.1, hk.1.1.2.2.2⟩⟩⟩⟩)⟩
                  have n3_ : Aside0 (Kd.V Kd.bool 4 (w60.setCell ⟨gb418, 0, none⟩ (.slice Ao61 y419.length co61)) w.heap.size (fun k_ => some k_ ≠ (.slice Ao61 y419.length co61 : Value).ownBlock ∧ k_ ≠ gb399 ∧ k_ ≠ gb407 ∧ k_ ≠ gb414 ∧ k_ ≠ gb418) (.slice Ao38 t411.length co38) t411) := ⟨by (with_reducible repeat (first | apply Kd.V_alloc | apply Kd.V_drewN | apply Kd.V_drew)); exact Kd.V_mono (Kd.V_far (p := ⟨gb418, 0, none⟩) (Kd.V_mono HO_415001.out (fun k_ hk => (⟨hk, hk.1.2.2.2⟩ : _ ∧ k_ ≠ gb418))) (fun _ hk => hk.2) (.slice Ao61 y419.length co61)) (fun _ hk => ⟨hk.1.2, ⟨hk.1.1.1, ⟨hk.1.1.2.1, ⟨hk.1.1.2.2.1, hk.1.1.2.2.2⟩⟩⟩⟩)⟩
                  have n4_ : Aside0 (Kd.R (Kd.int .i64) 3 (w60.setCell ⟨gb418, 0, none⟩ (.slice Ao61 y419.length co61)) w.heap.size (fun _ => True) (.slice Ao61 y419.length co61) y419) := ⟨by (with_reducible repeat (first | apply Kd.R_alloc | apply Kd.R_drewN | apply Kd.R_drew)); exact Kd.R_mono (Kd.R_far (p := ⟨gb418, 0, none⟩) (Kd.R_types HO421.out BK418.out (by decide)) (fun _ hk => hk.2) (.slice Ao61 y419.length co61)) (fun _ hk => trivial)⟩
                  have n5_ : Aside0 ((w60.setCell ⟨gb418, 0, none⟩ (.slice Ao61 y419.length co61)).heap[gb399]? = some (.cells #[.slice none 0 0, .int .i64 0, .int .i64 0] 35 (0, 0))) := ⟨by (with_reducible repeat (first | refine blk_drewN ?_ _ | refine blk_drew ?_ | refine blk_alloc ?_ _)); refine blk_far ?_ NB399_418.out _; (with_reducible repeat (first | refine blk_drewN ?_ _ | refine blk_drew ?_ | refine blk_alloc ?_ _)); exact BK399.out⟩
                  have n6_ : Aside0 ((w60.setCell ⟨gb418, 0, none⟩ (.slice Ao61 y419.length co61)).heap[gb407]? = some (.cells #[.slice Ao26 t400.length co26, .slice Ao29 t403.length co29] 46 (0, 0))) := ⟨by (with_reducible repeat (first | refine blk_drewN ?_ _ | refine blk_drew ?_ | refine blk_alloc ?_ _)); refine blk_far ?_ NB407_418.out _; (with_reducible repeat (first | refine blk_drewN ?_ _ | refine blk_drew ?_ | refine blk_alloc ?_ _)); exact BK407.out⟩
                  have n7_ : Aside0 ((w60.setCell ⟨gb418, 0, none⟩ (.slice Ao61 y419.length co61)).heap[gb414]? = some (.cells #[.slice Ao34 t408.length co34, .slice Ao38 t411.length co38] 46 (0, 0))) := ⟨by (with_reducible repeat (first | refine blk_drewN ?_ _ | refine blk_drew ?_ | refine blk_alloc ?_ _)); refine blk_far ?_ NB414_418.out _; (with_reducible repeat (first | refine blk_drewN ?_ _ | refine blk_drew ?_ | refine blk_alloc ?_ _)); exact BK414.out⟩
                  have n8_ : Aside0 ((w60.setCell ⟨gb418, 0, none⟩ (.slice Ao61 y419.length co61)).heap[gb418]? = some (.cells #[.slice Ao61 y419.length co61, .int .i64 1, .int .i64 x419002_1] 35 (0, 0))) := ⟨by (with_reducible repeat (first | refine blk_drewN ?_ _ | refine blk_drew ?_ | refine blk_alloc ?_ _)); refine blk_put (cs := #[u419000, .int .i64 1, .int .i64 x419002_1]) ?_ 0 _ rfl; (with_reducible repeat (first | refine blk_drewN ?_ _ | refine blk_drew ?_ | refine blk_alloc ?_ _)); exact BK418.out⟩
                  have n9_ : Aside0 (Below w.heap.size w (w60.setCell ⟨gb418, 0, none⟩ (.slice Ao61 y419.length co61))) := ⟨by repeat (first | (with_reducible first | exact HB.out | apply below_alloc | apply pw_below_drewN | apply below_drew1 | refine below_set ?_ GE399.out | refine below_set ?_ GE407.out | refine below_set ?_ GE414.out | refine below_set ?_ GE418.out) | exact HB.out)⟩
                  (try clear HO_408000)
                  (try clear HO_408001)
                  (try clear HO_415000)
                  (try clear HO_415001)
                  (try clear HO421)
                  (try clear BK399)
                  (try clear BK407)
                  (try clear BK414)
                  (try clear BK418)
                  (try clear HB)
                  generalize (w60.setCell ⟨gb418, 0, none⟩ (.slice Ao61 y419.length co61)) = w63 at n0_ n1_ n2_ n3_ n4_ n5_ n6_ n7_ n8_ n9_ ⊢
                  have HO_408000 := n0_
                  have HO_408001 := n1_
                  have HO_415000 := n2_
                  have HO_415001 := n3_
                  have HO421 := n4_
                  have BK399 := n5_
                  have BK407 := n6_
                  have BK414 := n7_
                  have BK418 := n8_
                  have HB := n9_
                  clear n0_ n1_ n2_ n3_ n4_ n5_ n6_ n7_ n8_ n9_
                  have n0_ := Aside0.mk (Kd.R_drew HO_408000.out)
                  have n1_ := Aside0.mk (Kd.R_drew HO_408001.out)
                  have n2_ := Aside0.mk (Kd.V_drew HO_415000.out)
                  have n3_ := Aside0.mk (Kd.V_drew HO_415001.out)
                  have n4_ := Aside0.mk (Kd.R_drew HO421.out)
                  have n5_ := Aside0.mk (blk_drew BK399.out)
                  have n6_ := Aside0.mk (blk_drew BK407.out)
                  have n7_ := Aside0.mk (blk_drew BK414.out)
                  have n8_ := Aside0.mk (blk_drew BK418.out)
                  have n9_ := Aside0.mk (below_drew1 HB.out)
                  clear HO_408000
                  clear HO_408001
                  clear HO_415000
                  clear HO_415001
                  clear HO421
                  clear BK399
                  clear BK407
                  clear BK414
                  clear BK418
                  clear HB
                  have HO_408000 := n0_
                  have HO_408001 := n1_
                  have HO_415000 := n2_
                  have HO_415001 := n3_
                  have HO421 := n4_
                  have BK399 := n5_
                  have BK407 := n6_
                  have BK414 := n7_
                  have BK418 := n8_
                  have HB := n9_
                  clear n0_ n1_ n2_ n3_ n4_ n5_ n6_ n7_ n8_ n9_
                  refine start_ (n := 11) (S := fun w' => w'.cell? ⟨gb418, 0, none⟩ = some (.slice Ao61 y419.length co61) ∧ w'.cell? ⟨gb418, 1, none⟩ = some (.int .i64 1) ∧ w'.cell? ⟨gb418, 2, none⟩ = some (.int .i64 x419002_1) ∧ w'.cell? ⟨gb414, 0, none⟩ = some (.slice Ao34 t408.length co34) ∧ w'.cell? ⟨gb414, 1, none⟩ = some (.slice Ao38 t411.length co38)) (ds := [10]) #[false, false, false, false, false, false, false, false, false, false, false] (by kernel_rfl) rfl rfl ⟨(blk_cell BK418.out 0).trans rfl, (blk_cell BK418.out 1).trans rfl, (blk_cell BK418.out 2).trans rfl, (blk_cell BK414.out 0).trans rfl, (blk_cell BK414.out 1).trans rfl⟩ (fun hHeld => ?_); refine with_tabW spec_MachOf.tab16 spec_MachOf.bits16 (fun HT_ HW_ => ?_)
                  generalize w63.drew = w64 at HO_408000 HO_408001 HO_415000 HO_415001 HO421 BK399 BK407 BK414 BK418 HB hHeld ⊢
                  refine pure_ (i := 0) (N := some 53) (v := ?_) (a' := ?_) #[true, false, false, false, false, false, false, false, false, false, false] rfl rfl (any_of HT_.out (by kernel_rfl)) (fun _ _ _ h => h) (Or.inl ⟨by rfl, ?_⟩) ?_ ?_
                  rotate_left
                  · intro w'
                    go_simp
                    with_reducible rfl
                  rotate_left
                  · simp only [Act.put, List.setIfInBounds_toArray, List.set_cons_zero, List.set_cons_succ, i64_w, i32_w]
                    rfl
                  refine pure_ (i := 3) (N := some 56) (v := ?_) (a' := ?_) #[true, false, false, true, false, false, false, false, false, false, false] rfl rfl (any_of HT_.out (by kernel_rfl)) (fun _ _ _ h => h) (Or.inl ⟨by rfl, ?_⟩) ?_ ?_
                  rotate_left
                  · intro w'
                    go_simp
                    with_reducible rfl
                  rotate_left
                  · simp only [Act.put, List.setIfInBounds_toArray, List.set_cons_zero, List.set_cons_succ, i64_w, i32_w]
                    rfl
                  refine pure_ (i := 6) (N := some 59) (v := ?_) (a' := ?_) #[true, false, false, true, false, false, true, false, false, false, false] rfl rfl (any_of HT_.out (by kernel_rfl)) (fun _ _ _ h => h) (Or.inl ⟨by rfl, ?_⟩) ?_ ?_
                  rotate_left
                  · intro w'
                    go_simp
                    with_reducible rfl
                  rotate_left
                  · simp only [Act.put, List.setIfInBounds_toArray, List.set_cons_zero, List.set_cons_succ, i64_w, i32_w]
                    rfl
                  refine take_ (i := 1) (N := some 54) (v := ?_) (a' := ?_) #[true, true, false, true, false, false, true, false, false, false, false] rfl rfl (take_ofW HT_.out HW_.out (by kernel_rfl)) (fun _ _ _ h => h) (Or.inl ⟨by rfl, ?_⟩) hHeld ?_ ?_
                  rotate_left
                  · rintro w' ⟨s0, s1, s2, s3, s4⟩
                    go_simp
                    with_reducible rfl
                  rotate_left
                  · simp only [Act.put, List.setIfInBounds_toArray, List.set_cons_zero, List.set_cons_succ, i64_w, i32_w]
                    rfl
                  refine take_ (i := 2) (N := some 55) (v := ?_) (a' := ?_) #[true, true, true, true, false, false, true, false, false, false, false] rfl rfl (take_ofW HT_.out HW_.out (by kernel_rfl)) (fun _ _ _ h => h) (Or.inl ⟨by rfl, ?_⟩) hHeld ?_ ?_
                  rotate_left
                  · rintro w' ⟨s0, s1, s2, s3, s4⟩
                    go_simp
                    with_reducible rfl
                  rotate_left
                  · simp only [Act.put, List.setIfInBounds_toArray, List.set_cons_zero, List.set_cons_succ, i64_w, i32_w]
                    rfl
                  refine one_ (i := 4) (N := some 57) #[true, true, true, true, true, false, true, false, false, false, false] rfl rfl (one_of HT_.out (by kernel_rfl)) (by decide) (fun K hK => ?_)
                  refine goes_ Try.func29 (by kernel_rfl) rfl #[.agg #[.slice Ao34 t408.length co34, .slice Ao38 t411.length co38], .int .i64 x9_1] (by rfl) rfl rfl (by (try simp only [List.map_toArray, List.map_cons, List.map_nil]); first | done | rfl | (simp only [List.length_drop, List.length_take]; rfl)) ?_
                  with_reducible refine (spec_l1Has.calls _ _ t408 _ _ t411 x9_1 t422 _ ?side1 ?side2 ?side3 ?side4 A51.out).mono ?_
                  (case side1 => repeat (first | exact (Kd.V_reads' HO_415000.out).2.2 | (with_reducible refine Kd.C_alloc ?_ _) | (with_reducible refine Kd.C_drewN ?_ _) | (with_reducible refine Kd.C_drew ?_)))
                  (case side2 => exact (Kd.V_reads' HO_415000.out).2.1)
                  (case side3 => repeat (first | exact (Kd.V_reads' HO_415001.out).2.2 | (with_reducible refine Kd.C_alloc ?_ _) | (with_reducible refine Kd.C_drewN ?_ _) | (with_reducible refine Kd.C_drew ?_)))
                  (case side4 => exact (Kd.V_reads' HO_415001.out).2.1)
                  rintro e w65 ⟨rfl, hb⟩
                  refine ⟨_, rfl, ?_⟩
                  have n0_ := Aside0.mk (Kd.R_below (by (with_reducible repeat (first | apply Kd.R_alloc | apply Kd.R_drewN | apply Kd.R_drew)); exact HO_408000.out) hb)
                  have n1_ := Aside0.mk (Kd.R_below (by (with_reducible repeat (first | apply Kd.R_alloc | apply Kd.R_drewN | apply Kd.R_drew)); exact HO_408001.out) hb)
                  have n2_ := Aside0.mk (Kd.V_below (by (with_reducible repeat (first | apply Kd.V_alloc | apply Kd.V_drewN | apply Kd.V_drew)); exact HO_415000.out) hb)
                  have n3_ := Aside0.mk (Kd.V_below (by (with_reducible repeat (first | apply Kd.V_alloc | apply Kd.V_drewN | apply Kd.V_drew)); exact HO_415001.out) hb)
                  have n4_ := Aside0.mk (Kd.R_below (by (with_reducible repeat (first | apply Kd.R_alloc | apply Kd.R_drewN | apply Kd.R_drew)); exact HO421.out) hb)
                  have n5_ := Aside0.mk (blk_below (g := gb399) (o := .cells #[.slice none 0 0, .int .i64 0, .int .i64 0] 35 (0, 0)) (by (with_reducible repeat (first | refine blk_drewN ?_ _ | refine blk_drew ?_ | refine blk_alloc ?_ _)); exact BK399.out) hb)
                  have n6_ := Aside0.mk (blk_below (g := gb407) (o := .cells #[.slice Ao26 t400.length co26, .slice Ao29 t403.length co29] 46 (0, 0)) (by (with_reducible repeat (first | refine blk_drewN ?_ _ | refine blk_drew ?_ | refine blk_alloc ?_ _)); exact BK407.out) hb)
                  have n7_ := Aside0.mk (blk_below (g := gb414) (o := .cells #[.slice Ao34 t408.length co34, .slice Ao38 t411.length co38] 46 (0, 0)) (by (with_reducible repeat (first | refine blk_drewN ?_ _ | refine blk_drew ?_ | refine blk_alloc ?_ _)); exact BK414.out) hb)
                  have n8_ := Aside0.mk (blk_below (g := gb418) (o := .cells #[.slice Ao61 y419.length co61, .int .i64 1, .int .i64 x419002_1] 35 (0, 0)) (by (with_reducible repeat (first | refine blk_drewN ?_ _ | refine blk_drew ?_ | refine blk_alloc ?_ _)); exact BK418.out) hb)
                  have n9_ := Aside0.mk (below_step (by repeat (first | (with_reducible first | exact HB.out | apply below_alloc | apply pw_below_drewN | apply below_drew1 | refine below_set ?_ GE399.out | refine below_set ?_ GE407.out | refine below_set ?_ GE414.out | refine below_set ?_ GE418.out) | exact HB.out)) hb)
                  clear HO_408000
                  clear HO_408001
                  clear HO_415000
                  clear HO_415001
                  clear HO421
                  clear BK399
                  clear BK407
                  clear BK414
                  clear BK418
                  clear HB
                  have HO_408000 := n0_
                  have HO_408001 := n1_
                  have HO_415000 := n2_
                  have HO_415001 := n3_
                  have HO421 := n4_
                  have BK399 := n5_
                  have BK407 := n6_
                  have BK414 := n7_
                  have BK418 := n8_
                  have HB := n9_
                  clear n0_ n1_ n2_ n3_ n4_ n5_ n6_ n7_ n8_ n9_
                  (try clear hb)
                  (try clear hb2)
                  (try clear hk)
                  (try clear hi)
                  refine hK.out _ _ ⟨(blk_cell BK418.out 0).trans rfl, (blk_cell BK418.out 1).trans rfl, (blk_cell BK418.out 2).trans rfl, (blk_cell BK414.out 0).trans rfl, (blk_cell BK414.out 1).trans rfl⟩ (fun hHeld => ?_)
                  clear hK K
                  refine norm_ (a' := ?_) ?_ ?_
                  rotate_left
                  · show Act.put _ (some 57) _ = _
                    simp only [Act.put, List.setIfInBounds_toArray, List.set_cons_zero, List.set_cons_succ, i64_w, i32_w]
                    rfl
                  refine one_ (i := 5) (N := some 58) #[true, true, true, true, true, true, true, false, false, false, false] rfl rfl (one_of HT_.out (by kernel_rfl)) (by decide) (fun K hK => ?_)
                  refine goes_ Try.func28 (by kernel_rfl) rfl #[.bool t422] (by rfl) rfl rfl (by (try simp only [List.map_toArray, List.map_cons, List.map_nil]); first | done | rfl | (simp only [List.length_drop, List.length_take]; rfl)) ?_
                  with_reducible refine (spec_l1Bit.calls t422 t423 _ A52.out).mono ?_
                  rintro e w' ⟨rfl, ⟨nd, rfl⟩⟩
                  refine ⟨_, rfl, ?_⟩
                  refine hK.out _ _ ⟨(blk_cell BK418.out 0).trans rfl, (blk_cell BK418.out 1).trans rfl, (blk_cell BK418.out 2).trans rfl, (blk_cell BK414.out 0).trans rfl, (blk_cell BK414.out 1).trans rfl⟩ (fun hHeld => ?_)
                  clear hK K
                  refine norm_ (a' := ?_) ?_ ?_
                  rotate_left
                  · show Act.put _ (some 58) _ = _
                    simp only [Act.put, List.setIfInBounds_toArray, List.set_cons_zero, List.set_cons_succ, i64_w, i32_w]
                    rfl
                  refine pure_ (i := 7) (N := some 60) (v := ?_) (a' := ?_) #[true, true, true, true, true, true, true, true, false, false, false] rfl rfl (any_of HT_.out (by kernel_rfl)) (fun _ _ _ h => h) (Or.inl ⟨by rfl, ?_⟩) ?_ ?_
                  rotate_left
                  · intro w'
                    go_simp
                    with_reducible rfl
                  rotate_left
                  · simp only [Act.put, List.setIfInBounds_toArray, List.set_cons_zero, List.set_cons_succ, i64_w, i32_w]
                    rfl
                  refine pure_ (i := 8) (N := some 61) (v := ?_) (a' := ?_) #[true, true, true, true, true, true, true, true, true, false, false] rfl rfl (any_of HT_.out (by kernel_rfl)) (fun _ _ _ h => h) (Or.inl ⟨by rfl, ?_⟩) ?_ ?_
                  rotate_left
                  · intro w'
                    go_simp
                    with_reducible rfl
                  rotate_left
                  · simp only [Act.put, List.setIfInBounds_toArray, List.set_cons_zero, List.set_cons_succ, i64_w, i32_w]
                    rfl
                  refine pure_ (i := 9) (N := some 62) (v := ?_) (a' := ?_) #[true, true, true, true, true, true, true, true, true, true, false] rfl rfl (any_of HT_.out (by kernel_rfl)) (fun _ _ _ h => h) (Or.inl ⟨by rfl, ?_⟩) ?_ ?_
                  rotate_left
                  · intro w'
                    go_simp
                    with_reducible rfl
                  rotate_left
                  · simp only [Act.put, List.setIfInBounds_toArray, List.set_cons_zero, List.set_cons_succ, i64_w, i32_w]
                    rfl
                  refine last_ (i := 10) (N := none) #[true, true, true, true, true, true, true, true, true, true, true] rfl rfl (one_of HT_.out (by kernel_rfl)) (by decide) (fun K hK => ?_)
                  have hs66 : w65.cell? ⟨gb418, 2, none⟩ = some (.int .i64 x419002_1) := (blk_cell BK418.out 2).trans rfl
                  have hfs66 := blk_frozen BK418.out 2
                  have hns66_0 := NB399_418.out
                  have hns66_1 := NB407_418.out
                  have hns66_2 := NB414_418.out
                  have hms66_0 := NB418_399.out
                  have hms66_1 := NB418_407.out
                  have hms66_2 := NB418_414.out
                  refine skip_ (w1 := ?_) (by rfl) rfl ?_ ?_
                  rotate_left
                  · go_simp
                    rfl
                  refine hK.out _ _ ?_
                  clear hK K
                  refine done_ (done_of HT_.out (by kernel_rfl)) ?_
                  try go_wp2
                  go_roundg k1
                  case measure => have := HK1.out; omega
                  case rel => exact ⟨(wrap64 (x9_1 + 1)), (y419), (Go.bits .or .i64 x419002_1 (ji54)), (.slice Ao61 y419.length co61), (by first | rfl | (simp; done) | (simp [*]; done) | (simp [Int.tmod_eq_emod_of_nonneg]; done)), H', ⟨by have := HK1.out; omega⟩, ⟨by (with_reducible repeat (first | apply Kd.R_alloc | apply Kd.R_drewN | apply Kd.R_drew)); exact Kd.R_mono (Kd.R_far (p := ⟨gb418, 2, none⟩) (Kd.R_types HO_408000.out BK418.out (by decide)) (fun _ hk => hk.2) (.int .i64 (Go.bits .or .i64 x419002_1 (ji54)))) (fun _ hk => hk.1)⟩, ⟨by (with_reducible repeat (first | apply Kd.R_alloc | apply Kd.R_drewN | apply Kd.R_drew)); exact Kd.R_mono (Kd.R_far (p := ⟨gb418, 2, none⟩) (Kd.R_types HO_408001.out BK418.out (by decide)) (fun _ hk => hk.2) (.int .i64 (Go.bits .or .i64 x419002_1 (ji54)))) (fun _ hk => hk.1)⟩, ⟨by (with_reducible repeat (first | apply Kd.V_alloc | apply Kd.V_drewN | apply Kd.V_drew)); exact Kd.V_mono (Kd.V_far (p := ⟨gb418, 2, none⟩) (Kd.V_mono HO_415000.out (fun k_ hk => (⟨hk, hk.2.2.2.2⟩ : _ ∧ k_ ≠ gb418))) (fun _ hk => hk.2) (.int .i64 (Go.bits .or .i64 x419002_1 (ji54)))) (fun _ hk => ⟨hk.1.1, ⟨hk.1.2.1, ⟨hk.1.2.2.1, ⟨hk.1.2.2.2.1, hk.1.2.2.2.2⟩⟩⟩⟩)⟩, ⟨by (with_reducible repeat (first | apply Kd.V_alloc | apply Kd.V_drewN | apply Kd.V_drew)); exact Kd.V_mono (Kd.V_far (p := ⟨gb418, 2, none⟩) (Kd.V_mono HO_415001.out (fun k_ hk => (⟨hk, hk.2.2.2.2⟩ : _ ∧ k_ ≠ gb418))) (fun _ hk => hk.2) (.int .i64 (Go.bits .or .i64 x419002_1 (ji54)))) (fun _ hk => ⟨hk.1.1, ⟨hk.1.2.1, ⟨hk.1.2.2.1, ⟨hk.1.2.2.2.1, hk.1.2.2.2.2⟩⟩⟩⟩)⟩, ⟨by (with_reducible repeat (first | apply Kd.R_alloc | apply Kd.R_drewN | apply Kd.R_drew)); exact Kd.R_mono (Kd.R_far (p := ⟨gb418, 2, none⟩) (Kd.R_types HO421.out BK418.out (by decide)) (fun _ hk => hk.2) (.int .i64 (Go.bits .or .i64 x419002_1 (ji54)))) (fun _ hk => trivial)⟩, ⟨by (with_reducible repeat (first | refine blk_drewN ?_ _ | refine blk_drew ?_ | refine blk_alloc ?_ _)); refine blk_far ?_ NB399_418.out _; (with_reducible repeat (first | refine blk_drewN ?_ _ | refine blk_drew ?_ | refine blk_alloc ?_ _)); exact BK399.out⟩, ⟨by (with_reducible repeat (first | refine blk_drewN ?_ _ | refine blk_drew ?_ | refine blk_alloc ?_ _)); refine blk_far ?_ NB407_418.out _; (with_reducible repeat (first | refine blk_drewN ?_ _ | refine blk_drew ?_ | refine blk_alloc ?_ _)); exact BK407.out⟩, ⟨by (with_reducible repeat (first | refine blk_drewN ?_ _ | refine blk_drew ?_ | refine blk_alloc ?_ _)); refine blk_far ?_ NB414_418.out _; (with_reducible repeat (first | refine blk_drewN ?_ _ | refine blk_drew ?_ | refine blk_alloc ?_ _)); exact BK414.out⟩, ⟨by (with_reducible repeat (first | refine blk_drewN ?_ _ | refine blk_drew ?_ | refine blk_alloc ?_ _)); refine blk_put (cs := #[.slice Ao61 y419.length co61, .int .i64 1, .int .i64 x419002_1]) ?_ 2 _ rfl; (with_reducible repeat (first | refine blk_drewN ?_ _ | refine blk_drew ?_ | refine blk_alloc ?_ _)); exact BK418.out⟩, ⟨by repeat (first | (with_reducible first | exact HB.out | apply below_alloc | apply pw_below_drewN | apply below_drew1 | refine below_set ?_ GE399.out | refine below_set ?_ GE407.out | refine below_set ?_ GE414.out | refine below_set ?_ GE418.out) | exact HB.out)⟩⟩
                · rw [if_neg c53] at H
                  exact absurd H (by simp)
              · rw [if_neg c50] at H
                exact absurd H (by simp)
            · rw [if_neg c48] at H
              have c48b0 : ((wrap64 (x9_1 + 1)) == (wrap64 ((t408.length : Int) + (t411.length : Int)))) = false := beq_eq_false_iff_ne.mpr c48
              have c48b1 : ((wrap64 (x9_1 + 1)) != (wrap64 ((t408.length : Int) + (t411.length : Int)))) = true := bne_iff_ne.mpr c48
              obtain ⟨ji67, hji67⟩ : ∃ j_ : Int, (wrap64 (x9_1 + 1)) = j_ := ⟨_, rfl⟩
              replace H : (if 0 ≤ (ji67) then (if x419000_1.length < 17592186044416 then ((spec_l1Has.f t408 t411 x9_1).bind fun t427 => ((spec_l1Bit.f t427).bind fun t428 => (if 0 ≤ x9_1 then (spec_MachOf.l0 k1 (wrap64 ((t408.length : Int) + (t411.length : Int))) ji67 t408 t411 (x419000_1 ++ [shl .i64 1 (ji67)]) 1 (Go.bits .or .i64 x419002_1 (shl .i64 t428 x9_1))) else (none)))) else (none)) else (none)) = some (r1, r2, r3, r4) := by first | (rw [hji67] at H; exact H) | (simp only [hji67] at H ⊢; exact H)
              (try rw [hji67] at c48b0)
              (try rw [hji67] at c48b1)
              have hji67w : (IntKind.i64.wrap (x9_1 + 1)) = ji67 := (i64_w _).trans hji67
              by_cases c68 : 0 ≤ (ji67)
              · rw [if_pos c68] at H
                have c68b0 := eq_true c68
                have c68b1 : decide (0 ≤ (ji67)) = true := decide_eq_true c68
                clear c68
                obtain ⟨ji69, hji69⟩ : ∃ j_ : Int, (shl .i64 1 (ji67)) = j_ := ⟨_, rfl⟩
                replace H : (if x419000_1.length < 17592186044416 then ((spec_l1Has.f t408 t411 x9_1).bind fun t427 => ((spec_l1Bit.f t427).bind fun t428 => (if 0 ≤ x9_1 then (spec_MachOf.l0 k1 (wrap64 ((t408.length : Int) + (t411.length : Int))) ji67 t408 t411 (x419000_1 ++ [ji69]) 1 (Go.bits .or .i64 x419002_1 (shl .i64 t428 x9_1))) else (none)))) else (none)) = some (r1, r2, r3, r4) := by first | (rw [hji69] at H; exact H) | (simp only [hji69] at H ⊢; exact H)
                have hji69_ : (IntKind.i64.wrap (1 * 2 ^ min (ji67).toNat 64)) = ji69 := hji69
                have hji69z : (ji67) ≤ 64 → (IntKind.i64.wrap (1 * 2 ^ (ji67).toNat)) = ji69 := shl_small hji69
                have hji69u : (IntKind.i64.wrap (2 ^ min (ji67).toNat 64)) = ji69 := by have h_ := hji69_; rw [Int.one_mul] at h_; exact h_
                have hji69v : (ji67) ≤ 64 → (IntKind.i64.wrap (2 ^ (ji67).toNat)) = ji69 := fun hle_ => by have h_ := hji69z hle_; rw [Int.one_mul] at h_; exact h_
                have hji69y : (wrap64 (1 * 2 ^ min (ji67).toNat 64)) = ji69 := (i64_w _).symm.trans hji69_
                have hji69x : (ji67) ≤ 64 → (wrap64 (1 * 2 ^ (ji67).toNat)) = ji69 := fun h_ => (i64_w _).symm.trans (hji69z h_)
                by_cases c70 : x419000_1.length < 17592186044416
                · rw [if_pos c70] at H
                  have LMc70 := Aside0.mk c70
                  clear c70
                  obtain ⟨y424, hy424⟩ : ∃ y_ : List Int, y_ = (x419000_1 ++ [ji69]) := ⟨_, rfl⟩
                  replace H : ((spec_l1Has.f t408 t411 x9_1).bind fun t427 => ((spec_l1Bit.f t427).bind fun t428 => (if 0 ≤ x9_1 then (spec_MachOf.l0 k1 (wrap64 ((t408.length : Int) + (t411.length : Int))) ji67 t408 t411 y424 1 (Go.bits .or .i64 x419002_1 (shl .i64 t428 x9_1))) else (none)))) = some (r1, r2, r3, r4) := by first | (rw [hy424]; with_reducible exact H) | (have H2_ := (Option.bind_some _ _).symm.trans H; rw [hy424]; with_reducible exact H2_) | (have H2_ := (Option.bind_some _ _).symm.trans H; with_reducible exact H2_) | with_reducible exact H | (rw [hy424]; exact H) | exact H
                  have Ny424 := Aside0.mk hy424
                  clear hy424
                  replace H := Option.bind_eq_some_iff.mp H
                  obtain ⟨t427, A710, H⟩ := H
                  replace H : ((spec_l1Bit.f t427).bind fun t428 => (if 0 ≤ x9_1 then (spec_MachOf.l0 k1 (wrap64 ((t408.length : Int) + (t411.length : Int))) ji67 t408 t411 y424 1 (Go.bits .or .i64 x419002_1 (shl .i64 t428 x9_1))) else (none))) = some (r1, r2, r3, r4) := H
                  have A71 := Aside0.mk A710
                  clear A710
                  replace H := Option.bind_eq_some_iff.mp H
                  obtain ⟨t428, A720, H⟩ := H
                  replace H : (if 0 ≤ x9_1 then (spec_MachOf.l0 k1 (wrap64 ((t408.length : Int) + (t411.length : Int))) ji67 t408 t411 y424 1 (Go.bits .or .i64 x419002_1 (shl .i64 t428 x9_1))) else (none)) = some (r1, r2, r3, r4) := H
                  have A72 := Aside0.mk A720
                  clear A720
                  by_cases c73 : 0 ≤ x9_1
                  · rw [if_pos c73] at H
                    have c73b0 := eq_true c73
                    have c73b1 : decide (0 ≤ x9_1) = true := decide_eq_true c73
                    clear c73
                    obtain ⟨ji74, hji74⟩ : ∃ j_ : Int, (shl .i64 t428 x9_1) = j_ := ⟨_, rfl⟩
                    replace H : (spec_MachOf.l0 k1 (wrap64 ((t408.length : Int) + (t411.length : Int))) ji67 t408 t411 y424 1 (Go.bits .or .i64 x419002_1 (ji74))) = some (r1, r2, r3, r4) := by first | (rw [hji74] at H; exact H) | (simp only [hji74] at H ⊢; exact H)
                    (try rw [hji74] at A71)
                    (try rw [hji74] at A72)
                    have hji74_ : (IntKind.i64.wrap (t428 * 2 ^ min x9_1.toNat 64)) = ji74 := hji74
                    have hji74z : x9_1 ≤ 64 → (IntKind.i64.wrap (t428 * 2 ^ x9_1.toNat)) = ji74 := shl_small hji74
                    have hji74y : (wrap64 (t428 * 2 ^ min x9_1.toNat 64)) = ji74 := (i64_w _).symm.trans hji74_
                    have hji74x : x9_1 ≤ 64 → (wrap64 (t428 * 2 ^ x9_1.toNat)) = ji74 := fun h_ => (i64_w _).symm.trans (hji74z h_)
                    have H' := Aside0.mk H
                    clear H
                    try go_wp2
                    have n0_ := Aside0.mk (Kd.R_drew HO_408000.out)
                    have n1_ := Aside0.mk (Kd.R_drew HO_408001.out)
                    have n2_ := Aside0.mk (Kd.V_drew HO_415000.out)
                    have n3_ := Aside0.mk (Kd.V_drew HO_415001.out)
                    have n4_ := Aside0.mk (Kd.R_drew HO_419000.out)
                    have n5_ := Aside0.mk (blk_drew BK399.out)
                    have n6_ := Aside0.mk (blk_drew BK407.out)
                    have n7_ := Aside0.mk (blk_drew BK414.out)
                    have n8_ := Aside0.mk (blk_drew BK418.out)
                    have n9_ := Aside0.mk (below_drew1 HB.out)
                    clear HO_408000
                    clear HO_408001
                    clear HO_415000
                    clear HO_415001
                    clear HO_419000
                    clear BK399
                    clear BK407
                    clear BK414
                    clear BK418
                    clear HB
                    have HO_408000 := n0_
                    have HO_408001 := n1_
                    have HO_415000 := n2_
                    have HO_415001 := n3_
                    have HO_419000 := n4_
                    have BK399 := n5_
                    have BK407 := n6_
                    have BK414 := n7_
                    have BK418 := n8_
                    have HB := n9_
                    clear n0_ n1_ n2_ n3_ n4_ n5_ n6_ n7_ n8_ n9_
                    refine start_ (n := 8) (S := fun w' => w'.cell? ⟨gb418, 0, none⟩ = some (u419000) ∧ w'.cell? ⟨gb418, 1, none⟩ = some (.int .i64 1) ∧ w'.cell? ⟨gb418, 2, none⟩ = some (.int .i64 x419002_1)) (ds := [7]) #[false, false, false, false, false, false, false, false] (by kernel_rfl) rfl rfl ⟨(blk_cell BK418.out 0).trans rfl, (blk_cell BK418.out 1).trans rfl, (blk_cell BK418.out 2).trans rfl⟩ (fun hHeld => ?_); refine with_tabW spec_MachOf.tab15 spec_MachOf.bits15 (fun HT_ HW_ => ?_)
                    generalize wr.drew = w75 at HO_408000 HO_408001 HO_415000 HO_415001 HO_419000 BK399 BK407 BK414 BK418 HB hHeld ⊢
                    refine pure_ (i := 0) (N := some 46) (v := ?_) (a' := ?_) #[true, false, false, false, false, false, false, false] rfl rfl (any_of HT_.out (by kernel_rfl)) (fun _ _ _ h => h) (Or.inl ⟨by rfl, ?_⟩) ?_ ?_
                    rotate_left
                    · intro w'
                      go_simp
                      with_reducible rfl
                    rotate_left
                    · simp only [Act.put, List.setIfInBounds_toArray, List.set_cons_zero, List.set_cons_succ, i64_w, i32_w]
                      rfl
                    refine pure_ (i := 2) (N := some 48) (v := ?_) (a' := ?_) #[true, false, true, false, false, false, false, false] rfl rfl (any_of HT_.out (by kernel_rfl)) (fun _ _ _ h => h) (Or.inl ⟨by rfl, ?_⟩) ?_ ?_
                    rotate_left
                    · intro w'
                      go_simp
                      with_reducible rfl
                    rotate_left
                    · simp only [Act.put, List.setIfInBounds_toArray, List.set_cons_zero, List.set_cons_succ, i64_w, i32_w]
                      rfl
                    refine pure_ (i := 3) (N := some 49) (v := ?_) (a' := ?_) #[true, false, true, true, false, false, false, false] rfl rfl (any_of HT_.out (by kernel_rfl)) (fun _ _ _ h => h) (Or.inl ⟨by rfl, ?_⟩) ?_ ?_
                    rotate_left
                    · intro w'
                      go_simp
                      with_reducible rfl
                    rotate_left
                    · simp only [Act.put, List.setIfInBounds_toArray, List.set_cons_zero, List.set_cons_succ, i64_w, i32_w]
                      rfl
                    refine take_ (i := 1) (N := some 47) (v := ?_) (a' := ?_) #[true, true, true, true, false, false, false, false] rfl rfl (take_ofW HT_.out HW_.out (by kernel_rfl)) (fun _ _ _ h => h) (Or.inl ⟨by rfl, ?_⟩) hHeld ?_ ?_
                    rotate_left
                    · rintro w' ⟨s0, s1, s2⟩
                      go_simp
                      with_reducible rfl
                    rotate_left
                    · simp only [Act.put, List.setIfInBounds_toArray, List.set_cons_zero, List.set_cons_succ, i64_w, i32_w]
                      rfl
                    refine one_ (i := 4) (N := some 50) #[true, true, true, true, true, false, false, false] rfl rfl (one_of HT_.out (by kernel_rfl)) (by decide) (fun K hK => ?_)
                    refine value_ (w1 := ?_) (v := ?_) (by rfl) rfl ?_ ?_
                    rotate_left 2
                    · go_simp
                      constructor
                      · rfl
                      · rfl
                    refine hK.out _ _ ⟨(blk_cell (blk_alloc BK418.out _) 0).trans rfl, (blk_cell (blk_alloc BK418.out _) 1).trans rfl, (blk_cell (blk_alloc BK418.out _) 2).trans rfl⟩ (fun hHeld => ?_)
                    clear hK K
                    refine norm_ (a' := ?_) ?_ ?_
                    rotate_left
                    · show Act.put _ (some 50) _ = _
                      simp only [Act.put, List.setIfInBounds_toArray, List.set_cons_zero, List.set_cons_succ, i64_w, i32_w]
                      rfl
                    refine one_ (i := 5) (N := some 51) #[true, true, true, true, true, true, false, false] rfl rfl (one_of HT_.out (by kernel_rfl)) (by decide) (fun K hK => ?_)
                    refine Kd.R_append_step (Kd.int .i64) (w0 := w) w.heap.size (by rfl) (.tmp 47) (.tmp 50) 33 3 (.int .i64 0) 8 rfl Try.underlying33 info3 rfl (by decide) (by omega) u419000 x419000_1 ji69 [.int .i64 ji69] (fun _ => True) (fun _ => False) rfl rfl ?aP (fun _ hk => hk.elim) ?aF ?aO ?aB ?aS ?aL ?_
                    (case aP => exact rfl)
                    (case aB => exact (by repeat (first | (with_reducible first | exact HB.out | apply below_alloc | apply pw_below_drewN | apply below_drew1 | refine below_set ?_ GE399.out | refine below_set ?_ GE407.out | refine below_set ?_ GE414.out | refine below_set ?_ GE418.out) | exact HB.out)))
                    (case aF => exact (fun _ _ => trivial))
                    (case aO => exact (by (with_reducible repeat (first | apply Kd.R_alloc | apply Kd.R_drewN | apply Kd.R_drew)); exact HO_419000.out))
                    (case aS => exact (below_size (by repeat (first | (with_reducible first | exact HB.out | apply below_alloc | apply pw_below_drewN | apply below_drew1 | refine below_set ?_ GE399.out | refine below_set ?_ GE407.out | refine below_set ?_ GE414.out | refine below_set ?_ GE418.out) | exact HB.out))))
                    (case aL => have := LMc70.out; omega)
                    intro v425 w76 ho hb hg hat
                    rw [← Ny424.out] at ho
                    have n0_ := Aside0.mk (Kd.R_over' (by (with_reducible repeat (first | apply Kd.R_alloc | apply Kd.R_drewN | apply Kd.R_drew)); exact HO_408000.out) (Kd.R_typed (by (with_reducible repeat (first | apply Kd.R_alloc | apply Kd.R_drewN | apply Kd.R_drew)); exact HO_419000.out)) (by decide) hg)
                    have n1_ := Aside0.mk (Kd.R_over' (by (with_reducible repeat (first | apply Kd.R_alloc | apply Kd.R_drewN | apply Kd.R_drew)); exact HO_408001.out) (Kd.R_typed (by (with_reducible repeat (first | apply Kd.R_alloc | apply Kd.R_drewN | apply Kd.R_drew)); exact HO_419000.out)) (by decide) hg)
                    have n2_ := Aside0.mk (Kd.V_afterv (ok := (fun k_ => k_ ≠ gb399 ∧ k_ ≠ gb407 ∧ k_ ≠ gb414 ∧ k_ ≠ gb418)) (by (with_reducible repeat (first | apply Kd.V_alloc | apply Kd.V_drewN | apply Kd.V_drew)); exact Kd.V_mono HO_415000.out (fun _ hk => ⟨⟨hk.2.1, ⟨hk.2.2.1, ⟨hk.2.2.2.1, hk.2.2.2.2⟩⟩⟩, hk.1⟩)) hg hat)
                    have n3_ := Aside0.mk (Kd.V_afterv (ok := (fun k_ => k_ ≠ gb399 ∧ k_ ≠ gb407 ∧ k_ ≠ gb414 ∧ k_ ≠ gb418)) (by (with_reducible repeat (first | apply Kd.V_alloc | apply Kd.V_drewN | apply Kd.V_drew)); exact Kd.V_mono HO_415001.out (fun _ hk => ⟨⟨hk.2.1, ⟨hk.2.2.1, ⟨hk.2.2.2.1, hk.2.2.2.2⟩⟩⟩, hk.1⟩)) hg hat)
                    have n4_ := Aside0.mk (blk_grown (g := gb399) (o := .cells #[.slice none 0 0, .int .i64 0, .int .i64 0] 35 (0, 0)) (by (with_reducible repeat (first | refine blk_drewN ?_ _ | refine blk_drew ?_ | refine blk_alloc ?_ _)); exact BK399.out) hg (Kd.R_ne HO_419000.out BK399.out (by decide)))
                    have n5_ := Aside0.mk (blk_grown (g := gb407) (o := .cells #[.slice Ao26 t400.length co26, .slice Ao29 t403.length co29] 46 (0, 0)) (by (with_reducible repeat (first | refine blk_drewN ?_ _ | refine blk_drew ?_ | refine blk_alloc ?_ _)); exact BK407.out) hg (Kd.R_ne HO_419000.out BK407.out (by decide)))
                    have n6_ := Aside0.mk (blk_grown (g := gb414) (o := .cells #[.slice Ao34 t408.length co34, .slice Ao38 t411.length co38] 46 (0, 0)) (by (with_reducible repeat (first | refine blk_drewN ?_ _ | refine blk_drew ?_ | refine blk_alloc ?_ _)); exact BK414.out) hg (Kd.R_ne HO_419000.out BK414.out (by decide)))
                    have n7_ := Aside0.mk (blk_grown (g := gb418) (o := .cells #[u419000, .int .i64 1, .int .i64 x419002_1] 35 (0, 0)) (by (with_reducible repeat (first | refine blk_drewN ?_ _ | refine blk_drew ?_ | refine blk_alloc ?_ _)); exact BK418.out) hg (Kd.R_ne HO_419000.out BK418.out (by decide)))
                    have n8_ := Aside0.mk (hb)
                    have n9_ := Aside0.mk (ho)
                    clear HO_408000
                    clear HO_408001
                    clear HO_415000
                    clear HO_415001
                    clear BK399
                    clear BK407
                    clear BK414
                    clear BK418
                    clear HB
                    clear HO_419000
                    have HO_408000 := n0_
                    have HO_408001 := n1_
                    have HO_415000 := n2_
                    have HO_415001 := n3_
                    have BK399 := n4_
                    have BK407 := n5_
                    have BK414 := n6_
                    have BK418 := n7_
                    have HB := n8_
                    have HO426 := n9_
                    clear n0_ n1_ n2_ n3_ n4_ n5_ n6_ n7_ n8_ n9_
                    clear ho hb hg hat
                    obtain ⟨Ao77, co77, eo77⟩ := Kd.R_slice HO426.out
                    (first | subst eo77 | (injection eo77 with f1_ f2_ f3_; have f4_ := f1_.symm; have f5_ := f3_.symm; clear f1_ f2_ f3_; subst f4_; subst f5_))
                    refine hK.out _ _ ⟨(blk_cell BK418.out 0).trans rfl, (blk_cell BK418.out 1).trans rfl, (blk_cell BK418.out 2).trans rfl⟩ (fun hHeld => ?_)
                    clear hK K
                    refine norm_ (a' := ?_) ?_ ?_
                    rotate_left
                    · show Act.put _ (some 51) _ = _
                      simp only [Act.put, List.setIfInBounds_toArray, List.set_cons_zero, List.set_cons_succ, i64_w, i32_w]
                      rfl
                    refine pure_ (i := 6) (N := some 52) (v := ?_) (a' := ?_) #[true, true, true, true, true, true, true, false] rfl rfl (any_of HT_.out (by kernel_rfl)) (fun _ _ _ h => h) (Or.inl ⟨by rfl, ?_⟩) ?_ ?_
                    rotate_left
                    · intro w'
                      go_simp
                      with_reducible rfl
                    rotate_left
                    · simp only [Act.put, List.setIfInBounds_toArray, List.set_cons_zero, List.set_cons_succ, i64_w, i32_w]
                      rfl
                    refine last_ (i := 7) (N := none) #[true, true, true, true, true, true, true, true] rfl rfl (one_of HT_.out (by kernel_rfl)) (by decide) (fun K hK => ?_)
                    have hs78 : w76.cell? ⟨gb418, 0, none⟩ = some (u419000) := (blk_cell BK418.out 0).trans rfl
                    have hfs78 := blk_frozen BK418.out 0
                    have hns78_0 := NB399_418.out
                    have hns78_1 := NB407_418.out
                    have hns78_2 := NB414_418.out
                    have hms78_0 := NB418_399.out
                    have hms78_1 := NB418_407.out
                    have hms78_2 := NB418_414.out
                    refine skip_ (w1 := ?_) (by rfl) rfl ?_ ?_
                    rotate_left
                    · go_simp
                      rfl
                    refine hK.out _ _ ?_
                    clear hK K
                    refine done_ (done_of HT_.out (by kernel_rfl)) ?_
                    try go_wp2
                    have n0_ : Aside0 (Kd.R Kd.bool 4 (w76.setCell ⟨gb418, 0, none⟩ (.slice Ao77 y424.length co77)) w.heap.size (fun k_ => some k_ ≠ (.slice Ao29 t403.length co29 : Value).ownBlock) (.slice Ao26 t400.length co26) t400) := ⟨by (with_reducible repeat (first | apply Kd.R_alloc | apply Kd.R_drewN | apply Kd.R_drew)); exact Kd.R_mono (Kd.R_far (p := ⟨gb418, 0, none⟩) (Kd.R_types HO_408000.out BK418.out (by decide)) (fun _ hk => hk.2) (.slice Ao77 y424.length co77)) (fun _ hk => hk.1)⟩
                    have n1_ : Aside0 (Kd.R Kd.bool 4 (w76.setCell ⟨gb418, 0, none⟩ (.slice Ao77 y424.length co77)) w.heap.size (fun k_ => some k_ ≠ (.slice Ao26 t400.length co26 : Value).ownBlock) (.slice Ao29 t403.length co29) t403) := ⟨by (with_reducible repeat (first | apply Kd.R_alloc | apply Kd.R_drewN | apply Kd.R_drew)); exact Kd.R_mono (Kd.R_far (p := ⟨gb418, 0, none⟩) (Kd.R_types HO_408001.out BK418.out (by decide)) (fun _ hk => hk.2) (.slice Ao77 y424.length co77)) (fun _ hk => hk.1)⟩
                    have n2_ : Aside0 (Kd.V Kd.bool 4 (w76.setCell ⟨gb418, 0, none⟩ (.slice Ao77 y424.length co77)) w.heap.size (fun k_ => some k_ ≠ (.slice Ao77 y424.length co77 : Value).ownBlock ∧ k_ ≠ gb399 ∧ k_ ≠ gb407 ∧ k_ ≠ gb414 ∧ k_ ≠ gb418) (.slice Ao34 t408.length co34) t408) := ⟨by (with_reducible repeat (first | apply Kd.V_alloc | apply Kd.V_drewN | apply Kd.V_drew)); exact Kd.V_mono (Kd.V_far (p := ⟨gb418, 0, none⟩) (Kd.V_mono HO_415000.out (fun k_ hk => (⟨hk, hk.1.2.2.2⟩ : _ ∧ k_ ≠ gb418))) (fun _ hk => hk.2) (.slice Ao77 y424.length co77)) (fun _ hk => ⟨hk.1.2, ⟨hk.1.1.1, ⟨hk.1.1.2.1, ⟨hk.1.1.2.2.1, hk.1.1.2.2.2⟩⟩⟩⟩)⟩
                    have n3_ : Aside0 (Kd.V Kd.bool 4 (w76.setCell ⟨gb418, 0, none⟩ (.slice Ao77 y424.length co77)) w.heap.size (fun k_ => some k_ ≠ (.slice Ao77 y424.length co77 : Value).ownBlock ∧ k_ ≠ gb399 ∧ k_ ≠ gb407 ∧ k_ ≠ gb414 ∧ k_ ≠ gb418) (.slice Ao38 t411.length co38) t411) := ⟨by (with_reducible repeat (first | apply Kd.V_alloc | apply Kd.V_drewN | apply Kd.V_drew)); exact Kd.V_mono (Kd.V_far (p := ⟨gb418, 0, none⟩) (Kd.V_mono HO_415001.out (fun k_ hk => (⟨hk, hk.1.2.2.2⟩ : _ ∧ k_ ≠ gb418))) (fun _ hk => hk.2) (.slice Ao77 y424.length co77)) (fun _ hk => ⟨hk.1.2, ⟨hk.1.1.1, ⟨hk.1.1.2.1, ⟨hk.1.1.2.2.1, hk.1.1.2.2.2⟩⟩⟩⟩)⟩
                    have n4_ : Aside0 (Kd.R (Kd.int .i64) 3 (w76.setCell ⟨gb418, 0, none⟩ (.slice Ao77 y424.length co77)) w.heap.size (fun _ => True) (.slice Ao77 y424.length co77) y424) := ⟨by (with_reducible repeat (first | apply Kd.R_alloc | apply Kd.R_drewN | apply Kd.R_drew)); exact Kd.R_mono (Kd.R_far (p := ⟨gb418, 0, none⟩) (Kd.R_types HO426.out BK418.out (by decide)) (fun _ hk => hk.2) (.slice Ao77 y424.length co77)) (fun _ hk => trivial)⟩
                    have n5_ : Aside0 ((w76.setCell ⟨gb418, 0, none⟩ (.slice Ao77 y424.length co77)).heap[gb399]? = some (.cells #[.slice none 0 0, .int .i64 0, .int .i64 0] 35 (0, 0))) := ⟨by (with_reducible repeat (first | refine blk_drewN ?_ _ | refine blk_drew ?_ | refine blk_alloc ?_ _)); refine blk_far ?_ NB399_418.out _; (with_reducible repeat (first | refine blk_drewN ?_ _ | refine blk_drew ?_ | refine blk_alloc ?_ _)); exact BK399.out⟩
                    have n6_ : Aside0 ((w76.setCell ⟨gb418, 0, none⟩ (.slice Ao77 y424.length co77)).heap[gb407]? = some (.cells #[.slice Ao26 t400.length co26, .slice Ao29 t403.length co29] 46 (0, 0))) := ⟨by (with_reducible repeat (first | refine blk_drewN ?_ _ | refine blk_drew ?_ | refine blk_alloc ?_ _)); refine blk_far ?_ NB407_418.out _; (with_reducible repeat (first | refine blk_drewN ?_ _ | refine blk_drew ?_ | refine blk_alloc ?_ _)); exact BK407.out⟩
                    have n7_ : Aside0 ((w76.setCell ⟨gb418, 0, none⟩ (.slice Ao77 y424.length co77)).heap[gb414]? = some (.cells #[.slice Ao34 t408.length co34, .slice Ao38 t411.length co38] 46 (0, 0))) := ⟨by (with_reducible repeat (first | refine blk_drewN ?_ _ | refine blk_drew ?_ | refine blk_alloc ?_ _)); refine blk_far ?_ NB414_418.out _; (with_reducible repeat (first | refine blk_drewN ?_ _ | refine blk_drew ?_ | refine blk_alloc ?_ _)); exact BK414.out⟩
                    have n8_ : Aside0 ((w76.setCell ⟨gb418, 0, none⟩ (.slice Ao77 y424.length co77)).heap[gb418]? = some (.cells #[.slice Ao77 y424.length co77, .int .i64 1, .int .i64 x419002_1] 35 (0, 0))) := ⟨by (with_reducible repeat (first | refine blk_drewN ?_ _ | refine blk_drew ?_ | refine blk_alloc ?_ _)); refine blk_put (cs := #[u419000, .int .i64 1, .int .i64 x419002_1]) ?_ 0 _ rfl; (with_reducible repeat (first | refine blk_drewN ?_ _ | refine blk_drew ?_ | refine blk_alloc ?_ _)); exact BK418.out⟩
                    have n9_ : Aside0 (Below w.heap.size w (w76.setCell ⟨gb418, 0, none⟩ (.slice Ao77 y424.length co77))) := ⟨by repeat (first | (with_reducible first | exact HB.out | apply below_alloc | apply pw_below_drewN | apply below_drew1 | refine below_set ?_ GE399.out | refine below_set ?_ GE407.out | refine below_set ?_ GE414.out | refine below_set ?_ GE418.out) | exact HB.out)⟩
                    (try clear HO_408000)
                    (try clear HO_408001)
                    (try clear HO_415000)
                    (try clear HO_415001)
                    (try clear HO426)
                    (try clear BK399)
                    (try clear BK407)
                    (try clear BK414)
                    (try clear BK418)
                    (try clear HB)
                    generalize (w76.setCell ⟨gb418, 0, none⟩ (.slice Ao77 y424.length co77)) = w79 at n0_ n1_ n2_ n3_ n4_ n5_ n6_ n7_ n8_ n9_ ⊢
                    have HO_408000 := n0_
                    have HO_408001 := n1_
                    have HO_415000 := n2_
                    have HO_415001 := n3_
                    have HO426 := n4_
                    have BK399 := n5_
                    have BK407 := n6_
                    have BK414 := n7_
                    have BK418 := n8_
                    have HB := n9_
                    clear n0_ n1_ n2_ n3_ n4_ n5_ n6_ n7_ n8_ n9_
                    have n0_ := Aside0.mk (Kd.R_drew HO_408000.out)
                    have n1_ := Aside0.mk (Kd.R_drew HO_408001.out)
                    have n2_ := Aside0.mk (Kd.V_drew HO_415000.out)
                    have n3_ := Aside0.mk (Kd.V_drew HO_415001.out)
                    have n4_ := Aside0.mk (Kd.R_drew HO426.out)
                    have n5_ := Aside0.mk (blk_drew BK399.out)
                    have n6_ := Aside0.mk (blk_drew BK407.out)
                    have n7_ := Aside0.mk (blk_drew BK414.out)
                    have n8_ := Aside0.mk (blk_drew BK418.out)
                    have n9_ := Aside0.mk (below_drew1 HB.out)
                    clear HO_408000
                    clear HO_408001
                    clear HO_415000
                    clear HO_415001
                    clear HO426
                    clear BK399
                    clear BK407
                    clear BK414
                    clear BK418
                    clear HB
                    have HO_408000 := n0_
                    have HO_408001 := n1_
                    have HO_415000 := n2_
                    have HO_415001 := n3_
                    have HO426 := n4_
                    have BK399 := n5_
                    have BK407 := n6_
                    have BK414 := n7_
                    have BK418 := n8_
                    have HB := n9_
                    clear n0_ n1_ n2_ n3_ n4_ n5_ n6_ n7_ n8_ n9_
                    refine start_ (n := 11) (S := fun w' => w'.cell? ⟨gb418, 0, none⟩ = some (.slice Ao77 y424.length co77) ∧ w'.cell? ⟨gb418, 1, none⟩ = some (.int .i64 1) ∧ w'.cell? ⟨gb418, 2, none⟩ = some (.int .i64 x419002_1) ∧ w'.cell? ⟨gb414, 0, none⟩ = some (.slice Ao34 t408.length co34) ∧ w'.cell? ⟨gb414, 1, none⟩ = some (.slice Ao38 t411.length co38)) (ds := [10]) #[false, false, false, false, false, false, false, false, false, false, false] (by kernel_rfl) rfl rfl ⟨(blk_cell BK418.out 0).trans rfl, (blk_cell BK418.out 1).trans rfl, (blk_cell BK418.out 2).trans rfl, (blk_cell BK414.out 0).trans rfl, (blk_cell BK414.out 1).trans rfl⟩ (fun hHeld => ?_); refine with_tabW spec_MachOf.tab16 spec_MachOf.bits16 (fun HT_ HW_ => ?_)
                    generalize w79.drew = w80 at HO_408000 HO_408001 HO_415000 HO_415001 HO426 BK399 BK407 BK414 BK418 HB hHeld ⊢
                    refine pure_ (i := 0) (N := some 53) (v := ?_) (a' := ?_) #[true, false, false, false, false, false, false, false, false, false, false] rfl rfl (any_of HT_.out (by kernel_rfl)) (fun _ _ _ h => h) (Or.inl ⟨by rfl, ?_⟩) ?_ ?_
                    rotate_left
                    · intro w'
                      go_simp
                      with_reducible rfl
                    rotate_left
                    · simp only [Act.put, List.setIfInBounds_toArray, List.set_cons_zero, List.set_cons_succ, i64_w, i32_w]
                      rfl
                    refine pure_ (i := 3) (N := some 56) (v := ?_) (a' := ?_) #[true, false, false, true, false, false, false, false, false, false, false] rfl rfl (any_of HT_.out (by kernel_rfl)) (fun _ _ _ h => h) (Or.inl ⟨by rfl, ?_⟩) ?_ ?_
                    rotate_left
                    · intro w'
                      go_simp
                      with_reducible rfl
                    rotate_left
                    · simp only [Act.put, List.setIfInBounds_toArray, List.set_cons_zero, List.set_cons_succ, i64_w, i32_w]
                      rfl
                    refine pure_ (i := 6) (N := some 59) (v := ?_) (a' := ?_) #[true, false, false, true, false, false, true, false, false, false, false] rfl rfl (any_of HT_.out (by kernel_rfl)) (fun _ _ _ h => h) (Or.inl ⟨by rfl, ?_⟩) ?_ ?_
                    rotate_left
                    · intro w'
                      go_simp
                      with_reducible rfl
                    rotate_left
                    · simp only [Act.put, List.setIfInBounds_toArray, List.set_cons_zero, List.set_cons_succ, i64_w, i32_w]
                      rfl
                    refine take_ (i := 1) (N := some 54) (v := ?_) (a' := ?_) #[true, true, false, true, false, false, true, false, false, false, false] rfl rfl (take_ofW HT_.out HW_.out (by kernel_rfl)) (fun _ _ _ h => h) (Or.inl ⟨by rfl, ?_⟩) hHeld ?_ ?_
                    rotate_left
                    · rintro w' ⟨s0, s1, s2, s3, s4⟩
                      go_simp
                      with_reducible rfl
                    rotate_left
                    · simp only [Act.put, List.setIfInBounds_toArray, List.set_cons_zero, List.set_cons_succ, i64_w, i32_w]
                      rfl
                    refine take_ (i := 2) (N := some 55) (v := ?_) (a' := ?_) #[true, true, true, true, false, false, true, false, false, false, false] rfl rfl (take_ofW HT_.out HW_.out (by kernel_rfl)) (fun _ _ _ h => h) (Or.inl ⟨by rfl, ?_⟩) hHeld ?_ ?_
                    rotate_left
                    · rintro w' ⟨s0, s1, s2, s3, s4⟩
                      go_simp
                      with_reducible rfl
                    rotate_left
                    · simp only [Act.put, List.setIfInBounds_toArray, List.set_cons_zero, List.set_cons_succ, i64_w, i32_w]
                      rfl
                    refine one_ (i := 4) (N := some 57) #[true, true, true, true, true, false, true, false, false, false, false] rfl rfl (one_of HT_.out (by kernel_rfl)) (by decide) (fun K hK => ?_)
                    refine goes_ Try.func29 (by kernel_rfl) rfl #[.agg #[.slice Ao34 t408.length co34, .slice Ao38 t411.length co38], .int .i64 x9_1] (by rfl) rfl rfl (by (try simp only [List.map_toArray, List.map_cons, List.map_nil]); first | done | rfl | (simp only [List.length_drop, List.length_take]; rfl)) ?_
                    with_reducible refine (spec_l1Has.calls _ _ t408 _ _ t411 x9_1 t427 _ ?side1 ?side2 ?side3 ?side4 A71.out).mono ?_
                    (case side1 => repeat (first | exact (Kd.V_reads' HO_415000.out).2.2 | (with_reducible refine Kd.C_alloc ?_ _) | (with_reducible refine Kd.C_drewN ?_ _) | (with_reducible refine Kd.C_drew ?_)))
                    (case side2 => exact (Kd.V_reads' HO_415000.out).2.1)
                    (case side3 => repeat (first | exact (Kd.V_reads' HO_415001.out).2.2 | (with_reducible refine Kd.C_alloc ?_ _) | (with_reducible refine Kd.C_drewN ?_ _) | (with_reducible refine Kd.C_drew ?_)))
                    (case side4 => exact (Kd.V_reads' HO_415001.out).2.1)
                    rintro e w81 ⟨rfl, hb⟩
                    refine ⟨_, rfl, ?_⟩
                    have n0_ := Aside0.mk (Kd.R_below (by (with_reducible repeat (first | apply Kd.R_alloc | apply Kd.R_drewN | apply Kd.R_drew)); exact HO_408000.out) hb)
                    have n1_ := Aside0.mk (Kd.R_below (by (with_reducible repeat (first | apply Kd.R_alloc | apply Kd.R_drewN | apply Kd.R_drew)); exact HO_408001.out) hb)
                    have n2_ := Aside0.mk (Kd.V_below (by (with_reducible repeat (first | apply Kd.V_alloc | apply Kd.V_drewN | apply Kd.V_drew)); exact HO_415000.out) hb)
                    have n3_ := Aside0.mk (Kd.V_below (by (with_reducible repeat (first | apply Kd.V_alloc | apply Kd.V_drewN | apply Kd.V_drew)); exact HO_415001.out) hb)
                    have n4_ := Aside0.mk (Kd.R_below (by (with_reducible repeat (first | apply Kd.R_alloc | apply Kd.R_drewN | apply Kd.R_drew)); exact HO426.out) hb)
                    have n5_ := Aside0.mk (blk_below (g := gb399) (o := .cells #[.slice none 0 0, .int .i64 0, .int .i64 0] 35 (0, 0)) (by (with_reducible repeat (first | refine blk_drewN ?_ _ | refine blk_drew ?_ | refine blk_alloc ?_ _)); exact BK399.out) hb)
                    have n6_ := Aside0.mk (blk_below (g := gb407) (o := .cells #[.slice Ao26 t400.length co26, .slice Ao29 t403.length co29] 46 (0, 0)) (by (with_reducible repeat (first | refine blk_drewN ?_ _ | refine blk_drew ?_ | refine blk_alloc ?_ _)); exact BK407.out) hb)
                    have n7_ := Aside0.mk (blk_below (g := gb414) (o := .cells #[.slice Ao34 t408.length co34, .slice Ao38 t411.length co38] 46 (0, 0)) (by (with_reducible repeat (first | refine blk_drewN ?_ _ | refine blk_drew ?_ | refine blk_alloc ?_ _)); exact BK414.out) hb)
                    have n8_ := Aside0.mk (blk_below (g := gb418) (o := .cells #[.slice Ao77 y424.length co77, .int .i64 1, .int .i64 x419002_1] 35 (0, 0)) (by (with_reducible repeat (first | refine blk_drewN ?_ _ | refine blk_drew ?_ | refine blk_alloc ?_ _)); exact BK418.out) hb)
                    have n9_ := Aside0.mk (below_step (by repeat (first | (with_reducible first | exact HB.out | apply below_alloc | apply pw_below_drewN | apply below_drew1 | refine below_set ?_ GE399.out | refine below_set ?_ GE407.out | refine below_set ?_ GE414.out | refine below_set ?_ GE418.out) | exact HB.out)) hb)
                    clear HO_408000
                    clear HO_408001
                    clear HO_415000
                    clear HO_415001
                    clear HO426
                    clear BK399
                    clear BK407
                    clear BK414
                    clear BK418
                    clear HB
                    have HO_408000 := n0_
                    have HO_408001 := n1_
                    have HO_415000 := n2_
                    have HO_415001 := n3_
                    have HO426 := n4_
                    have BK399 := n5_
                    have BK407 := n6_
                    have BK414 := n7_
                    have BK418 := n8_
                    have HB := n9_
                    clear n0_ n1_ n2_ n3_ n4_ n5_ n6_ n7_ n8_ n9_
                    (try clear hb)
                    (try clear hb2)
                    (try clear hk)
                    (try clear hi)
                    refine hK.out _ _ ⟨(blk_cell BK418.out 0).trans rfl, (blk_cell BK418.out 1).trans rfl, (blk_cell BK418.out 2).trans rfl, (blk_cell BK414.out 0).trans rfl, (blk_cell BK414.out 1).trans rfl⟩ (fun hHeld => ?_)
                    clear hK K
                    refine norm_ (a' := ?_) ?_ ?_
                    rotate_left
                    · show Act.put _ (some 57) _ = _
                      simp only [Act.put, List.setIfInBounds_toArray, List.set_cons_zero, List.set_cons_succ, i64_w, i32_w]
                      rfl
                    refine one_ (i := 5) (N := some 58) #[true, true, true, true, true, true, true, false, false, false, false] rfl rfl (one_of HT_.out (by kernel_rfl)) (by decide) (fun K hK => ?_)
                    refine goes_ Try.func28 (by kernel_rfl) rfl #[.bool t427] (by rfl) rfl rfl (by (try simp only [List.map_toArray, List.map_cons, List.map_nil]); first | done | rfl | (simp only [List.length_drop, List.length_take]; rfl)) ?_
                    with_reducible refine (spec_l1Bit.calls t427 t428 _ A72.out).mono ?_
                    rintro e w' ⟨rfl, ⟨nd, rfl⟩⟩
                    refine ⟨_, rfl, ?_⟩
                    refine hK.out _ _ ⟨(blk_cell BK418.out 0).trans rfl, (blk_cell BK418.out 1).trans rfl, (blk_cell BK418.out 2).trans rfl, (blk_cell BK414.out 0).trans rfl, (blk_cell BK414.out 1).trans rfl⟩ (fun hHeld => ?_)
                    clear hK K
                    refine norm_ (a' := ?_) ?_ ?_
                    rotate_left
                    · show Act.put _ (some 58) _ = _
                      simp only [Act.put, List.setIfInBounds_toArray, List.set_cons_zero, List.set_cons_succ, i64_w, i32_w]
                      rfl
                    refine pure_ (i := 7) (N := some 60) (v := ?_) (a' := ?_) #[true, true, true, true, true, true, true, true, false, false, false] rfl rfl (any_of HT_.out (by kernel_rfl)) (fun _ _ _ h => h) (Or.inl ⟨by rfl, ?_⟩) ?_ ?_
                    rotate_left
                    · intro w'
                      go_simp
                      with_reducible rfl
                    rotate_left
                    · simp only [Act.put, List.setIfInBounds_toArray, List.set_cons_zero, List.set_cons_succ, i64_w, i32_w]
                      rfl
                    refine pure_ (i := 8) (N := some 61) (v := ?_) (a' := ?_) #[true, true, true, true, true, true, true, true, true, false, false] rfl rfl (any_of HT_.out (by kernel_rfl)) (fun _ _ _ h => h) (Or.inl ⟨by rfl, ?_⟩) ?_ ?_
                    rotate_left
                    · intro w'
                      go_simp
                      with_reducible rfl
                    rotate_left
                    · simp only [Act.put, List.setIfInBounds_toArray, List.set_cons_zero, List.set_cons_succ, i64_w, i32_w]
                      rfl
                    refine pure_ (i := 9) (N := some 62) (v := ?_) (a' := ?_) #[true, true, true, true, true, true, true, true, true, true, false] rfl rfl (any_of HT_.out (by kernel_rfl)) (fun _ _ _ h => h) (Or.inl ⟨by rfl, ?_⟩) ?_ ?_
                    rotate_left
                    · intro w'
                      go_simp
                      with_reducible rfl
                    rotate_left
                    · simp only [Act.put, List.setIfInBounds_toArray, List.set_cons_zero, List.set_cons_succ, i64_w, i32_w]
                      rfl
                    refine last_ (i := 10) (N := none) #[true, true, true, true, true, true, true, true, true, true, true] rfl rfl (one_of HT_.out (by kernel_rfl)) (by decide) (fun K hK => ?_)
                    have hs82 : w81.cell? ⟨gb418, 2, none⟩ = some (.int .i64 x419002_1) := (blk_cell BK418.out 2).trans rfl
                    have hfs82 := blk_frozen BK418.out 2
                    have hns82_0 := NB399_418.out
                    have hns82_1 := NB407_418.out
                    have hns82_2 := NB414_418.out
                    have hms82_0 := NB418_399.out
                    have hms82_1 := NB418_407.out
                    have hms82_2 := NB418_414.out
                    refine skip_ (w1 := ?_) (by rfl) rfl ?_ ?_
                    rotate_left
                    · go_simp
                      rfl
                    refine hK.out _ _ ?_
                    clear hK K
                    refine done_ (done_of HT_.out (by kernel_rfl)) ?_
                    try go_wp2
                    go_roundg k1
                    case measure => have := HK1.out; omega
                    case rel => exact ⟨(ji67), (y424), (Go.bits .or .i64 x419002_1 (ji74)), (.slice Ao77 y424.length co77), (by first | rfl | (simp; done) | (simp only [← hji67] <;> (first | rfl | simp)) | (simp [*]; done)), H', ⟨by have := HK1.out; omega⟩, ⟨by (with_reducible repeat (first | apply Kd.R_alloc | apply Kd.R_drewN | apply Kd.R_drew)); exact Kd.R_mono (Kd.R_far (p := ⟨gb418, 2, none⟩) (Kd.R_types HO_408000.out BK418.out (by decide)) (fun _ hk => hk.2) (.int .i64 (Go.bits .or .i64 x419002_1 (ji74)))) (fun _ hk => hk.1)⟩, ⟨by (with_reducible repeat (first | apply Kd.R_alloc | apply Kd.R_drewN | apply Kd.R_drew)); exact Kd.R_mono (Kd.R_far (p := ⟨gb418, 2, none⟩) (Kd.R_types HO_408001.out BK418.out (by decide)) (fun _ hk => hk.2) (.int .i64 (Go.bits .or .i64 x419002_1 (ji74)))) (fun _ hk => hk.1)⟩, ⟨by (with_reducible repeat (first | apply Kd.V_alloc | apply Kd.V_drewN | apply Kd.V_drew)); exact Kd.V_mono (Kd.V_far (p := ⟨gb418, 2, none⟩) (Kd.V_mono HO_415000.out (fun k_ hk => (⟨hk, hk.2.2.2.2⟩ : _ ∧ k_ ≠ gb418))) (fun _ hk => hk.2) (.int .i64 (Go.bits .or .i64 x419002_1 (ji74)))) (fun _ hk => ⟨hk.1.1, ⟨hk.1.2.1, ⟨hk.1.2.2.1, ⟨hk.1.2.2.2.1, hk.1.2.2.2.2⟩⟩⟩⟩)⟩, ⟨by (with_reducible repeat (first | apply Kd.V_alloc | apply Kd.V_drewN | apply Kd.V_drew)); exact Kd.V_mono (Kd.V_far (p := ⟨gb418, 2, none⟩) (Kd.V_mono HO_415001.out (fun k_ hk => (⟨hk, hk.2.2.2.2⟩ : _ ∧ k_ ≠ gb418))) (fun _ hk => hk.2) (.int .i64 (Go.bits .or .i64 x419002_1 (ji74)))) (fun _ hk => ⟨hk.1.1, ⟨hk.1.2.1, ⟨hk.1.2.2.1, ⟨hk.1.2.2.2.1, hk.1.2.2.2.2⟩⟩⟩⟩)⟩, ⟨by (with_reducible repeat (first | apply Kd.R_alloc | apply Kd.R_drewN | apply Kd.R_drew)); exact Kd.R_mono (Kd.R_far (p := ⟨gb418, 2, none⟩) (Kd.R_types HO426.out BK418.out (by decide)) (fun _ hk => hk.2) (.int .i64 (Go.bits .or .i64 x419002_1 (ji74)))) (fun _ hk => trivial)⟩, ⟨by (with_reducible repeat (first | refine blk_drewN ?_ _ | refine blk_drew ?_ | refine blk_alloc ?_ _)); refine blk_far ?_ NB399_418.out _; (with_reducible repeat (first | refine blk_drewN ?_ _ | refine blk_drew ?_ | refine blk_alloc ?_ _)); exact BK399.out⟩, ⟨by (with_reducible repeat (first | refine blk_drewN ?_ _ | refine blk_drew ?_ | refine blk_alloc ?_ _)); refine blk_far ?_ NB407_418.out _; (with_reducible repeat (first | refine blk_drewN ?_ _ | refine blk_drew ?_ | refine blk_alloc ?_ _)); exact BK407.out⟩, ⟨by (with_reducible repeat (first | refine blk_drewN ?_ _ | refine blk_drew ?_ | refine blk_alloc ?_ _)); refine blk_far ?_ NB414_418.out _; (with_reducible repeat (first | refine blk_drewN ?_ _ | refine blk_drew ?_ | refine blk_alloc ?_ _)); exact BK414.out⟩, ⟨by (with_reducible repeat (first | refine blk_drewN ?_ _ | refine blk_drew ?_ | refine blk_alloc ?_ _)); refine blk_put (cs := #[.slice Ao77 y424.length co77, .int .i64 1, .int .i64 x419002_1]) ?_ 2 _ rfl; (with_reducible repeat (first | refine blk_drewN ?_ _ | refine blk_drew ?_ | refine blk_alloc ?_ _)); exact BK418.out⟩, ⟨by repeat (first | (with_reducible first | exact HB.out | apply below_alloc | apply pw_below_drewN | apply below_drew1 | refine below_set ?_ GE399.out | refine below_set ?_ GE407.out | refine below_set ?_ GE414.out | refine below_set ?_ GE418.out) | exact HB.out)⟩⟩
                  · rw [if_neg c73] at H
                    exact absurd H (by simp)
                · rw [if_neg c70] at H
                  exact absurd H (by simp)
              · rw [if_neg c68] at H
                exact absurd H (by simp)
          · rw [if_neg c47] at H
            have c47b0 : decide (x9_1 < (wrap64 ((t408.length : Int) + (t411.length : Int)))) = false := decide_eq_false c47
            clear c47
            simp only [Option.some.injEq, Prod.mk.injEq] at H
            obtain ⟨rfl, rfl, rfl, rfl⟩ := H
            have hnb83 := NB418_399.out
            have hnc83 := NB399_418.out
            have hnb84 := NB418_407.out
            have hnc84 := NB407_418.out
            have hnb85 := NB418_414.out
            have hnc85 := NB414_418.out
            have hcz86_0 : wr.cell? ⟨gb418, 0, none⟩ = some (u419000) := (blk_cell BK418.out 0).trans rfl
            have hcz86_1 : wr.cell? ⟨gb418, 1, none⟩ = some (.int .i64 1) := (blk_cell BK418.out 1).trans rfl
            have hcz86_2 : wr.cell? ⟨gb418, 2, none⟩ = some (.int .i64 x419002_1) := (blk_cell BK418.out 2).trans rfl
            have hfz86_0 := blk_frozen BK418.out 0
            have hfz86_1 := blk_frozen BK418.out 1
            have hfz86_2 := blk_frozen BK418.out 2
            obtain ⟨Ao87, co87, eo87⟩ := Kd.R_slice HO_419000.out
            subst eo87
            have hnb88 := NB399_407.out
            have hnc88 := NB407_399.out
            have hnb89 := NB399_414.out
            have hnc89 := NB414_399.out
            have hcz90_0 : wr.cell? ⟨gb399, 0, none⟩ = some (.slice none 0 0) := (blk_cell BK399.out 0).trans rfl
            have hcz90_1 : wr.cell? ⟨gb399, 1, none⟩ = some (.int .i64 0) := (blk_cell BK399.out 1).trans rfl
            have hcz90_2 : wr.cell? ⟨gb399, 2, none⟩ = some (.int .i64 0) := (blk_cell BK399.out 2).trans rfl
            have hfz90_0 := blk_frozen BK399.out 0
            have hfz90_1 := blk_frozen BK399.out 1
            have hfz90_2 := blk_frozen BK399.out 2
            go_wp2
            refine bodyPost_ret (results_ct rfl _ _ gb399 35 #[.slice Ao87 x419000_1.length co87, .int .i64 1, .int .i64 x419002_1] (0, 0) _ rfl (by (with_reducible repeat (first | refine blk_drewN ?_ _ | refine blk_drew ?_ | refine blk_alloc ?_ _)); refine blk_put (cs := #[.slice Ao87 x419000_1.length co87, .int .i64 1, .int .i64 0]) ?_ 2 _ rfl; (with_reducible repeat (first | refine blk_drewN ?_ _ | refine blk_drew ?_ | refine blk_alloc ?_ _)); refine blk_put (cs := #[.slice Ao87 x419000_1.length co87, .int .i64 0, .int .i64 0]) ?_ 1 _ rfl; (with_reducible repeat (first | refine blk_drewN ?_ _ | refine blk_drew ?_ | refine blk_alloc ?_ _)); refine blk_put (cs := #[.slice none 0 0, .int .i64 0, .int .i64 0]) ?_ 0 _ rfl; (with_reducible repeat (first | refine blk_drewN ?_ _ | refine blk_drew ?_ | refine blk_alloc ?_ _)); exact BK399.out) Try.underlying35 rfl (by kernel_rfl)) rfl ?_
            exact ⟨_, by first | rfl | (simp [errW_none, errW_some] <;> rfl) | (simp [*, errW_none, errW_some] <;> rfl) | (simp [errW_none, errW_some]; exact ⟨rfl, rfl⟩), by (with_reducible repeat (first | apply Kd.R_alloc | apply Kd.R_drewN | apply Kd.R_drew)); exact Kd.R_mono (Kd.R_far (p := ⟨gb399, 2, none⟩) (Kd.R_far (p := ⟨gb399, 1, none⟩) (Kd.R_far (p := ⟨gb399, 0, none⟩) (Kd.R_types HO_419000.out BK399.out (by decide)) (fun _ hk => hk.2) (.slice Ao87 x419000_1.length co87)) (fun _ hk => hk.2) (.int .i64 1)) (fun _ hk => hk.2) (.int .i64 x419002_1)) (fun _ hk => trivial), by repeat (first | (with_reducible first | exact HB.out | apply below_alloc | apply pw_below_drewN | apply below_drew1 | refine below_set ?_ GE399.out | refine below_set ?_ GE407.out | refine below_set ?_ GE414.out | refine below_set ?_ GE418.out) | exact HB.out)⟩
  · replace c3 := Bool.eq_false_iff.mpr c3
    subst c3
    have H1 : (some (([] : List Int), 0, 0, false)) = some (r1, r2, r3, r4) := by rw [if_neg (show ¬ (false = true) by decide)] at H; exact H
    clear H
    have H := H1
    clear H1
    simp only [Option.some.injEq, Prod.mk.injEq] at H
    obtain ⟨rfl, rfl, rfl, rfl⟩ := H
    go_enter Try.func13, Try.ntmps13
    go_wp2_with (first | ((with_reducible refine gate_dst (N := 2) rfl ?_); refine box_event ?hg (N := 2) ?hd (cs := #[.slice none 0 0, .int .i64 0, .int .i64 0]) (t := 35) ?hr ?_; (case hd => rfl); (case hg => rfl); (case hr => first | (go_simp; done) | (go_simp; rfl)); intro gb399 hg w91 hbox hb; have n0_ := Aside0.mk (below_step (by repeat (first | (with_reducible first | exact HB.out | apply below_alloc | apply pw_below_drewN | apply below_drew1) | exact HB.out)) hb); have n1_ := Aside0.mk (hbox); have n2_ := Aside0.mk ((by rw [hg]; exact (below_size (by repeat (first | (with_reducible first | exact HB.out | apply below_alloc | apply pw_below_drewN | apply below_drew1) | exact HB.out))) : w.heap.size ≤ gb399)); have n3_ := Aside0.mk ((by rw [hg]; exact (below_size (by repeat (first | (with_reducible first | exact HB.out | apply below_alloc | apply pw_below_drewN | apply below_drew1) | exact HB.out))) : w.heap.size ≤ gb399)); clear HB; have HB := n0_; have BK399 := n1_; have GW399 := n2_; have GE399 := n3_; clear n0_ n1_ n2_ n3_; clear hb hbox hg) | ((with_reducible refine gate_callee (f := 20) rfl ?_); refine goesL_ (some 13) rfl rfl Try.func20 (by kernel_rfl) rfl #[.string a0] rfl (by (try simp only [List.map_toArray, List.map_cons, List.map_nil]); first | done | rfl | (simp only [List.length_drop, List.length_take]; rfl)) ?_; (with_reducible refine (spec_l1Read.calls k a0 t400 t403 false _ A2.out).mono ?_); rintro e w92 ⟨v401, v404, rfl, ho0, ho1, hb⟩; refine ⟨_, rfl, ?_⟩; have n0_ := Aside0.mk (Kd.R_lower ho0 (below_size (by repeat (first | (with_reducible first | exact HB.out | apply below_alloc | apply pw_below_drewN | apply below_drew1 | refine below_set ?_ GE399.out) | exact HB.out)))); have n1_ := Aside0.mk (Kd.R_lower ho1 (below_size (by repeat (first | (with_reducible first | exact HB.out | apply below_alloc | apply pw_below_drewN | apply below_drew1 | refine below_set ?_ GE399.out) | exact HB.out)))); have n2_ := Aside0.mk (blk_below (g := gb399) (o := .cells #[.slice none 0 0, .int .i64 0, .int .i64 0] 35 (0, 0)) (by (with_reducible repeat (first | refine blk_drewN ?_ _ | refine blk_drew ?_ | refine blk_alloc ?_ _)); exact BK399.out) hb); have n3_ := Aside0.mk (below_step (by repeat (first | (with_reducible first | exact HB.out | apply below_alloc | apply pw_below_drewN | apply below_drew1 | refine below_set ?_ GE399.out) | exact HB.out)) hb); clear BK399; clear HB; have HO402 := n0_; have HO405 := n1_; have BK399 := n2_; have HB := n3_; clear n0_ n1_ n2_ n3_; (try clear hb); (try clear hb2); (try clear hk); (try clear hi); (try clear ho0); (try clear ho1)) | ((with_reducible refine gate_dst (N := 4) rfl ?_); refine box_event ?hg (N := 4) ?hd (cs := #[.slice none 0 0, .slice none 0 0]) (t := 46) ?hr ?_; (case hd => rfl); (case hg => rfl); (case hr => first | (go_simp; done) | (go_simp; rfl)); intro gb407 hg w93 hbox hb; have n0_ := Aside0.mk (Kd.R_below (by (with_reducible repeat (first | apply Kd.R_alloc | apply Kd.R_drewN | apply Kd.R_drew)); exact HO402.out) hb); have n1_ := Aside0.mk (Kd.R_below (by (with_reducible repeat (first | apply Kd.R_alloc | apply Kd.R_drewN | apply Kd.R_drew)); exact HO405.out) hb); have n2_ := Aside0.mk (blk_below (g := gb399) (o := .cells #[.slice none 0 0, .int .i64 0, .int .i64 0] 35 (0, 0)) (by (with_reducible repeat (first | refine blk_drewN ?_ _ | refine blk_drew ?_ | refine blk_alloc ?_ _)); exact BK399.out) hb); have n3_ := Aside0.mk (below_step (by repeat (first | (with_reducible first | exact HB.out | apply below_alloc | apply pw_below_drewN | apply below_drew1 | refine below_set ?_ GE399.out) | exact HB.out)) hb); have n4_ := Aside0.mk (hbox); have n5_ := Aside0.mk ((by rw [hg]; exact (below_size (by repeat (first | (with_reducible first | exact HB.out | apply below_alloc | apply pw_below_drewN | apply below_drew1 | refine below_set ?_ GE399.out) | exact HB.out))) : w.heap.size ≤ gb407)); have n6_ := Aside0.mk ((by rw [hg]; exact (below_size (by repeat (first | (with_reducible first | exact HB.out | apply below_alloc | apply pw_below_drewN | apply below_drew1 | refine below_set ?_ GE399.out) | exact HB.out))) : w.heap.size ≤ gb407)); have n7_ := Aside0.mk ((by rw [hg]; exact Nat.ne_of_lt (blk_lt (g := gb399) (o := .cells #[.slice none 0 0, .int .i64 0, .int .i64 0] 35 (0, 0)) (by (with_reducible repeat (first | refine blk_drewN ?_ _ | refine blk_drew ?_ | refine blk_alloc ?_ _)); exact BK399.out)) : gb399 ≠ gb407)); have n8_ := Aside0.mk ((by rw [hg]; exact Nat.ne_of_gt (blk_lt (g := gb399) (o := .cells #[.slice none 0 0, .int .i64 0, .int .i64 0] 35 (0, 0)) (by (with_reducible repeat (first | refine blk_drewN ?_ _ | refine blk_drew ?_ | refine blk_alloc ?_ _)); exact BK399.out)) : gb407 ≠ gb399)); clear HO402; clear HO405; clear BK399; clear HB; have HO402 := n0_; have HO405 := n1_; have BK399 := n2_; have HB := n3_; have BK407 := n4_; have GW407 := n5_; have GE407 := n6_; have NB399_407 := n7_; have NB407_399 := n8_; clear n0_ n1_ n2_ n3_ n4_ n5_ n6_ n7_ n8_; clear hb hbox hg; obtain ⟨Ao94, co94, eo94⟩ := Kd.R_slice HO402.out; subst eo94; have hnb95 := NB407_399.out; have hnc95 := NB399_407.out; have hcz96_0 : w93.cell? ⟨gb407, 0, none⟩ = some (.slice none 0 0) := (blk_cell BK407.out 0).trans rfl; have hcz96_1 : w93.cell? ⟨gb407, 1, none⟩ = some (.slice none 0 0) := (blk_cell BK407.out 1).trans rfl; have hfz96_0 := blk_frozen BK407.out 0; have hfz96_1 := blk_frozen BK407.out 1; obtain ⟨Ao97, co97, eo97⟩ := Kd.R_slice HO405.out; subst eo97; have hcz98_0 : w93.cell? ⟨gb399, 0, none⟩ = some (.slice none 0 0) := (blk_cell BK399.out 0).trans rfl; have hcz98_1 : w93.cell? ⟨gb399, 1, none⟩ = some (.int .i64 0) := (blk_cell BK399.out 1).trans rfl; have hcz98_2 : w93.cell? ⟨gb399, 2, none⟩ = some (.int .i64 0) := (blk_cell BK399.out 2).trans rfl; have hfz98_0 := blk_frozen BK399.out 0; have hfz98_1 := blk_frozen BK399.out 1; have hfz98_2 := blk_frozen BK399.out 2))
    refine bodyPost_ret (results_ct rfl _ _ gb399 35 #[.slice none 0 0, .int .i64 0, .int .i64 0] (0, 0) _ rfl (by (with_reducible repeat (first | refine blk_drewN ?_ _ | refine blk_drew ?_ | refine blk_alloc ?_ _)); refine blk_put (cs := #[.slice none 0 0, .int .i64 0, .int .i64 0]) ?_ 2 _ rfl; (with_reducible repeat (first | refine blk_drewN ?_ _ | refine blk_drew ?_ | refine blk_alloc ?_ _)); refine blk_put (cs := #[.slice none 0 0, .int .i64 0, .int .i64 0]) ?_ 1 _ rfl; (with_reducible repeat (first | refine blk_drewN ?_ _ | refine blk_drew ?_ | refine blk_alloc ?_ _)); refine blk_put (cs := #[.slice none 0 0, .int .i64 0, .int .i64 0]) ?_ 0 _ rfl; (with_reducible repeat (first | refine blk_drewN ?_ _ | refine blk_drew ?_ | refine blk_alloc ?_ _)); refine blk_far ?_ NB399_407.out _; (with_reducible repeat (first | refine blk_drewN ?_ _ | refine blk_drew ?_ | refine blk_alloc ?_ _)); refine blk_far ?_ NB399_407.out _; (with_reducible repeat (first | refine blk_drewN ?_ _ | refine blk_drew ?_ | refine blk_alloc ?_ _)); exact BK399.out) Try.underlying35 rfl (by kernel_rfl)) rfl ?_
    exact ⟨_, by first | rfl | (simp [errW_none, errW_some] <;> rfl) | (simp [*, errW_none, errW_some] <;> rfl) | (simp [errW_none, errW_some]; exact ⟨rfl, rfl⟩), by first | exact Kd.R_nil _ _ _ _ _ | exact Kd.N_nil _ _ _ _ _ | exact Kd.V_nil _ _ _ _ _ | exact Kd.Q_nil _ _ _ _ _ | exact Kd.S_nil _ _ _ _ _, by repeat (first | (with_reducible first | exact HB.out | apply below_alloc | apply pw_below_drewN | apply below_drew1 | refine below_set ?_ GE399.out | refine below_set ?_ GE407.out) | exact HB.out)⟩

end Go.Proofs.Ytcacjmhelilblaa.P

namespace Go.Proofs.Ytcacjmhelilblaa.P
open Go.RowKit Go.Proofs.YtcacjmhelilblaaW.PrintWords Go.Proofs.YtcacjmhelilblaaW.PrintLast Go.Proofs.YtcacjmhelilblaaW.PrintMore
attribute [local go_sem] max2_int min2_int max_two min_two max_three min_three max_four min_four   -- for this text's walks alone
set_option linter.unusedVariables false
set_option linter.unusedSimpArgs false

/-! ### laws_FnExactMachOf: function 5 -/
mutual
def laws_FnExactMachOf.j0 : Nat → ByteArray → Bool → Bool → List Int → Int → Int → List Int → Int → Int → Option (Bool)
  | 0, _, _, _, _, _, _, _, _, _ => none
  | k + 1, x0, x4, x32, x469000, x469001, x469002, x476000, x476001, x476002 => if x32 = true then (some false) else ((laws_markMachine.f k x476000 x476001 x476002 1).bind fun bt477 => ((laws_heldMachine.f k bt477.2 x476001 x476002 1).bind fun t479 => (if t479 < 0 then (some false) else (if t479 = bt477.1 then ((impl_MachOf.f k x0).bind fun bt480 => ((laws_eqMachine.f k bt480.1 bt480.2.1 bt480.2.2.1 x469000 x469001 x469002).bind fun t487 => (if t487 = true then (laws_FnExactMachOf.j1 k bt477.1 (bt480.2.2.2 != x4) bt477.2 x476001 x476002) else (laws_FnExactMachOf.j1 k bt477.1 true bt477.2 x476001 x476002)))) else (some false)))))
def laws_FnExactMachOf.j1 : Nat → Int → Bool → List Int → Int → Int → Option (Bool)
  | 0, _, _, _, _, _ => none
  | k + 1, x7, x57, x476000, x476001, x476002 => if x57 = true then (some false) else ((laws_heldMachine.f k x476000 x476001 x476002 1).bind fun t488 => (if t488 < 0 then (some false) else (if t488 = x7 then (some true) else (some false))))
end
def laws_FnExactMachOf.f (k : Nat) (a0 : ByteArray) : Option (Bool) := if (a0.size : Int) > 1048576 then (some true) else ((spec_MachOf.f k a0).bind fun bt462 => ((impl_MachOf.f k a0).bind fun bt469 => ((laws_eqMachine.f k bt469.1 bt469.2.1 bt469.2.2.1 bt462.1 bt462.2.1 bt462.2.2.1).bind fun t476 => (if t476 = true then (laws_FnExactMachOf.j0 k a0 bt462.2.2.2 (bt469.2.2.2 != bt462.2.2.2) bt462.1 bt462.2.1 bt462.2.2.1 bt469.1 bt469.2.1 bt469.2.2.1) else (laws_FnExactMachOf.j0 k a0 bt462.2.2.2 true bt462.1 bt462.2.1 bt462.2.2.1 bt469.1 bt469.2.1 bt469.2.2.1)))))
theorem laws_FnExactMachOf.mono_l : ∀ k, (∀ y0 y1 y2 y3 y4 y5 y6 y7 y8, LeO (laws_FnExactMachOf.j0 k y0 y1 y2 y3 y4 y5 y6 y7 y8) (laws_FnExactMachOf.j0 (k + 1) y0 y1 y2 y3 y4 y5 y6 y7 y8)) ∧ (∀ y0 y1 y2 y3 y4, LeO (laws_FnExactMachOf.j1 k y0 y1 y2 y3 y4) (laws_FnExactMachOf.j1 (k + 1) y0 y1 y2 y3 y4))
  | 0 => ⟨fun _ _ _ _ _ _ _ _ _ r h => by simp [laws_FnExactMachOf.j0] at h, fun _ _ _ _ _ r h => by simp [laws_FnExactMachOf.j1] at h⟩
  | k + 1 => by
    obtain ⟨ih0, ih1⟩ := laws_FnExactMachOf.mono_l k
    refine ⟨?_, ?_⟩
    · intro y0 y1 y2 y3 y4 y5 y6 y7 y8
      unfold laws_FnExactMachOf.j0
      repeat' first
      | (with_reducible exact ih0 _ _ _ _ _ _ _ _ _)
      | (with_reducible exact ih1 _ _ _ _ _)
      | (with_reducible exact impl_MachOf.mono _ _)
      | (with_reducible exact laws_eqMachine.mono _ _ _ _ _ _ _)
      | (with_reducible exact laws_heldMachine.mono _ _ _ _ _)
      | (with_reducible exact laws_markMachine.mono _ _ _ _ _)
      | (with_reducible exact spec_MachOf.mono _ _)
      | (with_reducible exact LeO.refl _)
      | (with_reducible exact LeO.none _)
      | (with_reducible refine LeO.ite ?_ ?_)
      | (with_reducible refine LeO.bind ?_ (fun _ => ?_))
      | exact ih0 _ _ _ _ _ _ _ _ _
      | exact ih1 _ _ _ _ _
      | exact impl_MachOf.mono _ _
      | exact laws_eqMachine.mono _ _ _ _ _ _ _
      | exact laws_heldMachine.mono _ _ _ _ _
      | exact laws_markMachine.mono _ _ _ _ _
      | exact spec_MachOf.mono _ _
      | exact LeO.none _
      | refine LeO.ite ?_ ?_
      | refine LeO.bind ?_ (fun _ => ?_)
    · intro y0 y1 y2 y3 y4
      unfold laws_FnExactMachOf.j1
      repeat' first
      | (with_reducible exact ih0 _ _ _ _ _ _ _ _ _)
      | (with_reducible exact ih1 _ _ _ _ _)
      | (with_reducible exact impl_MachOf.mono _ _)
      | (with_reducible exact laws_eqMachine.mono _ _ _ _ _ _ _)
      | (with_reducible exact laws_heldMachine.mono _ _ _ _ _)
      | (with_reducible exact laws_markMachine.mono _ _ _ _ _)
      | (with_reducible exact spec_MachOf.mono _ _)
      | (with_reducible exact LeO.refl _)
      | (with_reducible exact LeO.none _)
      | (with_reducible refine LeO.ite ?_ ?_)
      | (with_reducible refine LeO.bind ?_ (fun _ => ?_))
      | exact ih0 _ _ _ _ _ _ _ _ _
      | exact ih1 _ _ _ _ _
      | exact impl_MachOf.mono _ _
      | exact laws_eqMachine.mono _ _ _ _ _ _ _
      | exact laws_heldMachine.mono _ _ _ _ _
      | exact laws_markMachine.mono _ _ _ _ _
      | exact spec_MachOf.mono _ _
      | exact LeO.none _
      | refine LeO.ite ?_ ?_
      | refine LeO.bind ?_ (fun _ => ?_)
theorem laws_FnExactMachOf.mono : ∀ a0 k, LeO (laws_FnExactMachOf.f k a0) (laws_FnExactMachOf.f (k + 1) a0) := by
  intro a0 k
  obtain ⟨ih0, ih1⟩ := laws_FnExactMachOf.mono_l k
  unfold laws_FnExactMachOf.f
  repeat' first
      | (with_reducible exact ih0 _ _ _ _ _ _ _ _ _)
      | (with_reducible exact ih1 _ _ _ _ _)
      | (with_reducible exact impl_MachOf.mono _ _)
      | (with_reducible exact laws_eqMachine.mono _ _ _ _ _ _ _)
      | (with_reducible exact laws_heldMachine.mono _ _ _ _ _)
      | (with_reducible exact laws_markMachine.mono _ _ _ _ _)
      | (with_reducible exact spec_MachOf.mono _ _)
      | (with_reducible exact LeO.refl _)
      | (with_reducible exact LeO.none _)
      | (with_reducible refine LeO.ite ?_ ?_)
      | (with_reducible refine LeO.bind ?_ (fun _ => ?_))
      | exact ih0 _ _ _ _ _ _ _ _ _
      | exact ih1 _ _ _ _ _
      | exact impl_MachOf.mono _ _
      | exact laws_eqMachine.mono _ _ _ _ _ _ _
      | exact laws_heldMachine.mono _ _ _ _ _
      | exact laws_markMachine.mono _ _ _ _ _
      | exact spec_MachOf.mono _ _
      | exact LeO.none _
      | refine LeO.ite ?_ ?_
      | refine LeO.bind ?_ (fun _ => ?_)
set_option maxHeartbeats 8000000 in
set_option maxRecDepth 100000 in
theorem laws_FnExactMachOf.calls (k : Nat) (a0 : ByteArray) (r : Bool) (w : World) (h : laws_FnExactMachOf.f k a0 = some r) :
    Calls Try.prog 5 #[.string a0] w fun e w' => e = .returned (.bool r) ∧ Below w.heap.size w w' := by
  have hu35 := Try.underlying35
  have HB := Aside0.mk (Below.refl w.heap.size w)
  have H : (if (a0.size : Int) > 1048576 then (some true) else ((spec_MachOf.f k a0).bind fun bt462 => ((impl_MachOf.f k a0).bind fun bt469 => ((laws_eqMachine.f k bt469.1 bt469.2.1 bt469.2.2.1 bt462.1 bt462.2.1 bt462.2.2.1).bind fun t476 => (if t476 = true then (laws_FnExactMachOf.j0 k a0 bt462.2.2.2 (bt469.2.2.2 != bt462.2.2.2) bt462.1 bt462.2.1 bt462.2.2.1 bt469.1 bt469.2.1 bt469.2.2.1) else (laws_FnExactMachOf.j0 k a0 bt462.2.2.2 true bt462.1 bt462.2.1 bt462.2.2.1 bt469.1 bt469.2.1 bt469.2.2.1)))))) = some r := h
  clear h
  by_cases c2 : (a0.size : Int) > 1048576
  · rw [if_pos c2] at H
    have c2b0 : decide (1048576 < (a0.size : Int)) = true := decide_eq_true c2
    have c2b1 : decide (1048576 < a0.size) = true := decide_eq_true (by omega)
    clear c2
    obtain rfl := Option.some.inj H
    go_enter Try.func5, Try.ntmps5
    go_wp2
    go_ret
    exact ⟨by first | rfl | (simp [errW_none, errW_some] <;> rfl) | (simp [*, errW_none, errW_some] <;> rfl) | (simp [errW_none, errW_some]; exact ⟨rfl, rfl⟩), by repeat (first | (with_reducible first | exact HB.out | apply below_alloc | apply pw_below_drewN | apply below_drew1) | exact HB.out)⟩
  · rw [if_neg c2] at H
    have c2b0 : decide (1048576 < (a0.size : Int)) = false := decide_eq_false c2
    have c2b1 : decide (1048576 < a0.size) = false := decide_eq_false (by omega)
    clear c2
    replace H := Option.bind_eq_some_iff.mp H
    obtain ⟨⟨t462, t465, t466, t467⟩, A30, H⟩ := H
    replace H : ((impl_MachOf.f k a0).bind fun bt469 => ((laws_eqMachine.f k bt469.1 bt469.2.1 bt469.2.2.1 t462 t465 t466).bind fun t476 => (if t476 = true then (laws_FnExactMachOf.j0 k a0 t467 (bt469.2.2.2 != t467) t462 t465 t466 bt469.1 bt469.2.1 bt469.2.2.1) else (laws_FnExactMachOf.j0 k a0 t467 true t462 t465 t466 bt469.1 bt469.2.1 bt469.2.2.1)))) = some r := H
    have A3 := Aside0.mk A30
    clear A30
    replace H := Option.bind_eq_some_iff.mp H
    obtain ⟨⟨t469, t472, t473, t474⟩, A40, H⟩ := H
    replace H : ((laws_eqMachine.f k t469 t472 t473 t462 t465 t466).bind fun t476 => (if t476 = true then (laws_FnExactMachOf.j0 k a0 t467 (t474 != t467) t462 t465 t466 t469 t472 t473) else (laws_FnExactMachOf.j0 k a0 t467 true t462 t465 t466 t469 t472 t473))) = some r := H
    have A4 := Aside0.mk A40
    clear A40
    have HC5 := Aside0.mk H
    clear H
    go_enter Try.func5, Try.ntmps5
    go_upto_region 5 with (first | ((with_reducible refine gate_callee (f := 13) rfl ?_); refine goesL_ (some 16) rfl rfl Try.func13 (by kernel_rfl) rfl #[.string a0] rfl (by (try simp only [List.map_toArray, List.map_cons, List.map_nil]); first | done | rfl | (simp only [List.length_drop, List.length_take]; rfl)) ?_; (with_reducible refine (spec_MachOf.calls k a0 t462 t465 t466 t467 _ A3.out).mono ?_); rintro e w6 ⟨v463, rfl, ho0, hb⟩; refine ⟨_, rfl, ?_⟩; have n0_ := Aside0.mk (Kd.R_lower ho0 (below_size (by repeat (first | (with_reducible first | exact HB.out | apply below_alloc | apply pw_below_drewN | apply below_drew1) | exact HB.out)))); have n1_ := Aside0.mk (below_step (by repeat (first | (with_reducible first | exact HB.out | apply below_alloc | apply pw_below_drewN | apply below_drew1) | exact HB.out)) hb); clear HB; have HO464 := n0_; have HB := n1_; clear n0_ n1_; (try clear hb); (try clear hb2); (try clear hk); (try clear hi); (try clear ho0)) | ((with_reducible refine gate_dst (N := 3) rfl ?_); refine box_event ?hg (N := 3) ?hd (cs := #[.slice none 0 0, .int .i64 0, .int .i64 0]) (t := 35) ?hr ?_; (case hd => rfl); (case hg => rfl); (case hr => first | (go_simp; done) | (go_simp; rfl)); intro gb468 hg w7 hbox hb; have n0_ := Aside0.mk (Kd.R_below (by (with_reducible repeat (first | apply Kd.R_alloc | apply Kd.R_drewN | apply Kd.R_drew)); exact HO464.out) hb); have n1_ := Aside0.mk (below_step (by repeat (first | (with_reducible first | exact HB.out | apply below_alloc | apply pw_below_drewN | apply below_drew1) | exact HB.out)) hb); have n2_ := Aside0.mk (hbox); have n3_ := Aside0.mk ((by rw [hg]; exact (below_size (by repeat (first | (with_reducible first | exact HB.out | apply below_alloc | apply pw_below_drewN | apply below_drew1) | exact HB.out))) : w.heap.size ≤ gb468)); have n4_ := Aside0.mk ((by rw [hg]; exact (below_size (by repeat (first | (with_reducible first | exact HB.out | apply below_alloc | apply pw_below_drewN | apply below_drew1) | exact HB.out))) : w.heap.size ≤ gb468)); clear HO464; clear HB; have HO464 := n0_; have HB := n1_; have BK468 := n2_; have GW468 := n3_; have GE468 := n4_; clear n0_ n1_ n2_ n3_ n4_; clear hb hbox hg; obtain ⟨Ao8, co8, eo8⟩ := Kd.R_slice HO464.out; subst eo8; have hcz9_0 : w7.cell? ⟨gb468, 0, none⟩ = some (.slice none 0 0) := (blk_cell BK468.out 0).trans rfl; have hcz9_1 : w7.cell? ⟨gb468, 1, none⟩ = some (.int .i64 0) := (blk_cell BK468.out 1).trans rfl; have hcz9_2 : w7.cell? ⟨gb468, 2, none⟩ = some (.int .i64 0) := (blk_cell BK468.out 2).trans rfl; have hfz9_0 := blk_frozen BK468.out 0; have hfz9_1 := blk_frozen BK468.out 1; have hfz9_2 := blk_frozen BK468.out 2) | ((with_reducible refine gate_callee (f := 14) rfl ?_); refine goesL_ (some 21) rfl rfl Try.func14 (by kernel_rfl) rfl #[.string a0] rfl (by (try simp only [List.map_toArray, List.map_cons, List.map_nil]); first | done | rfl | (simp only [List.length_drop, List.length_take]; rfl)) ?_; (with_reducible refine (impl_MachOf.calls k a0 t469 t472 t473 t474 _ A4.out).mono ?_); rintro e w10 ⟨v470, rfl, ho0, hb⟩; refine ⟨_, rfl, ?_⟩; have n0_ := Aside0.mk (Kd.R_elder' (by (with_reducible repeat (first | apply Kd.R_alloc | apply Kd.R_drewN | apply Kd.R_drew)); exact (Kd.R_mono (Kd.R_far (p := ⟨gb468, 2, none⟩) (Kd.R_far (p := ⟨gb468, 1, none⟩) (Kd.R_far (p := ⟨gb468, 0, none⟩) (Kd.R_types HO464.out BK468.out (by decide)) (fun _ hk => hk.2) (.slice Ao8 t462.length co8)) (fun _ hk => hk.2) (.int .i64 t465)) (fun _ hk => hk.2) (.int .i64 t466)) (fun _ h_ => h_.1))) (Kd.R_base ho0) hb); have n1_ := Aside0.mk (Kd.R_lower (Kd.R_new' ho0 (Kd.R_lt (by (with_reducible repeat (first | apply Kd.R_alloc | apply Kd.R_drewN | apply Kd.R_drew)); exact (Kd.R_mono (Kd.R_far (p := ⟨gb468, 2, none⟩) (Kd.R_far (p := ⟨gb468, 1, none⟩) (Kd.R_far (p := ⟨gb468, 0, none⟩) (Kd.R_types HO464.out BK468.out (by decide)) (fun _ hk => hk.2) (.slice Ao8 t462.length co8)) (fun _ hk => hk.2) (.int .i64 t465)) (fun _ hk => hk.2) (.int .i64 t466)) (fun _ h_ => h_.1))))) (below_size (by repeat (first | (with_reducible first | exact HB.out | apply below_alloc | apply pw_below_drewN | apply below_drew1 | refine below_set ?_ GE468.out) | exact HB.out)))); have n2_ := Aside0.mk (blk_below (g := gb468) (o := .cells #[.slice Ao8 t462.length co8, .int .i64 t465, .int .i64 t466] 35 (0, 0)) (by (with_reducible repeat (first | refine blk_drewN ?_ _ | refine blk_drew ?_ | refine blk_alloc ?_ _)); refine blk_put (cs := #[.slice Ao8 t462.length co8, .int .i64 t465, .int .i64 0]) ?_ 2 _ rfl; (with_reducible repeat (first | refine blk_drewN ?_ _ | refine blk_drew ?_ | refine blk_alloc ?_ _)); refine blk_put (cs := #[.slice Ao8 t462.length co8, .int .i64 0, .int .i64 0]) ?_ 1 _ rfl; (with_reducible repeat (first | refine blk_drewN ?_ _ | refine blk_drew ?_ | refine blk_alloc ?_ _)); refine blk_put (cs := #[.slice none 0 0, .int .i64 0, .int .i64 0]) ?_ 0 _ rfl; (with_reducible repeat (first | refine blk_drewN ?_ _ | refine blk_drew ?_ | refine blk_alloc ?_ _)); exact BK468.out) hb); have n3_ := Aside0.mk (below_step (by repeat (first | (with_reducible first | exact HB.out | apply below_alloc | apply pw_below_drewN | apply below_drew1 | refine below_set ?_ GE468.out) | exact HB.out)) hb); clear HO464; clear BK468; clear HB; have HO464 := n0_; have HO471 := n1_; have BK468 := n2_; have HB := n3_; clear n0_ n1_ n2_ n3_; (try clear hb); (try clear hb2); (try clear hk); (try clear hi); (try clear ho0)) | ((with_reducible refine gate_dst (N := 5) rfl ?_); refine box_event ?hg (N := 5) ?hd (cs := #[.slice none 0 0, .int .i64 0, .int .i64 0]) (t := 35) ?hr ?_; (case hd => rfl); (case hg => rfl); (case hr => first | (go_simp; done) | (go_simp; rfl)); intro gb475 hg w11 hbox hb; have n0_ := Aside0.mk (Kd.R_below (by (with_reducible repeat (first | apply Kd.R_alloc | apply Kd.R_drewN | apply Kd.R_drew)); exact HO464.out) hb); have n1_ := Aside0.mk (Kd.R_below (by (with_reducible repeat (first | apply Kd.R_alloc | apply Kd.R_drewN | apply Kd.R_drew)); exact HO471.out) hb); have n2_ := Aside0.mk (blk_below (g := gb468) (o := .cells #[.slice Ao8 t462.length co8, .int .i64 t465, .int .i64 t466] 35 (0, 0)) (by (with_reducible repeat (first | refine blk_drewN ?_ _ | refine blk_drew ?_ | refine blk_alloc ?_ _)); exact BK468.out) hb); have n3_ := Aside0.mk (below_step (by repeat (first | (with_reducible first | exact HB.out | apply below_alloc | apply pw_below_drewN | apply below_drew1 | refine below_set ?_ GE468.out) | exact HB.out)) hb); have n4_ := Aside0.mk (hbox); have n5_ := Aside0.mk ((by rw [hg]; exact (below_size (by repeat (first | (with_reducible first | exact HB.out | apply below_alloc | apply pw_below_drewN | apply below_drew1 | refine below_set ?_ GE468.out) | exact HB.out))) : w.heap.size ≤ gb475)); have n6_ := Aside0.mk ((by rw [hg]; exact (below_size (by repeat (first | (with_reducible first | exact HB.out | apply below_alloc | apply pw_below_drewN | apply below_drew1 | refine below_set ?_ GE468.out) | exact HB.out))) : w.heap.size ≤ gb475)); have n7_ := Aside0.mk ((by rw [hg]; exact Nat.ne_of_lt (blk_lt (g := gb468) (o := .cells #[.slice Ao8 t462.length co8, .int .i64 t465, .int .i64 t466] 35 (0, 0)) (by (with_reducible repeat (first | refine blk_drewN ?_ _ | refine blk_drew ?_ | refine blk_alloc ?_ _)); exact BK468.out)) : gb468 ≠ gb475)); have n8_ := Aside0.mk ((by rw [hg]; exact Nat.ne_of_gt (blk_lt (g := gb468) (o := .cells #[.slice Ao8 t462.length co8, .int .i64 t465, .int .i64 t466] 35 (0, 0)) (by (with_reducible repeat (first | refine blk_drewN ?_ _ | refine blk_drew ?_ | refine blk_alloc ?_ _)); exact BK468.out)) : gb475 ≠ gb468)); clear HO464; clear HO471; clear BK468; clear HB; have HO464 := n0_; have HO471 := n1_; have BK468 := n2_; have HB := n3_; have BK475 := n4_; have GW475 := n5_; have GE475 := n6_; have NB468_475 := n7_; have NB475_468 := n8_; clear n0_ n1_ n2_ n3_ n4_ n5_ n6_ n7_ n8_; clear hb hbox hg; obtain ⟨Ao12, co12, eo12⟩ := Kd.R_slice HO471.out; subst eo12; have hnb13 := NB475_468.out; have hnc13 := NB468_475.out; have hcz14_0 : w11.cell? ⟨gb475, 0, none⟩ = some (.slice none 0 0) := (blk_cell BK475.out 0).trans rfl; have hcz14_1 : w11.cell? ⟨gb475, 1, none⟩ = some (.int .i64 0) := (blk_cell BK475.out 1).trans rfl; have hcz14_2 : w11.cell? ⟨gb475, 2, none⟩ = some (.int .i64 0) := (blk_cell BK475.out 2).trans rfl; have hfz14_0 := blk_frozen BK475.out 0; have hfz14_1 := blk_frozen BK475.out 1; have hfz14_2 := blk_frozen BK475.out 2))
    (try simp only [Act.put, List.setIfInBounds_toArray, List.set_cons_zero, List.set_cons_succ])
    go_cut [32] (fun v32 wc => ∃ (kq : Nat) (x32_4 : Bool), v32 = .bool x32_4 ∧ Aside0 (laws_FnExactMachOf.j0 kq a0 t467 x32_4 t462 t465 t466 t469 t472 t473 = some r) ∧ Aside0 (kq ≤ k) ∧ Aside0 (Kd.R (Kd.int .i64) 3 wc w.heap.size (fun k_ => some k_ ≠ ((.slice Ao12 t469.length co12) : Value).ownBlock) (.slice Ao8 t462.length co8) t462) ∧ Aside0 (Kd.R (Kd.int .i64) 3 wc w.heap.size (fun k_ => some k_ ≠ ((.slice Ao8 t462.length co8) : Value).ownBlock) (.slice Ao12 t469.length co12) t469) ∧ Aside0 (wc.heap[gb468]? = some (.cells #[(.slice Ao8 t462.length co8), .int .i64 t465, .int .i64 t466] 35 (0, 0))) ∧ Aside0 (wc.heap[gb475]? = some (.cells #[(.slice Ao12 t469.length co12), .int .i64 t472, .int .i64 t473] 35 (0, 0))) ∧ Aside0 (Below w.heap.size w wc))
    case first =>
      have H := HC5.out
      clear HC5
      replace H := Option.bind_eq_some_iff.mp H
      obtain ⟨t476, A150, H⟩ := H
      replace H : (if t476 = true then (laws_FnExactMachOf.j0 k a0 t467 (t474 != t467) t462 t465 t466 t469 t472 t473) else (laws_FnExactMachOf.j0 k a0 t467 true t462 t465 t466 t469 t472 t473)) = some r := H
      have A15 := Aside0.mk A150
      clear A150
      by_cases c16 : t476 = true
      · subst c16
        have H1 : (laws_FnExactMachOf.j0 k a0 t467 (t474 != t467) t462 t465 t466 t469 t472 t473) = some r := by rw [if_pos rfl] at H; exact H
        clear H
        have H := H1
        clear H1
        have H' := Aside0.mk H
        clear H
        have hnb17 := NB475_468.out
        have hnc17 := NB468_475.out
        have hcz18_0 : w11.cell? ⟨gb475, 0, none⟩ = some (.slice none 0 0) := (blk_cell BK475.out 0).trans rfl
        have hcz18_1 : w11.cell? ⟨gb475, 1, none⟩ = some (.int .i64 0) := (blk_cell BK475.out 1).trans rfl
        have hcz18_2 : w11.cell? ⟨gb475, 2, none⟩ = some (.int .i64 0) := (blk_cell BK475.out 2).trans rfl
        have hfz18_0 := blk_frozen BK475.out 0
        have hfz18_1 := blk_frozen BK475.out 1
        have hfz18_2 := blk_frozen BK475.out 2
        have hcz19_0 : w11.cell? ⟨gb468, 0, none⟩ = some (.slice Ao8 t462.length co8) := (blk_cell BK468.out 0).trans rfl
        have hcz19_1 : w11.cell? ⟨gb468, 1, none⟩ = some (.int .i64 t465) := (blk_cell BK468.out 1).trans rfl
        have hcz19_2 : w11.cell? ⟨gb468, 2, none⟩ = some (.int .i64 t466) := (blk_cell BK468.out 2).trans rfl
        have hfz19_0 := blk_frozen BK468.out 0
        have hfz19_1 := blk_frozen BK468.out 1
        have hfz19_2 := blk_frozen BK468.out 2
        go_wp2_with (first | ((with_reducible refine gate_callee (f := 15) rfl ?_); refine goesL_ (some 26) rfl rfl Try.func15 (by kernel_rfl) rfl #[.agg #[.slice Ao12 t469.length co12, .int .i64 t472, .int .i64 t473], .agg #[.slice Ao8 t462.length co8, .int .i64 t465, .int .i64 t466]] rfl (by (try simp only [List.map_toArray, List.map_cons, List.map_nil]); first | done | rfl | (simp only [List.length_drop, List.length_take]; rfl)) ?_; (with_reducible refine (laws_eqMachine.calls k _ _ t469 t472 t473 _ _ t462 t465 t466 true _ ?side1 ?side2 ?side3 ?side4 A15.out).mono ?_); (case side1 => refine (Kd.R_reads' (e := 3) (base := w.heap.size) (ok := fun k_ => (True ∧ some k_ ≠ (.slice Ao8 t462.length co8 : Value).ownBlock)) (n := t469.length) (c := co12) ?_).2.2; exact (by (with_reducible repeat (first | apply Kd.R_alloc | apply Kd.R_drewN | apply Kd.R_drew)); exact (Kd.R_mono (Kd.R_far (p := ⟨gb475, 2, none⟩) (Kd.R_far (p := ⟨gb475, 1, none⟩) (Kd.R_far (p := ⟨gb475, 0, none⟩) (Kd.R_types HO471.out BK475.out (by decide)) (fun _ hk => hk.2) (.slice Ao12 t469.length co12)) (fun _ hk => hk.2) (.int .i64 t472)) (fun _ hk => hk.2) (.int .i64 t473)) (fun _ h_ => h_.1)))); (case side2 => exact (Kd.R_reads' HO471.out).2.1); (case side3 => refine (Kd.R_reads' (e := 3) (base := w.heap.size) (ok := fun k_ => (True ∧ some k_ ≠ (.slice Ao12 t469.length co12 : Value).ownBlock)) (n := t462.length) (c := co8) ?_).2.2; exact (by (with_reducible repeat (first | apply Kd.R_alloc | apply Kd.R_drewN | apply Kd.R_drew)); exact (Kd.R_mono (Kd.R_far (p := ⟨gb475, 2, none⟩) (Kd.R_far (p := ⟨gb475, 1, none⟩) (Kd.R_far (p := ⟨gb475, 0, none⟩) (Kd.R_types HO464.out BK475.out (by decide)) (fun _ hk => hk.2) (.slice Ao12 t469.length co12)) (fun _ hk => hk.2) (.int .i64 t472)) (fun _ hk => hk.2) (.int .i64 t473)) (fun _ h_ => h_.1)))); (case side4 => exact (Kd.R_reads' HO464.out).2.1); rintro e w20 ⟨rfl, hb⟩; refine ⟨_, rfl, ?_⟩; have n0_ := Aside0.mk (Kd.R_below (by (with_reducible repeat (first | apply Kd.R_alloc | apply Kd.R_drewN | apply Kd.R_drew)); exact (Kd.R_mono (Kd.R_far (p := ⟨gb475, 2, none⟩) (Kd.R_far (p := ⟨gb475, 1, none⟩) (Kd.R_far (p := ⟨gb475, 0, none⟩) (Kd.R_types HO464.out BK475.out (by decide)) (fun _ hk => hk.2) (.slice Ao12 t469.length co12)) (fun _ hk => hk.2) (.int .i64 t472)) (fun _ hk => hk.2) (.int .i64 t473)) (fun _ h_ => h_.1))) hb); have n1_ := Aside0.mk (Kd.R_below (by (with_reducible repeat (first | apply Kd.R_alloc | apply Kd.R_drewN | apply Kd.R_drew)); exact (Kd.R_mono (Kd.R_far (p := ⟨gb475, 2, none⟩) (Kd.R_far (p := ⟨gb475, 1, none⟩) (Kd.R_far (p := ⟨gb475, 0, none⟩) (Kd.R_types HO471.out BK475.out (by decide)) (fun _ hk => hk.2) (.slice Ao12 t469.length co12)) (fun _ hk => hk.2) (.int .i64 t472)) (fun _ hk => hk.2) (.int .i64 t473)) (fun _ h_ => h_.1))) hb); have n2_ := Aside0.mk (blk_below (g := gb468) (o := .cells #[.slice Ao8 t462.length co8, .int .i64 t465, .int .i64 t466] 35 (0, 0)) (by (with_reducible repeat (first | refine blk_drewN ?_ _ | refine blk_drew ?_ | refine blk_alloc ?_ _)); refine blk_far ?_ NB468_475.out _; (with_reducible repeat (first | refine blk_drewN ?_ _ | refine blk_drew ?_ | refine blk_alloc ?_ _)); refine blk_far ?_ NB468_475.out _; (with_reducible repeat (first | refine blk_drewN ?_ _ | refine blk_drew ?_ | refine blk_alloc ?_ _)); refine blk_far ?_ NB468_475.out _; (with_reducible repeat (first | refine blk_drewN ?_ _ | refine blk_drew ?_ | refine blk_alloc ?_ _)); exact BK468.out) hb); have n3_ := Aside0.mk (blk_below (g := gb475) (o := .cells #[.slice Ao12 t469.length co12, .int .i64 t472, .int .i64 t473] 35 (0, 0)) (by (with_reducible repeat (first | refine blk_drewN ?_ _ | refine blk_drew ?_ | refine blk_alloc ?_ _)); refine blk_put (cs := #[.slice Ao12 t469.length co12, .int .i64 t472, .int .i64 0]) ?_ 2 _ rfl; (with_reducible repeat (first | refine blk_drewN ?_ _ | refine blk_drew ?_ | refine blk_alloc ?_ _)); refine blk_put (cs := #[.slice Ao12 t469.length co12, .int .i64 0, .int .i64 0]) ?_ 1 _ rfl; (with_reducible repeat (first | refine blk_drewN ?_ _ | refine blk_drew ?_ | refine blk_alloc ?_ _)); refine blk_put (cs := #[.slice none 0 0, .int .i64 0, .int .i64 0]) ?_ 0 _ rfl; (with_reducible repeat (first | refine blk_drewN ?_ _ | refine blk_drew ?_ | refine blk_alloc ?_ _)); exact BK475.out) hb); have n4_ := Aside0.mk (below_step (by repeat (first | (with_reducible first | exact HB.out | apply below_alloc | apply pw_below_drewN | apply below_drew1 | refine below_set ?_ GE468.out | refine below_set ?_ GE475.out) | exact HB.out)) hb); clear HO464; clear HO471; clear BK468; clear BK475; clear HB; have HO464 := n0_; have HO471 := n1_; have BK468 := n2_; have BK475 := n3_; have HB := n4_; clear n0_ n1_ n2_ n3_ n4_; (try clear hb); (try clear hb2); (try clear hk); (try clear hi)))
        go_meet
        case rel => exact ⟨_, ((t474 != t467)), (by first | rfl | (simp; done) | (simp [*]; done) | (simp [Int.tmod_eq_emod_of_nonneg]; done)), H', ⟨by first | omega | exact Nat.le_refl _⟩, ⟨by (with_reducible repeat (first | apply Kd.R_alloc | apply Kd.R_drewN | apply Kd.R_drew)); exact Kd.R_mono HO464.out (fun _ hk => hk.2)⟩, ⟨by (with_reducible repeat (first | apply Kd.R_alloc | apply Kd.R_drewN | apply Kd.R_drew)); exact Kd.R_mono HO471.out (fun _ hk => hk.2)⟩, ⟨by (with_reducible repeat (first | refine blk_drewN ?_ _ | refine blk_drew ?_ | refine blk_alloc ?_ _)); exact BK468.out⟩, ⟨by (with_reducible repeat (first | refine blk_drewN ?_ _ | refine blk_drew ?_ | refine blk_alloc ?_ _)); exact BK475.out⟩, ⟨by repeat (first | (with_reducible first | exact HB.out | apply below_alloc | apply pw_below_drewN | apply below_drew1 | refine below_set ?_ GE468.out | refine below_set ?_ GE475.out) | exact HB.out)⟩⟩
      · replace c16 := Bool.eq_false_iff.mpr c16
        subst c16
        have H1 : (laws_FnExactMachOf.j0 k a0 t467 true t462 t465 t466 t469 t472 t473) = some r := by rw [if_neg (show ¬ (false = true) by decide)] at H; exact H
        clear H
        have H := H1
        clear H1
        have H' := Aside0.mk H
        clear H
        have hnb21 := NB475_468.out
        have hnc21 := NB468_475.out
        have hcz22_0 : w11.cell? ⟨gb475, 0, none⟩ = some (.slice none 0 0) := (blk_cell BK475.out 0).trans rfl
        have hcz22_1 : w11.cell? ⟨gb475, 1, none⟩ = some (.int .i64 0) := (blk_cell BK475.out 1).trans rfl
        have hcz22_2 : w11.cell? ⟨gb475, 2, none⟩ = some (.int .i64 0) := (blk_cell BK475.out 2).trans rfl
        have hfz22_0 := blk_frozen BK475.out 0
        have hfz22_1 := blk_frozen BK475.out 1
        have hfz22_2 := blk_frozen BK475.out 2
        have hcz23_0 : w11.cell? ⟨gb468, 0, none⟩ = some (.slice Ao8 t462.length co8) := (blk_cell BK468.out 0).trans rfl
        have hcz23_1 : w11.cell? ⟨gb468, 1, none⟩ = some (.int .i64 t465) := (blk_cell BK468.out 1).trans rfl
        have hcz23_2 : w11.cell? ⟨gb468, 2, none⟩ = some (.int .i64 t466) := (blk_cell BK468.out 2).trans rfl
        have hfz23_0 := blk_frozen BK468.out 0
        have hfz23_1 := blk_frozen BK468.out 1
        have hfz23_2 := blk_frozen BK468.out 2
        go_wp2_with (first | ((with_reducible refine gate_callee (f := 15) rfl ?_); refine goesL_ (some 26) rfl rfl Try.func15 (by kernel_rfl) rfl #[.agg #[.slice Ao12 t469.length co12, .int .i64 t472, .int .i64 t473], .agg #[.slice Ao8 t462.length co8, .int .i64 t465, .int .i64 t466]] rfl (by (try simp only [List.map_toArray, List.map_cons, List.map_nil]); first | done | rfl | (simp only [List.length_drop, List.length_take]; rfl)) ?_; (with_reducible refine (laws_eqMachine.calls k _ _ t469 t472 t473 _ _ t462 t465 t466 false _ ?side1 ?side2 ?side3 ?side4 A15.out).mono ?_); (case side1 => refine (Kd.R_reads' (e := 3) (base := w.heap.size) (ok := fun k_ => (True ∧ some k_ ≠ (.slice Ao8 t462.length co8 : Value).ownBlock)) (n := t469.length) (c := co12) ?_).2.2; exact (by (with_reducible repeat (first | apply Kd.R_alloc | apply Kd.R_drewN | apply Kd.R_drew)); exact (Kd.R_mono (Kd.R_far (p := ⟨gb475, 2, none⟩) (Kd.R_far (p := ⟨gb475, 1, none⟩) (Kd.R_far (p := ⟨gb475, 0, none⟩) (Kd.R_types HO471.out BK475.out (by decide)) (fun _ hk => hk.2) (.slice Ao12 t469.length co12)) (fun _ hk => hk.2) (.int .i64 t472)) (fun _ hk => hk.2) (.int .i64 t473)) (fun _ h_ => h_.1)))); (case side2 => exact (Kd.R_reads' HO471.out).2.1); (case side3 => refine (Kd.R_reads' (e := 3) (base := w.heap.size) (ok := fun k_ => (True ∧ some k_ ≠ (.slice Ao12 t469.length co12 : Value).ownBlock)) (n := t462.length) (c := co8) ?_).2.2; exact (by (with_reducible repeat (first | apply Kd.R_alloc | apply Kd.R_drewN | apply Kd.R_drew)); exact (Kd.R_mono (Kd.R_far (p := ⟨gb475, 2, none⟩) (Kd.R_far (p := ⟨gb475, 1, none⟩) (Kd.R_far (p := ⟨gb475, 0, none⟩) (Kd.R_types HO464.out BK475.out (by decide)) (fun _ hk => hk.2) (.slice Ao12 t469.length co12)) (fun _ hk => hk.2) (.int .i64 t472)) (fun _ hk => hk.2) (.int .i64 t473)) (fun _ h_ => h_.1)))); (case side4 => exact (Kd.R_reads' HO464.out).2.1); rintro e w24 ⟨rfl, hb⟩; refine ⟨_, rfl, ?_⟩; have n0_ := Aside0.mk (Kd.R_below (by (with_reducible repeat (first | apply Kd.R_alloc | apply Kd.R_drewN | apply Kd.R_drew)); exact (Kd.R_mono (Kd.R_far (p := ⟨gb475, 2, none⟩) (Kd.R_far (p := ⟨gb475, 1, none⟩) (Kd.R_far (p := ⟨gb475, 0, none⟩) (Kd.R_types HO464.out BK475.out (by decide)) (fun _ hk => hk.2) (.slice Ao12 t469.length co12)) (fun _ hk => hk.2) (.int .i64 t472)) (fun _ hk => hk.2) (.int .i64 t473)) (fun _ h_ => h_.1))) hb); have n1_ := Aside0.mk (Kd.R_below (by (with_reducible repeat (first | apply Kd.R_alloc | apply Kd.R_drewN | apply Kd.R_drew)); exact (Kd.R_mono (Kd.R_far (p := ⟨gb475, 2, none⟩) (Kd.R_far (p := ⟨gb475, 1, none⟩) (Kd.R_far (p := ⟨gb475, 0, none⟩) (Kd.R_types HO471.out BK475.out (by decide)) (fun _ hk => hk.2) (.slice Ao12 t469.length co12)) (fun _ hk => hk.2) (.int .i64 t472)) (fun _ hk => hk.2) (.int .i64 t473)) (fun _ h_ => h_.1))) hb); have n2_ := Aside0.mk (blk_below (g := gb468) (o := .cells #[.slice Ao8 t462.length co8, .int .i64 t465, .int .i64 t466] 35 (0, 0)) (by (with_reducible repeat (first | refine blk_drewN ?_ _ | refine blk_drew ?_ | refine blk_alloc ?_ _)); refine blk_far ?_ NB468_475.out _; (with_reducible repeat (first | refine blk_drewN ?_ _ | refine blk_drew ?_ | refine blk_alloc ?_ _)); refine blk_far ?_ NB468_475.out _; (with_reducible repeat (first | refine blk_drewN ?_ _ | refine blk_drew ?_ | refine blk_alloc ?_ _)); refine blk_far ?_ NB468_475.out _; (with_reducible repeat (first | refine blk_drewN ?_ _ | refine blk_drew ?_ | refine blk_alloc ?_ _)); exact BK468.out) hb); have n3_ := Aside0.mk (blk_below (g := gb475) (o := .cells #[.slice Ao12 t469.length co12, .int .i64 t472, .int .i64 t473] 35 (0, 0)) (by (with_reducible repeat (first | refine blk_drewN ?_ _ | refine blk_drew ?_ | refine blk_alloc ?_ _)); refine blk_put (cs := #[.slice Ao12 t469.length co12, .int .i64 t472, .int .i64 0]) ?_ 2 _ rfl; (with_reducible repeat (first | refine blk_drewN ?_ _ | refine blk_drew ?_ | refine blk_alloc ?_ _)); refine blk_put (cs := #[.slice Ao12 t469.length co12, .int .i64 0, .int .i64 0]) ?_ 1 _ rfl; (with_reducible repeat (first | refine blk_drewN ?_ _ | refine blk_drew ?_ | refine blk_alloc ?_ _)); refine blk_put (cs := #[.slice none 0 0, .int .i64 0, .int .i64 0]) ?_ 0 _ rfl; (with_reducible repeat (first | refine blk_drewN ?_ _ | refine blk_drew ?_ | refine blk_alloc ?_ _)); exact BK475.out) hb); have n4_ := Aside0.mk (below_step (by repeat (first | (with_reducible first | exact HB.out | apply below_alloc | apply pw_below_drewN | apply below_drew1 | refine below_set ?_ GE468.out | refine below_set ?_ GE475.out) | exact HB.out)) hb); clear HO464; clear HO471; clear BK468; clear BK475; clear HB; have HO464 := n0_; have HO471 := n1_; have BK468 := n2_; have BK475 := n3_; have HB := n4_; clear n0_ n1_ n2_ n3_ n4_; (try clear hb); (try clear hb2); (try clear hk); (try clear hi)))
        go_meet
        case rel => exact ⟨_, (true), (by first | rfl | (simp; done) | (simp [*]; done) | (simp [Int.tmod_eq_emod_of_nonneg]; done)), H', ⟨by first | omega | exact Nat.le_refl _⟩, ⟨by (with_reducible repeat (first | apply Kd.R_alloc | apply Kd.R_drewN | apply Kd.R_drew)); exact Kd.R_mono HO464.out (fun _ hk => hk.2)⟩, ⟨by (with_reducible repeat (first | apply Kd.R_alloc | apply Kd.R_drewN | apply Kd.R_drew)); exact Kd.R_mono HO471.out (fun _ hk => hk.2)⟩, ⟨by (with_reducible repeat (first | refine blk_drewN ?_ _ | refine blk_drew ?_ | refine blk_alloc ?_ _)); exact BK468.out⟩, ⟨by (with_reducible repeat (first | refine blk_drewN ?_ _ | refine blk_drew ?_ | refine blk_alloc ?_ _)); exact BK475.out⟩, ⟨by repeat (first | (with_reducible first | exact HB.out | apply below_alloc | apply pw_below_drewN | apply below_drew1 | refine below_set ?_ GE468.out | refine below_set ?_ GE475.out) | exact HB.out)⟩⟩
    case rest =>
      clear HC5
      try clear c1
      try clear c2
      try clear c2b0
      try clear c2b1
      try clear p2
      try clear c5
      try clear c13
      try clear c14
      try clear c15
      try clear c16
      try clear c17
      try clear c21
      try clear hcz14_0
      try clear hcz14_1
      try clear hcz14_2
      try clear hcz18_0
      try clear hcz18_1
      try clear hcz18_2
      try clear hcz19_0
      try clear hcz19_1
      try clear hcz19_2
      try clear hcz22_0
      try clear hcz22_1
      try clear hcz22_2
      try clear hcz23_0
      try clear hcz23_1
      try clear hcz23_2
      try clear hcz9_0
      try clear hcz9_1
      try clear hcz9_2
      try clear hfz14_0
      try clear hfz14_1
      try clear hfz14_2
      try clear hfz18_0
      try clear hfz18_1
      try clear hfz18_2
      try clear hfz19_0
      try clear hfz19_1
      try clear hfz19_2
      try clear hfz22_0
      try clear hfz22_1
      try clear hfz22_2
      try clear hfz23_0
      try clear hfz23_1
      try clear hfz23_2
      try clear hfz9_0
      try clear hfz9_1
      try clear hfz9_2
      obtain ⟨kq, x32_4, rfl, HA, HJ4, HO_469000, HO_476000, BK468, BK475, HB⟩ := hcut
      cases kq with
      | zero => exact absurd HA.out (by simp [laws_FnExactMachOf.j0])
      | succ kj4 =>
        have H := HA.out
        clear HA
        simp only [laws_FnExactMachOf.j0] at H
        by_cases c25 : x32_4 = true
        · subst c25
          have H1 : (some false) = some r := by rw [if_pos rfl] at H; exact H
          clear H
          have H := H1
          clear H1
          obtain rfl := Option.some.inj H
          go_wp2
          go_ret
          exact ⟨by first | rfl | (simp [errW_none, errW_some] <;> rfl) | (simp [*, errW_none, errW_some] <;> rfl) | (simp [errW_none, errW_some]; exact ⟨rfl, rfl⟩), by repeat (first | (with_reducible first | exact HB.out | apply below_alloc | apply pw_below_drewN | apply below_drew1 | refine below_set ?_ GE468.out | refine below_set ?_ GE475.out) | exact HB.out)⟩
        · replace c25 := Bool.eq_false_iff.mpr c25
          subst c25
          have H1 : ((laws_markMachine.f kj4 t469 t472 t473 1).bind fun bt477 => ((laws_heldMachine.f kj4 bt477.2 t472 t473 1).bind fun t479 => (if t479 < 0 then (some false) else (if t479 = bt477.1 then ((impl_MachOf.f kj4 a0).bind fun bt480 => ((laws_eqMachine.f kj4 bt480.1 bt480.2.1 bt480.2.2.1 t462 t465 t466).bind fun t487 => (if t487 = true then (laws_FnExactMachOf.j1 kj4 bt477.1 (bt480.2.2.2 != t467) bt477.2 t472 t473) else (laws_FnExactMachOf.j1 kj4 bt477.1 true bt477.2 t472 t473)))) else (some false))))) = some r := by rw [if_neg (show ¬ (false = true) by decide)] at H; exact H
          clear H
          have H := H1
          clear H1
          replace H := Option.bind_eq_some_iff.mp H
          obtain ⟨⟨t477, t478⟩, A260, H⟩ := H
          replace H : ((laws_heldMachine.f kj4 t478 t472 t473 1).bind fun t479 => (if t479 < 0 then (some false) else (if t479 = t477 then ((impl_MachOf.f kj4 a0).bind fun bt480 => ((laws_eqMachine.f kj4 bt480.1 bt480.2.1 bt480.2.2.1 t462 t465 t466).bind fun t487 => (if t487 = true then (laws_FnExactMachOf.j1 kj4 t477 (bt480.2.2.2 != t467) t478 t472 t473) else (laws_FnExactMachOf.j1 kj4 t477 true t478 t472 t473)))) else (some false)))) = some r := H
          have A26 := Aside0.mk A260
          clear A260
          replace H := Option.bind_eq_some_iff.mp H
          obtain ⟨t479, A270, H⟩ := H
          replace H : (if t479 < 0 then (some false) else (if t479 = t477 then ((impl_MachOf.f kj4 a0).bind fun bt480 => ((laws_eqMachine.f kj4 bt480.1 bt480.2.1 bt480.2.2.1 t462 t465 t466).bind fun t487 => (if t487 = true then (laws_FnExactMachOf.j1 kj4 t477 (bt480.2.2.2 != t467) t478 t472 t473) else (laws_FnExactMachOf.j1 kj4 t477 true t478 t472 t473)))) else (some false))) = some r := H
          have A27 := Aside0.mk A270
          clear A270
          by_cases c28 : t479 < 0
          · rw [if_pos c28] at H
            have c28b0 : decide (t479 < 0) = true := decide_eq_true c28
            clear c28
            obtain rfl := Option.some.inj H
            have hnb29 := NB475_468.out
            have hnc29 := NB468_475.out
            have hcz30_0 : wc.cell? ⟨gb475, 0, none⟩ = some (.slice Ao12 t469.length co12) := (blk_cell BK475.out 0).trans rfl
            have hcz30_1 : wc.cell? ⟨gb475, 1, none⟩ = some (.int .i64 t472) := (blk_cell BK475.out 1).trans rfl
            have hcz30_2 : wc.cell? ⟨gb475, 2, none⟩ = some (.int .i64 t473) := (blk_cell BK475.out 2).trans rfl
            have hfz30_0 := blk_frozen BK475.out 0
            have hfz30_1 := blk_frozen BK475.out 1
            have hfz30_2 := blk_frozen BK475.out 2
            go_wp2_with (first | ((with_reducible refine gate_callee (f := 16) rfl ?_); refine goesL_ (some 35) rfl rfl Try.func16 (by kernel_rfl) rfl #[.agg #[.slice Ao12 t469.length co12, .int .i64 t472, .int .i64 t473], .int .i64 1] rfl (by (try simp only [List.map_toArray, List.map_cons, List.map_nil]); first | done | rfl | (simp only [List.length_drop, List.length_take]; rfl)) ?_; (with_reducible refine (laws_markMachine.calls kj4 (fun k_ => some k_ = (.slice Ao12 t469.length co12 : Value).ownBlock) (.slice Ao12 t469.length co12) t469 t472 t473 1 t477 t478 w _ ?side1 ?side2 A26.out).mono ?_); (case side1 => repeat (first | (with_reducible first | exact HB.out | apply below_alloc | apply pw_below_drewN | apply below_drew1 | refine below_set ?_ GE468.out | refine below_set ?_ GE475.out) | exact HB.out)); (case side2 => exact Kd.R_tight rfl HO_476000.out); rintro e w31 ⟨rfl, hy0, hb, hkp⟩; refine ⟨_, rfl, ?_⟩; have n0_ := Aside0.mk (Kd.R_mono (ok' := fun k_ => some k_ ≠ (.slice Ao12 t469.length co12 : Value).ownBlock) (Kd.R_keptB (HO_469000.out) hkp (fun k_ hk_ hs_ => (hk_) hs_)) (fun k_ hk_ => hk_.1)); have n1_ := Aside0.mk (Kd.R_reok rfl hy0 (fun k_ e_ => HO_476000.out.1 k_ e_)); have n2_ := Aside0.mk (blk_kept (by (with_reducible repeat (first | refine blk_drewN ?_ _ | refine blk_drew ?_ | refine blk_alloc ?_ _)); exact BK468.out) hkp (fun hs_ => (fun e_ => (Kd.R_ne HO_476000.out BK468.out (by decide)) e_) hs_)); have n3_ := Aside0.mk (blk_kept (by (with_reducible repeat (first | refine blk_drewN ?_ _ | refine blk_drew ?_ | refine blk_alloc ?_ _)); exact BK475.out) hkp (fun hs_ => (fun e_ => (Kd.R_ne HO_476000.out BK475.out (by decide)) e_) hs_)); have n4_ := Aside0.mk (hb); clear HO_469000; clear HO_476000; clear BK468; clear BK475; clear HB; have HO_469000 := n0_; have HO_476000 := n1_; have BK468 := n2_; have BK475 := n3_; have HB := n4_; clear n0_ n1_ n2_ n3_ n4_; (try clear hb); (try clear hkp); (try clear hy0); have hcz32_0 : w31.cell? ⟨gb475, 0, none⟩ = some (.slice Ao12 t469.length co12) := (blk_cell BK475.out 0).trans rfl; have hcz32_1 : w31.cell? ⟨gb475, 1, none⟩ = some (.int .i64 t472) := (blk_cell BK475.out 1).trans rfl; have hcz32_2 : w31.cell? ⟨gb475, 2, none⟩ = some (.int .i64 t473) := (blk_cell BK475.out 2).trans rfl; have hfz32_0 := blk_frozen BK475.out 0; have hfz32_1 := blk_frozen BK475.out 1; have hfz32_2 := blk_frozen BK475.out 2) | ((with_reducible refine gate_callee (f := 17) rfl ?_); refine goesL_ (some 38) rfl rfl Try.func17 (by kernel_rfl) rfl #[.agg #[.slice Ao12 t478.length co12, .int .i64 t472, .int .i64 t473], .int .i64 1] rfl (by (try simp only [List.map_toArray, List.map_cons, List.map_nil]); first | done | (rw [show t478.length = t469.length from (Kd.R_reads' HO_476000.out).1.symm] <;> rfl) | rfl | (simp only [List.length_drop, List.length_take]; rfl)) ?_; (with_reducible refine (laws_heldMachine.calls kj4 _ _ t478 t472 t473 1 t479 _ ?side1 ?side2 A27.out).mono ?_); (case side1 => repeat (first | exact (Kd.R_reads' HO_476000.out).2.2 | (with_reducible refine Kd.C_alloc ?_ _) | (with_reducible refine Kd.C_drewN ?_ _) | (with_reducible refine Kd.C_drew ?_))); (case side2 => rw [show t478.length = t469.length from (Kd.R_reads' HO_476000.out).1.symm]; exact (Kd.R_reads' HO_476000.out).2.1); rintro e w33 ⟨rfl, hb⟩; refine ⟨_, rfl, ?_⟩; have n0_ := Aside0.mk (Kd.R_below (by (with_reducible repeat (first | apply Kd.R_alloc | apply Kd.R_drewN | apply Kd.R_drew)); exact HO_469000.out) hb); have n1_ := Aside0.mk (Kd.R_below (by (with_reducible repeat (first | apply Kd.R_alloc | apply Kd.R_drewN | apply Kd.R_drew)); exact HO_476000.out) hb); have n2_ := Aside0.mk (blk_below (g := gb468) (o := .cells #[.slice Ao8 t462.length co8, .int .i64 t465, .int .i64 t466] 35 (0, 0)) (by (with_reducible repeat (first | refine blk_drewN ?_ _ | refine blk_drew ?_ | refine blk_alloc ?_ _)); exact BK468.out) hb); have n3_ := Aside0.mk (blk_below (g := gb475) (o := .cells #[.slice Ao12 t469.length co12, .int .i64 t472, .int .i64 t473] 35 (0, 0)) (by (with_reducible repeat (first | refine blk_drewN ?_ _ | refine blk_drew ?_ | refine blk_alloc ?_ _)); exact BK475.out) hb); have n4_ := Aside0.mk (below_step (by repeat (first | (with_reducible first | exact HB.out | apply below_alloc | apply pw_below_drewN | apply below_drew1 | refine below_set ?_ GE468.out | refine below_set ?_ GE475.out) | exact HB.out)) hb); clear HO_469000; clear HO_476000; clear BK468; clear BK475; clear HB; have HO_469000 := n0_; have HO_476000 := n1_; have BK468 := n2_; have BK475 := n3_; have HB := n4_; clear n0_ n1_ n2_ n3_ n4_; (try clear hb); (try clear hb2); (try clear hk); (try clear hi)))
            go_ret
            exact ⟨by first | rfl | (simp [errW_none, errW_some] <;> rfl) | (simp [*, errW_none, errW_some] <;> rfl) | (simp [errW_none, errW_some]; exact ⟨rfl, rfl⟩), by repeat (first | (with_reducible first | exact HB.out | apply below_alloc | apply pw_below_drewN | apply below_drew1 | refine below_set ?_ GE468.out | refine below_set ?_ GE475.out) | exact HB.out)⟩
          · rw [if_neg c28] at H
            have c28b0 : decide (t479 < 0) = false := decide_eq_false c28
            clear c28
            by_cases c34 : t479 = t477
            · rw [if_pos c34] at H
              have c34b0 : (t479 == t477) = true := beq_iff_eq.mpr c34
              have c34b1 : (t479 != t477) = false := bne_eq_false_iff_eq.mpr c34
              clear c34
              replace H := Option.bind_eq_some_iff.mp H
              obtain ⟨⟨t480, t483, t484, t485⟩, A350, H⟩ := H
              replace H : ((laws_eqMachine.f kj4 t480 t483 t484 t462 t465 t466).bind fun t487 => (if t487 = true then (laws_FnExactMachOf.j1 kj4 t477 (t485 != t467) t478 t472 t473) else (laws_FnExactMachOf.j1 kj4 t477 true t478 t472 t473))) = some r := H
              have A35 := Aside0.mk A350
              clear A350
              have HC36 := Aside0.mk H
              clear H
              have hnb37 := NB475_468.out
              have hnc37 := NB468_475.out
              have hcz38_0 : wc.cell? ⟨gb475, 0, none⟩ = some (.slice Ao12 t469.length co12) := (blk_cell BK475.out 0).trans rfl
              have hcz38_1 : wc.cell? ⟨gb475, 1, none⟩ = some (.int .i64 t472) := (blk_cell BK475.out 1).trans rfl
              have hcz38_2 : wc.cell? ⟨gb475, 2, none⟩ = some (.int .i64 t473) := (blk_cell BK475.out 2).trans rfl
              have hfz38_0 := blk_frozen BK475.out 0
              have hfz38_1 := blk_frozen BK475.out 1
              have hfz38_2 := blk_frozen BK475.out 2
              go_upto_region 16 with (first | ((with_reducible refine gate_callee (f := 16) rfl ?_); refine goesL_ (some 35) rfl rfl Try.func16 (by kernel_rfl) rfl #[.agg #[.slice Ao12 t469.length co12, .int .i64 t472, .int .i64 t473], .int .i64 1] rfl (by (try simp only [List.map_toArray, List.map_cons, List.map_nil]); first | done | rfl | (simp only [List.length_drop, List.length_take]; rfl)) ?_; (with_reducible refine (laws_markMachine.calls kj4 (fun k_ => some k_ = (.slice Ao12 t469.length co12 : Value).ownBlock) (.slice Ao12 t469.length co12) t469 t472 t473 1 t477 t478 w _ ?side1 ?side2 A26.out).mono ?_); (case side1 => repeat (first | (with_reducible first | exact HB.out | apply below_alloc | apply pw_below_drewN | apply below_drew1 | refine below_set ?_ GE468.out | refine below_set ?_ GE475.out) | exact HB.out)); (case side2 => exact Kd.R_tight rfl HO_476000.out); rintro e w39 ⟨rfl, hy0, hb, hkp⟩; refine ⟨_, rfl, ?_⟩; have n0_ := Aside0.mk (Kd.R_mono (ok' := fun k_ => some k_ ≠ (.slice Ao12 t469.length co12 : Value).ownBlock) (Kd.R_keptB (HO_469000.out) hkp (fun k_ hk_ hs_ => (hk_) hs_)) (fun k_ hk_ => hk_.1)); have n1_ := Aside0.mk (Kd.R_reok rfl hy0 (fun k_ e_ => HO_476000.out.1 k_ e_)); have n2_ := Aside0.mk (blk_kept (by (with_reducible repeat (first | refine blk_drewN ?_ _ | refine blk_drew ?_ | refine blk_alloc ?_ _)); exact BK468.out) hkp (fun hs_ => (fun e_ => (Kd.R_ne HO_476000.out BK468.out (by decide)) e_) hs_)); have n3_ := Aside0.mk (blk_kept (by (with_reducible repeat (first | refine blk_drewN ?_ _ | refine blk_drew ?_ | refine blk_alloc ?_ _)); exact BK475.out) hkp (fun hs_ => (fun e_ => (Kd.R_ne HO_476000.out BK475.out (by decide)) e_) hs_)); have n4_ := Aside0.mk (hb); clear HO_469000; clear HO_476000; clear BK468; clear BK475; clear HB; have HO_469000 := n0_; have HO_476000 := n1_; have BK468 := n2_; have BK475 := n3_; have HB := n4_; clear n0_ n1_ n2_ n3_ n4_; (try clear hb); (try clear hkp); (try clear hy0); have hcz40_0 : w39.cell? ⟨gb475, 0, none⟩ = some (.slice Ao12 t469.length co12) := (blk_cell BK475.out 0).trans rfl; have hcz40_1 : w39.cell? ⟨gb475, 1, none⟩ = some (.int .i64 t472) := (blk_cell BK475.out 1).trans rfl; have hcz40_2 : w39.cell? ⟨gb475, 2, none⟩ = some (.int .i64 t473) := (blk_cell BK475.out 2).trans rfl; have hfz40_0 := blk_frozen BK475.out 0; have hfz40_1 := blk_frozen BK475.out 1; have hfz40_2 := blk_frozen BK475.out 2) | ((with_reducible refine gate_callee (f := 17) rfl ?_); refine goesL_ (some 38) rfl rfl Try.func17 (by kernel_rfl) rfl #[.agg #[.slice Ao12 t478.length co12, .int .i64 t472, .int .i64 t473], .int .i64 1] rfl (by (try simp only [List.map_toArray, List.map_cons, List.map_nil]); first | done | (rw [show t478.length = t469.length from (Kd.R_reads' HO_476000.out).1.symm] <;> rfl) | rfl | (simp only [List.length_drop, List.length_take]; rfl)) ?_; (with_reducible refine (laws_heldMachine.calls kj4 _ _ t478 t472 t473 1 t479 _ ?side1 ?side2 A27.out).mono ?_); (case side1 => repeat (first | exact (Kd.R_reads' HO_476000.out).2.2 | (with_reducible refine Kd.C_alloc ?_ _) | (with_reducible refine Kd.C_drewN ?_ _) | (with_reducible refine Kd.C_drew ?_))); (case side2 => rw [show t478.length = t469.length from (Kd.R_reads' HO_476000.out).1.symm]; exact (Kd.R_reads' HO_476000.out).2.1); rintro e w41 ⟨rfl, hb⟩; refine ⟨_, rfl, ?_⟩; have n0_ := Aside0.mk (Kd.R_below (by (with_reducible repeat (first | apply Kd.R_alloc | apply Kd.R_drewN | apply Kd.R_drew)); exact HO_469000.out) hb); have n1_ := Aside0.mk (Kd.R_below (by (with_reducible repeat (first | apply Kd.R_alloc | apply Kd.R_drewN | apply Kd.R_drew)); exact HO_476000.out) hb); have n2_ := Aside0.mk (blk_below (g := gb468) (o := .cells #[.slice Ao8 t462.length co8, .int .i64 t465, .int .i64 t466] 35 (0, 0)) (by (with_reducible repeat (first | refine blk_drewN ?_ _ | refine blk_drew ?_ | refine blk_alloc ?_ _)); exact BK468.out) hb); have n3_ := Aside0.mk (blk_below (g := gb475) (o := .cells #[.slice Ao12 t469.length co12, .int .i64 t472, .int .i64 t473] 35 (0, 0)) (by (with_reducible repeat (first | refine blk_drewN ?_ _ | refine blk_drew ?_ | refine blk_alloc ?_ _)); exact BK475.out) hb); have n4_ := Aside0.mk (below_step (by repeat (first | (with_reducible first | exact HB.out | apply below_alloc | apply pw_below_drewN | apply below_drew1 | refine below_set ?_ GE468.out | refine below_set ?_ GE475.out) | exact HB.out)) hb); clear HO_469000; clear HO_476000; clear BK468; clear BK475; clear HB; have HO_469000 := n0_; have HO_476000 := n1_; have BK468 := n2_; have BK475 := n3_; have HB := n4_; clear n0_ n1_ n2_ n3_ n4_; (try clear hb); (try clear hb2); (try clear hk); (try clear hi)) | ((with_reducible refine gate_callee (f := 14) rfl ?_); refine goesL_ (some 46) rfl rfl Try.func14 (by kernel_rfl) rfl #[.string a0] rfl (by (try simp only [List.map_toArray, List.map_cons, List.map_nil]); first | done | rfl | (simp only [List.length_drop, List.length_take]; rfl)) ?_; (with_reducible refine (impl_MachOf.calls kj4 a0 t480 t483 t484 t485 _ A35.out).mono ?_); rintro e w42 ⟨v481, rfl, ho0, hb⟩; refine ⟨_, rfl, ?_⟩; have n0_ := Aside0.mk (Kd.R_elder' (by (with_reducible repeat (first | apply Kd.R_alloc | apply Kd.R_drewN | apply Kd.R_drew)); exact HO_469000.out) (Kd.R_base ho0) hb); have n1_ := Aside0.mk (Kd.R_elder' (by (with_reducible repeat (first | apply Kd.R_alloc | apply Kd.R_drewN | apply Kd.R_drew)); exact HO_476000.out) (Kd.R_base ho0) hb); have n2_ := Aside0.mk (Kd.R_lower (Kd.R_new' (Kd.R_new' ho0 (Kd.R_lt (by (with_reducible repeat (first | apply Kd.R_alloc | apply Kd.R_drewN | apply Kd.R_drew)); exact HO_469000.out))) (Kd.R_lt (by (with_reducible repeat (first | apply Kd.R_alloc | apply Kd.R_drewN | apply Kd.R_drew)); exact HO_476000.out))) (below_size (by repeat (first | (with_reducible first | exact HB.out | apply below_alloc | apply pw_below_drewN | apply below_drew1 | refine below_set ?_ GE468.out | refine below_set ?_ GE475.out) | exact HB.out)))); have n3_ := Aside0.mk (blk_below (g := gb468) (o := .cells #[.slice Ao8 t462.length co8, .int .i64 t465, .int .i64 t466] 35 (0, 0)) (by (with_reducible repeat (first | refine blk_drewN ?_ _ | refine blk_drew ?_ | refine blk_alloc ?_ _)); exact BK468.out) hb); have n4_ := Aside0.mk (blk_below (g := gb475) (o := .cells #[.slice Ao12 t469.length co12, .int .i64 t472, .int .i64 t473] 35 (0, 0)) (by (with_reducible repeat (first | refine blk_drewN ?_ _ | refine blk_drew ?_ | refine blk_alloc ?_ _)); exact BK475.out) hb); have n5_ := Aside0.mk (below_step (by repeat (first | (with_reducible first | exact HB.out | apply below_alloc | apply pw_below_drewN | apply below_drew1 | refine below_set ?_ GE468.out | refine below_set ?_ GE475.out) | exact HB.out)) hb); clear HO_469000; clear HO_476000; clear BK468; clear BK475; clear HB; have HO_469000 := n0_; have HO_476000 := n1_; have HO482 := n2_; have BK468 := n3_; have BK475 := n4_; have HB := n5_; clear n0_ n1_ n2_ n3_ n4_ n5_; (try clear hb); (try clear hb2); (try clear hk); (try clear hi); (try clear ho0)) | ((with_reducible refine gate_dst (N := 9) rfl ?_); refine box_event ?hg (N := 9) ?hd (cs := #[.slice none 0 0, .int .i64 0, .int .i64 0]) (t := 35) ?hr ?_; (case hd => rfl); (case hg => rfl); (case hr => first | (go_simp; done) | (go_simp; rfl)); intro gb486 hg w43 hbox hb; have n0_ := Aside0.mk (Kd.R_below (by (with_reducible repeat (first | apply Kd.R_alloc | apply Kd.R_drewN | apply Kd.R_drew)); exact HO_469000.out) hb); have n1_ := Aside0.mk (Kd.R_below (by (with_reducible repeat (first | apply Kd.R_alloc | apply Kd.R_drewN | apply Kd.R_drew)); exact HO_476000.out) hb); have n2_ := Aside0.mk (Kd.R_below (by (with_reducible repeat (first | apply Kd.R_alloc | apply Kd.R_drewN | apply Kd.R_drew)); exact HO482.out) hb); have n3_ := Aside0.mk (blk_below (g := gb468) (o := .cells #[.slice Ao8 t462.length co8, .int .i64 t465, .int .i64 t466] 35 (0, 0)) (by (with_reducible repeat (first | refine blk_drewN ?_ _ | refine blk_drew ?_ | refine blk_alloc ?_ _)); exact BK468.out) hb); have n4_ := Aside0.mk (blk_below (g := gb475) (o := .cells #[.slice Ao12 t469.length co12, .int .i64 t472, .int .i64 t473] 35 (0, 0)) (by (with_reducible repeat (first | refine blk_drewN ?_ _ | refine blk_drew ?_ | refine blk_alloc ?_ _)); exact BK475.out) hb); have n5_ := Aside0.mk (below_step (by repeat (first | (with_reducible first | exact HB.out | apply below_alloc | apply pw_below_drewN | apply below_drew1 | refine below_set ?_ GE468.out | refine below_set ?_ GE475.out) | exact HB.out)) hb); have n6_ := Aside0.mk (hbox); have n7_ := Aside0.mk ((by rw [hg]; exact (below_size (by repeat (first | (with_reducible first | exact HB.out | apply below_alloc | apply pw_below_drewN | apply below_drew1 | refine below_set ?_ GE468.out | refine below_set ?_ GE475.out) | exact HB.out))) : w.heap.size ≤ gb486)); have n8_ := Aside0.mk ((by rw [hg]; exact (below_size (by repeat (first | (with_reducible first | exact HB.out | apply below_alloc | apply pw_below_drewN | apply below_drew1 | refine below_set ?_ GE468.out | refine below_set ?_ GE475.out) | exact HB.out))) : w.heap.size ≤ gb486)); have n9_ := Aside0.mk ((by rw [hg]; exact Nat.ne_of_lt (blk_lt (g := gb468) (o := .cells #[.slice Ao8 t462.length co8, .int .i64 t465, .int .i64 t466] 35 (0, 0)) (by (with_reducible repeat (first | refine blk_drewN ?_ _ | refine blk_drew ?_ | refine blk_alloc ?_ _)); exact BK468.out)) : gb468 ≠ gb486)); have n10_ := Aside0.mk ((by rw [hg]; exact Nat.ne_of_gt (blk_lt (g := gb468) (o := .cells #[.slice Ao8 t462.length co8, .int .i64 t465, .int .i64 t466] 35 (0, 0)) (by (with_reducible repeat (first | refine blk_drewN ?_ _ | refine blk_drew ?_ | refine blk_alloc ?_ _)); exact BK468.out)) : gb486 ≠ gb468)); have n11_ := Aside0.mk ((by rw [hg]; exact Nat.ne_of_lt (blk_lt (g := gb475) (o := .cells #[.slice Ao12 t469.length co12, .int .i64 t472, .int .i64 t473] 35 (0, 0)) (by (with_reducible repeat (first | refine blk_drewN ?_ _ | refine blk_drew ?_ | refine blk_alloc ?_ _)); exact BK475.out)) : gb475 ≠ gb486)); have n12_ := Aside0.mk ((by rw [hg]; exact Nat.ne_of_gt (blk_lt (g := gb475) (o := .cells #[.slice Ao12 t469.length co12, .int .i64 t472, .int .i64 t473] 35 (0, 0)) (by (with_reducible repeat (first | refine blk_drewN ?_ _ | refine blk_drew ?_ | refine blk_alloc ?_ _)); exact BK475.out)) : gb486 ≠ gb475)); clear HO_469000; clear HO_476000; clear HO482; clear BK468; clear BK475; clear HB; have HO_469000 := n0_; have HO_476000 := n1_; have HO482 := n2_; have BK468 := n3_; have BK475 := n4_; have HB := n5_; have BK486 := n6_; have GW486 := n7_; have GE486 := n8_; have NB468_486 := n9_; have NB486_468 := n10_; have NB475_486 := n11_; have NB486_475 := n12_; clear n0_ n1_ n2_ n3_ n4_ n5_ n6_ n7_ n8_ n9_ n10_ n11_ n12_; clear hb hbox hg; obtain ⟨Ao44, co44, eo44⟩ := Kd.R_slice HO482.out; subst eo44; have hnb45 := NB486_468.out; have hnc45 := NB468_486.out; have hnb46 := NB486_475.out; have hnc46 := NB475_486.out; have hcz47_0 : w43.cell? ⟨gb486, 0, none⟩ = some (.slice none 0 0) := (blk_cell BK486.out 0).trans rfl; have hcz47_1 : w43.cell? ⟨gb486, 1, none⟩ = some (.int .i64 0) := (blk_cell BK486.out 1).trans rfl; have hcz47_2 : w43.cell? ⟨gb486, 2, none⟩ = some (.int .i64 0) := (blk_cell BK486.out 2).trans rfl; have hfz47_0 := blk_frozen BK486.out 0; have hfz47_1 := blk_frozen BK486.out 1; have hfz47_2 := blk_frozen BK486.out 2))
              (try simp only [Act.put, List.setIfInBounds_toArray, List.set_cons_zero, List.set_cons_succ])
              go_cut [57] (fun v57 wc => ∃ (kq : Nat) (x57_35 : Bool), v57 = .bool x57_35 ∧ Aside0 (laws_FnExactMachOf.j1 kq t477 x57_35 t478 t472 t473 = some r) ∧ Aside0 (kq ≤ kj4) ∧ Aside0 (Kd.R (Kd.int .i64) 3 wc w.heap.size (fun k_ => some k_ ≠ ((.slice Ao12 t469.length co12) : Value).ownBlock ∧ some k_ ≠ ((.slice Ao44 t480.length co44) : Value).ownBlock) (.slice Ao8 t462.length co8) t462) ∧ Aside0 (Kd.R (Kd.int .i64) 3 wc w.heap.size (fun k_ => some k_ ≠ ((.slice Ao8 t462.length co8) : Value).ownBlock ∧ some k_ ≠ ((.slice Ao44 t480.length co44) : Value).ownBlock) (.slice Ao12 t469.length co12) t478) ∧ Aside0 (Kd.R (Kd.int .i64) 3 wc w.heap.size (fun k_ => some k_ ≠ ((.slice Ao8 t462.length co8) : Value).ownBlock ∧ some k_ ≠ ((.slice Ao12 t469.length co12) : Value).ownBlock) (.slice Ao44 t480.length co44) t480) ∧ Aside0 (wc.heap[gb468]? = some (.cells #[(.slice Ao8 t462.length co8), .int .i64 t465, .int .i64 t466] 35 (0, 0))) ∧ Aside0 (wc.heap[gb475]? = some (.cells #[(.slice Ao12 t469.length co12), .int .i64 t472, .int .i64 t473] 35 (0, 0))) ∧ Aside0 (wc.heap[gb486]? = some (.cells #[(.slice Ao44 t480.length co44), .int .i64 t483, .int .i64 t484] 35 (0, 0))) ∧ Aside0 (Below w.heap.size w wc))
              case first =>
                have H := HC36.out
                clear HC36
                replace H := Option.bind_eq_some_iff.mp H
                obtain ⟨t487, A480, H⟩ := H
                replace H : (if t487 = true then (laws_FnExactMachOf.j1 kj4 t477 (t485 != t467) t478 t472 t473) else (laws_FnExactMachOf.j1 kj4 t477 true t478 t472 t473)) = some r := H
                have A48 := Aside0.mk A480
                clear A480
                by_cases c49 : t487 = true
                · subst c49
                  have H1 : (laws_FnExactMachOf.j1 kj4 t477 (t485 != t467) t478 t472 t473) = some r := by rw [if_pos rfl] at H; exact H
                  clear H
                  have H := H1
                  clear H1
                  have H' := Aside0.mk H
                  clear H
                  have hnb50 := NB486_468.out
                  have hnc50 := NB468_486.out
                  have hnb51 := NB486_475.out
                  have hnc51 := NB475_486.out
                  have hcz52_0 : w43.cell? ⟨gb486, 0, none⟩ = some (.slice none 0 0) := (blk_cell BK486.out 0).trans rfl
                  have hcz52_1 : w43.cell? ⟨gb486, 1, none⟩ = some (.int .i64 0) := (blk_cell BK486.out 1).trans rfl
                  have hcz52_2 : w43.cell? ⟨gb486, 2, none⟩ = some (.int .i64 0) := (blk_cell BK486.out 2).trans rfl
                  have hfz52_0 := blk_frozen BK486.out 0
                  have hfz52_1 := blk_frozen BK486.out 1
                  have hfz52_2 := blk_frozen BK486.out 2
                  have hnb53 := NB468_475.out
                  have hnc53 := NB475_468.out
                  have hcz54_0 : w43.cell? ⟨gb468, 0, none⟩ = some (.slice Ao8 t462.length co8) := (blk_cell BK468.out 0).trans rfl
                  have hcz54_1 : w43.cell? ⟨gb468, 1, none⟩ = some (.int .i64 t465) := (blk_cell BK468.out 1).trans rfl
                  have hcz54_2 : w43.cell? ⟨gb468, 2, none⟩ = some (.int .i64 t466) := (blk_cell BK468.out 2).trans rfl
                  have hfz54_0 := blk_frozen BK468.out 0
                  have hfz54_1 := blk_frozen BK468.out 1
                  have hfz54_2 := blk_frozen BK468.out 2
                  go_wp2_with (first | ((with_reducible refine gate_callee (f := 15) rfl ?_); refine goesL_ (some 51) rfl rfl Try.func15 (by kernel_rfl) rfl #[.agg #[.slice Ao44 t480.length co44, .int .i64 t483, .int .i64 t484], .agg #[.slice Ao8 t462.length co8, .int .i64 t465, .int .i64 t466]] rfl (by (try simp only [List.map_toArray, List.map_cons, List.map_nil]); first | done | rfl | (simp only [List.length_drop, List.length_take]; rfl)) ?_; (with_reducible refine (laws_eqMachine.calls kj4 _ _ t480 t483 t484 _ _ t462 t465 t466 true _ ?side1 ?side2 ?side3 ?side4 A48.out).mono ?_); (case side1 => refine (Kd.R_reads' (e := 3) (base := w.heap.size) (ok := fun k_ => ((True ∧ some k_ ≠ (.slice Ao8 t462.length co8 : Value).ownBlock) ∧ some k_ ≠ (.slice Ao12 t469.length co12 : Value).ownBlock)) (n := t480.length) (c := co44) ?_).2.2; exact (by (with_reducible repeat (first | apply Kd.R_alloc | apply Kd.R_drewN | apply Kd.R_drew)); exact (Kd.R_mono (Kd.R_far (p := ⟨gb486, 2, none⟩) (Kd.R_far (p := ⟨gb486, 1, none⟩) (Kd.R_far (p := ⟨gb486, 0, none⟩) (Kd.R_types HO482.out BK486.out (by decide)) (fun _ hk => hk.2) (.slice Ao44 t480.length co44)) (fun _ hk => hk.2) (.int .i64 t483)) (fun _ hk => hk.2) (.int .i64 t484)) (fun _ h_ => h_.1)))); (case side2 => exact (Kd.R_reads' HO482.out).2.1); (case side3 => refine (Kd.R_reads' (e := 3) (base := w.heap.size) (ok := fun k_ => (some k_ ≠ (.slice Ao12 t469.length co12 : Value).ownBlock ∧ some k_ ≠ (.slice Ao44 t480.length co44 : Value).ownBlock)) (n := t462.length) (c := co8) ?_).2.2; exact (by (with_reducible repeat (first | apply Kd.R_alloc | apply Kd.R_drewN | apply Kd.R_drew)); exact (Kd.R_mono (Kd.R_far (p := ⟨gb486, 2, none⟩) (Kd.R_far (p := ⟨gb486, 1, none⟩) (Kd.R_far (p := ⟨gb486, 0, none⟩) (Kd.R_types HO_469000.out BK486.out (by decide)) (fun _ hk => hk.2) (.slice Ao44 t480.length co44)) (fun _ hk => hk.2) (.int .i64 t483)) (fun _ hk => hk.2) (.int .i64 t484)) (fun _ h_ => h_.1)))); (case side4 => exact (Kd.R_reads' HO_469000.out).2.1); rintro e w55 ⟨rfl, hb⟩; refine ⟨_, rfl, ?_⟩; have n0_ := Aside0.mk (Kd.R_below (by (with_reducible repeat (first | apply Kd.R_alloc | apply Kd.R_drewN | apply Kd.R_drew)); exact (Kd.R_mono (Kd.R_far (p := ⟨gb486, 2, none⟩) (Kd.R_far (p := ⟨gb486, 1, none⟩) (Kd.R_far (p := ⟨gb486, 0, none⟩) (Kd.R_types HO_469000.out BK486.out (by decide)) (fun _ hk => hk.2) (.slice Ao44 t480.length co44)) (fun _ hk => hk.2) (.int .i64 t483)) (fun _ hk => hk.2) (.int .i64 t484)) (fun _ h_ => h_.1))) hb); have n1_ := Aside0.mk (Kd.R_below (by (with_reducible repeat (first | apply Kd.R_alloc | apply Kd.R_drewN | apply Kd.R_drew)); exact (Kd.R_mono (Kd.R_far (p := ⟨gb486, 2, none⟩) (Kd.R_far (p := ⟨gb486, 1, none⟩) (Kd.R_far (p := ⟨gb486, 0, none⟩) (Kd.R_types HO_476000.out BK486.out (by decide)) (fun _ hk => hk.2) (.slice Ao44 t480.length co44)) (fun _ hk => hk.2) (.int .i64 t483)) (fun _ hk => hk.2) (.int .i64 t484)) (fun _ h_ => h_.1))) hb); have n2_ := Aside0.mk (Kd.R_below (by (with_reducible repeat (first | apply Kd.R_alloc | apply Kd.R_drewN | apply Kd.R_drew)); exact (Kd.R_mono (Kd.R_far (p := ⟨gb486, 2, none⟩) (Kd.R_far (p := ⟨gb486, 1, none⟩) (Kd.R_far (p := ⟨gb486, 0, none⟩) (Kd.R_types HO482.out BK486.out (by decide)) (fun _ hk => hk.2) (.slice Ao44 t480.length co44)) (fun _ hk => hk.2) (.int .i64 t483)) (fun _ hk => hk.2) (.int .i64 t484)) (fun _ h_ => h_.1))) hb); have n3_ := Aside0.mk (blk_below (g := gb468) (o := .cells #[.slice Ao8 t462.length co8, .int .i64 t465, .int .i64 t466] 35 (0, 0)) (by (with_reducible repeat (first | refine blk_drewN ?_ _ | refine blk_drew ?_ | refine blk_alloc ?_ _)); refine blk_far ?_ NB468_486.out _; (with_reducible repeat (first | refine blk_drewN ?_ _ | refine blk_drew ?_ | refine blk_alloc ?_ _)); refine blk_far ?_ NB468_486.out _; (with_reducible repeat (first | refine blk_drewN ?_ _ | refine blk_drew ?_ | refine blk_alloc ?_ _)); refine blk_far ?_ NB468_486.out _; (with_reducible repeat (first | refine blk_drewN ?_ _ | refine blk_drew ?_ | refine blk_alloc ?_ _)); exact BK468.out) hb); have n4_ := Aside0.mk (blk_below (g := gb475) (o := .cells #[.slice Ao12 t469.length co12, .int .i64 t472, .int .i64 t473] 35 (0, 0)) (by (with_reducible repeat (first | refine blk_drewN ?_ _ | refine blk_drew ?_ | refine blk_alloc ?_ _)); refine blk_far ?_ NB475_486.out _; (with_reducible repeat (first | refine blk_drewN ?_ _ | refine blk_drew ?_ | refine blk_alloc ?_ _)); refine blk_far ?_ NB475_486.out _; (with_reducible repeat (first | refine blk_drewN ?_ _ | refine blk_drew ?_ | refine blk_alloc ?_ _)); refine blk_far ?_ NB475_486.out _; (with_reducible repeat (first | refine blk_drewN ?_ _ | refine blk_drew ?_ | refine blk_alloc ?_ _)); exact BK475.out) hb); have n5_ := Aside0.mk (blk_below (g := gb486) (o := .cells #[.slice Ao44 t480.length co44, .int .i64 t483, .int .i64 t484] 35 (0, 0)) (by (with_reducible repeat (first | refine blk_drewN ?_ _ | refine blk_drew ?_ | refine blk_alloc ?_ _)); refine blk_put (cs := #[.slice Ao44 t480.length co44, .int .i64 t483, .int .i64 0]) ?_ 2 _ rfl; (with_reducible repeat (first | refine blk_drewN ?_ _ | refine blk_drew ?_ | refine blk_alloc ?_ _)); refine blk_put (cs := #[.slice Ao44 t480.length co44, .int .i64 0, .int .i64 0]) ?_ 1 _ rfl; (with_reducible repeat (first | refine blk_drewN ?_ _ | refine blk_drew ?_ | refine blk_alloc ?_ _)); refine blk_put (cs := #[.slice none 0 0, .int .i64 0, .int .i64 0]) ?_ 0 _ rfl; (with_reducible repeat (first | refine blk_drewN ?_ _ | refine blk_drew ?_ | refine blk_alloc ?_ _)); exact BK486.out) hb); have n6_ := Aside0.mk (below_step (by repeat (first | (with_reducible first | exact HB.out | apply below_alloc | apply pw_below_drewN | apply below_drew1 | refine below_set ?_ GE468.out | refine below_set ?_ GE475.out | refine below_set ?_ GE486.out) | exact HB.out)) hb); clear HO_469000; clear HO_476000; clear HO482; clear BK468; clear BK475; clear BK486; clear HB; have HO_469000 := n0_; have HO_476000 := n1_; have HO482 := n2_; have BK468 := n3_; have BK475 := n4_; have BK486 := n5_; have HB := n6_; clear n0_ n1_ n2_ n3_ n4_ n5_ n6_; (try clear hb); (try clear hb2); (try clear hk); (try clear hi)))
                  go_meet
                  case rel => exact ⟨_, ((t485 != t467)), (by first | rfl | (simp; done) | (simp [*]; done) | (simp [Int.tmod_eq_emod_of_nonneg]; done)), H', ⟨by have := HJ4.out; first | omega | exact Nat.le_refl _⟩, ⟨by (with_reducible repeat (first | apply Kd.R_alloc | apply Kd.R_drewN | apply Kd.R_drew)); exact HO_469000.out⟩, ⟨by (with_reducible repeat (first | apply Kd.R_alloc | apply Kd.R_drewN | apply Kd.R_drew)); exact HO_476000.out⟩, ⟨by (with_reducible repeat (first | apply Kd.R_alloc | apply Kd.R_drewN | apply Kd.R_drew)); exact Kd.R_mono HO482.out (fun _ hk => ⟨hk.1.2, hk.2⟩)⟩, ⟨by (with_reducible repeat (first | refine blk_drewN ?_ _ | refine blk_drew ?_ | refine blk_alloc ?_ _)); exact BK468.out⟩, ⟨by (with_reducible repeat (first | refine blk_drewN ?_ _ | refine blk_drew ?_ | refine blk_alloc ?_ _)); exact BK475.out⟩, ⟨by (with_reducible repeat (first | refine blk_drewN ?_ _ | refine blk_drew ?_ | refine blk_alloc ?_ _)); exact BK486.out⟩, ⟨by repeat (first | (with_reducible first | exact HB.out | apply below_alloc | apply pw_below_drewN | apply below_drew1 | refine below_set ?_ GE468.out | refine below_set ?_ GE475.out | refine below_set ?_ GE486.out) | exact HB.out)⟩⟩
                · replace c49 := Bool.eq_false_iff.mpr c49
                  subst c49
                  have H1 : (laws_FnExactMachOf.j1 kj4 t477 true t478 t472 t473) = some r := by rw [if_neg (show ¬ (false = true) by decide)] at H; exact H
                  clear H
                  have H := H1
                  clear H1
                  have H' := Aside0.mk H
                  clear H
                  have hnb56 := NB486_468.out
                  have hnc56 := NB468_486.out
                  have hnb57 := NB486_475.out
                  have hnc57 := NB475_486.out
                  have hcz58_0 : w43.cell? ⟨gb486, 0, none⟩ = some (.slice none 0 0) := (blk_cell BK486.out 0).trans rfl
                  have hcz58_1 : w43.cell? ⟨gb486, 1, none⟩ = some (.int .i64 0) := (blk_cell BK486.out 1).trans rfl
                  have hcz58_2 : w43.cell? ⟨gb486, 2, none⟩ = some (.int .i64 0) := (blk_cell BK486.out 2).trans rfl
                  have hfz58_0 := blk_frozen BK486.out 0
                  have hfz58_1 := blk_frozen BK486.out 1
                  have hfz58_2 := blk_frozen BK486.out 2
                  have hnb59 := NB468_475.out
                  have hnc59 := NB475_468.out
                  have hcz60_0 : w43.cell? ⟨gb468, 0, none⟩ = some (.slice Ao8 t462.length co8) := (blk_cell BK468.out 0).trans rfl
                  have hcz60_1 : w43.cell? ⟨gb468, 1, none⟩ = some (.int .i64 t465) := (blk_cell BK468.out 1).trans rfl
                  have hcz60_2 : w43.cell? ⟨gb468, 2, none⟩ = some (.int .i64 t466) := (blk_cell BK468.out 2).trans rfl
                  have hfz60_0 := blk_frozen BK468.out 0
                  have hfz60_1 := blk_frozen BK468.out 1
                  have hfz60_2 := blk_frozen BK468.out 2
                  go_wp2_with (first | ((with_reducible refine gate_callee (f := 15) rfl ?_); refine goesL_ (some 51) rfl rfl Try.func15 (by kernel_rfl) rfl #[.agg #[.slice Ao44 t480.length co44, .int .i64 t483, .int .i64 t484], .agg #[.slice Ao8 t462.length co8, .int .i64 t465, .int .i64 t466]] rfl (by (try simp only [List.map_toArray, List.map_cons, List.map_nil]); first | done | rfl | (simp only [List.length_drop, List.length_take]; rfl)) ?_; (with_reducible refine (laws_eqMachine.calls kj4 _ _ t480 t483 t484 _ _ t462 t465 t466 false _ ?side1 ?side2 ?side3 ?side4 A48.out).mono ?_); (case side1 => refine (Kd.R_reads' (e := 3) (base := w.heap.size) (ok := fun k_ => ((True ∧ some k_ ≠ (.slice Ao8 t462.length co8 : Value).ownBlock) ∧ some k_ ≠ (.slice Ao12 t469.length co12 : Value).ownBlock)) (n := t480.length) (c := co44) ?_).2.2; exact (by (with_reducible repeat (first | apply Kd.R_alloc | apply Kd.R_drewN | apply Kd.R_drew)); exact (Kd.R_mono (Kd.R_far (p := ⟨gb486, 2, none⟩) (Kd.R_far (p := ⟨gb486, 1, none⟩) (Kd.R_far (p := ⟨gb486, 0, none⟩) (Kd.R_types HO482.out BK486.out (by decide)) (fun _ hk => hk.2) (.slice Ao44 t480.length co44)) (fun _ hk => hk.2) (.int .i64 t483)) (fun _ hk => hk.2) (.int .i64 t484)) (fun _ h_ => h_.1)))); (case side2 => exact (Kd.R_reads' HO482.out).2.1); (case side3 => refine (Kd.R_reads' (e := 3) (base := w.heap.size) (ok := fun k_ => (some k_ ≠ (.slice Ao12 t469.length co12 : Value).ownBlock ∧ some k_ ≠ (.slice Ao44 t480.length co44 : Value).ownBlock)) (n := t462.length) (c := co8) ?_).2.2; exact (by (with_reducible repeat (first | apply Kd.R_alloc | apply Kd.R_drewN | apply Kd.R_drew)); exact (Kd.R_mono (Kd.R_far (p := ⟨gb486, 2, none⟩) (Kd.R_far (p := ⟨gb486, 1, none⟩) (Kd.R_far (p := ⟨gb486, 0, none⟩) (Kd.R_types HO_469000.out BK486.out (by decide)) (fun _ hk => hk.2) (.slice Ao44 t480.length co44)) (fun _ hk => hk.2) (.int .i64 t483)) (fun _ hk => hk.2) (.int .i64 t484)) (fun _ h_ => h_.1)))); (case side4 => exact (Kd.R_reads' HO_469000.out).2.1); rintro e w61 ⟨rfl, hb⟩; refine ⟨_, rfl, ?_⟩; have n0_ := Aside0.mk (Kd.R_below (by (with_reducible repeat (first | apply Kd.R_alloc | apply Kd.R_drewN | apply Kd.R_drew)); exact (Kd.R_mono (Kd.R_far (p := ⟨gb486, 2, none⟩) (Kd.R_far (p := ⟨gb486, 1, none⟩) (Kd.R_far (p := ⟨gb486, 0, none⟩) (Kd.R_types HO_469000.out BK486.out (by decide)) (fun _ hk => hk.2) (.slice Ao44 t480.length co44)) (fun _ hk => hk.2) (.int .i64 t483)) (fun _ hk => hk.2) (.int .i64 t484)) (fun _ h_ => h_.1))) hb); have n1_ := Aside0.mk (Kd.R_below (by (with_reducible repeat (first | apply Kd.R_alloc | apply Kd.R_drewN | apply Kd.R_drew)); exact (Kd.R_mono (Kd.R_far (p := ⟨gb486, 2, none⟩) (Kd.R_far (p := ⟨gb486, 1, none⟩) (Kd.R_far (p := ⟨gb486, 0, none⟩) (Kd.R_types HO_476000.out BK486.out (by decide)) (fun _ hk => hk.2) (.slice Ao44 t480.length co44)) (fun _ hk => hk.2) (.int .i64 t483)) (fun _ hk => hk.2) (.int .i64 t484)) (fun _ h_ => h_.1))) hb); have n2_ := Aside0.mk (Kd.R_below (by (with_reducible repeat (first | apply Kd.R_alloc | apply Kd.R_drewN | apply Kd.R_drew)); exact (Kd.R_mono (Kd.R_far (p := ⟨gb486, 2, none⟩) (Kd.R_far (p := ⟨gb486, 1, none⟩) (Kd.R_far (p := ⟨gb486, 0, none⟩) (Kd.R_types HO482.out BK486.out (by decide)) (fun _ hk => hk.2) (.slice Ao44 t480.length co44)) (fun _ hk => hk.2) (.int .i64 t483)) (fun _ hk => hk.2) (.int .i64 t484)) (fun _ h_ => h_.1))) hb); have n3_ := Aside0.mk (blk_below (g := gb468) (o := .cells #[.slice Ao8 t462.length co8, .int .i64 t465, .int .i64 t466] 35 (0, 0)) (by (with_reducible repeat (first | refine blk_drewN ?_ _ | refine blk_drew ?_ | refine blk_alloc ?_ _)); refine blk_far ?_ NB468_486.out _; (with_reducible repeat (first | refine blk_drewN ?_ _ | refine blk_drew ?_ | refine blk_alloc ?_ _)); refine blk_far ?_ NB468_486.out _; (with_reducible repeat (first | refine blk_drewN ?_ _ | refine blk_drew ?_ | refine blk_alloc ?_ _)); refine blk_far ?_ NB468_486.out _; (with_reducible repeat (first | refine blk_drewN ?_ _ | refine blk_drew ?_ | refine blk_alloc ?_ _)); exact BK468.out) hb); have n4_ := Aside0.mk (blk_below (g := gb475) (o := .cells #[.slice Ao12 t469.length co12, .int .i64 t472, .int .i64 t473] 35 (0, 0)) (by (with_reducible repeat (first | refine blk_drewN ?_ _ | refine blk_drew ?_ | refine blk_alloc ?_ _)); refine blk_far ?_ NB475_486.out _; (with_reducible repeat (first | refine blk_drewN ?_ _ | refine blk_drew ?_ | refine blk_alloc ?_ _)); refine blk_far ?_ NB475_486.out _; (with_reducible repeat (first | refine blk_drewN ?_ _ | refine blk_drew ?_ | refine blk_alloc ?_ _)); refine blk_far ?_ NB475_486.out _; (with_reducible repeat (first | refine blk_drewN ?_ _ | refine blk_drew ?_ | refine blk_alloc ?_ _)); exact BK475.out) hb); have n5_ := Aside0.mk (blk_below (g := gb486) (o := .cells #[.slice Ao44 t480.length co44, .int .i64 t483, .int .i64 t484] 35 (0, 0)) (by (with_reducible repeat (first | refine blk_drewN ?_ _ | refine blk_drew ?_ | refine blk_alloc ?_ _)); refine blk_put (cs := #[.slice Ao44 t480.length co44, .int .i64 t483, .int .i64 0]) ?_ 2 _ rfl; (with_reducible repeat (first | refine blk_drewN ?_ _ | refine blk_drew ?_ | refine blk_alloc ?_ _)); refine blk_put (cs := #[.slice Ao44 t480.length co44, .int .i64 0, .int .i64 0]) ?_ 1 _ rfl; (with_reducible repeat (first | refine blk_drewN ?_ _ | refine blk_drew ?_ | refine blk_alloc ?_ _)); refine blk_put (cs := #[.slice none 0 0, .int .i64 0, .int .i64 0]) ?_ 0 _ rfl; (with_reducible repeat (first | refine blk_drewN ?_ _ | refine blk_drew ?_ | refine blk_alloc ?_ _)); exact BK486.out) hb); have n6_ := Aside0.mk (below_step (by repeat (first | (with_reducible first | exact HB.out | apply below_alloc | apply pw_below_drewN | apply below_drew1 | refine below_set ?_ GE468.out | refine below_set ?_ GE475.out | refine below_set ?_ GE486.out) | exact HB.out)) hb); clear HO_469000; clear HO_476000; clear HO482; clear BK468; clear BK475; clear BK486; clear HB; have HO_469000 := n0_; have HO_476000 := n1_; have HO482 := n2_; have BK468 := n3_; have BK475 := n4_; have BK486 := n5_; have HB := n6_; clear n0_ n1_ n2_ n3_ n4_ n5_ n6_; (try clear hb); (try clear hb2); (try clear hk); (try clear hi)))
                  go_meet
                  case rel => exact ⟨_, (true), (by first | rfl | (simp; done) | (simp [*]; done) | (simp [Int.tmod_eq_emod_of_nonneg]; done)), H', ⟨by have := HJ4.out; first | omega | exact Nat.le_refl _⟩, ⟨by (with_reducible repeat (first | apply Kd.R_alloc | apply Kd.R_drewN | apply Kd.R_drew)); exact HO_469000.out⟩, ⟨by (with_reducible repeat (first | apply Kd.R_alloc | apply Kd.R_drewN | apply Kd.R_drew)); exact HO_476000.out⟩, ⟨by (with_reducible repeat (first | apply Kd.R_alloc | apply Kd.R_drewN | apply Kd.R_drew)); exact Kd.R_mono HO482.out (fun _ hk => ⟨hk.1.2, hk.2⟩)⟩, ⟨by (with_reducible repeat (first | refine blk_drewN ?_ _ | refine blk_drew ?_ | refine blk_alloc ?_ _)); exact BK468.out⟩, ⟨by (with_reducible repeat (first | refine blk_drewN ?_ _ | refine blk_drew ?_ | refine blk_alloc ?_ _)); exact BK475.out⟩, ⟨by (with_reducible repeat (first | refine blk_drewN ?_ _ | refine blk_drew ?_ | refine blk_alloc ?_ _)); exact BK486.out⟩, ⟨by repeat (first | (with_reducible first | exact HB.out | apply below_alloc | apply pw_below_drewN | apply below_drew1 | refine below_set ?_ GE468.out | refine below_set ?_ GE475.out | refine below_set ?_ GE486.out) | exact HB.out)⟩⟩
              case rest =>
                clear HC36
                try clear c1
                try clear c2
                try clear c2b0
                try clear c2b1
                try clear p2
                try clear c3
                try clear c4
                try clear c5
                try clear c13
                try clear c14
                try clear c15
                try clear c16
                try clear c17
                try clear c21
                try clear c25
                try clear c28
                try clear c28b0
                try clear c29
                try clear c34
                try clear c34b0
                try clear c34b1
                try clear c37
                try clear c45
                try clear c46
                try clear c49
                try clear c50
                try clear c51
                try clear c53
                try clear c56
                try clear c57
                try clear c59
                try clear hcz14_0
                try clear hcz14_1
                try clear hcz14_2
                try clear hcz18_0
                try clear hcz18_1
                try clear hcz18_2
                try clear hcz19_0
                try clear hcz19_1
                try clear hcz19_2
                try clear hcz22_0
                try clear hcz22_1
                try clear hcz22_2
                try clear hcz23_0
                try clear hcz23_1
                try clear hcz23_2
                try clear hcz30_0
                try clear hcz30_1
                try clear hcz30_2
                try clear hcz32_0
                try clear hcz32_1
                try clear hcz32_2
                try clear hcz38_0
                try clear hcz38_1
                try clear hcz38_2
                try clear hcz40_0
                try clear hcz40_1
                try clear hcz40_2
                try clear hcz47_0
                try clear hcz47_1
                try clear hcz47_2
                try clear hcz52_0
                try clear hcz52_1
                try clear hcz52_2
                try clear hcz54_0
                try clear hcz54_1
                try clear hcz54_2
                try clear hcz58_0
                try clear hcz58_1
                try clear hcz58_2
                try clear hcz60_0
                try clear hcz60_1
                try clear hcz60_2
                try clear hcz9_0
                try clear hcz9_1
                try clear hcz9_2
                try clear hfz14_0
                try clear hfz14_1
                try clear hfz14_2
                try clear hfz18_0
                try clear hfz18_1
                try clear hfz18_2
                try clear hfz19_0
                try clear hfz19_1
                try clear hfz19_2
                try clear hfz22_0
                try clear hfz22_1
                try clear hfz22_2
                try clear hfz23_0
                try clear hfz23_1
                try clear hfz23_2
                try clear hfz30_0
                try clear hfz30_1
                try clear hfz30_2
                try clear hfz32_0
                try clear hfz32_1
                try clear hfz32_2
                try clear hfz38_0
                try clear hfz38_1
                try clear hfz38_2
                try clear hfz40_0
                try clear hfz40_1
                try clear hfz40_2
                try clear hfz47_0
                try clear hfz47_1
                try clear hfz47_2
                try clear hfz52_0
                try clear hfz52_1
                try clear hfz52_2
                try clear hfz54_0
                try clear hfz54_1
                try clear hfz54_2
                try clear hfz58_0
                try clear hfz58_1
                try clear hfz58_2
                try clear hfz60_0
                try clear hfz60_1
                try clear hfz60_2
                try clear hfz9_0
                try clear hfz9_1
                try clear hfz9_2
                try clear p2
                obtain ⟨kq, x57_35, rfl, HA, HJ35, HO_469000, HO_476000, HO_487000, BK468, BK475, BK486, HB⟩ := hcut
                have hl476000_35 := (Kd.R_reads' HO_476000.out).1
                rw [hl476000_35] at HO_476000
                (try simp only [hl476000_35])
                (try simp only [hl476000_35] at BK468)
                (try simp only [hl476000_35] at BK475)
                (try simp only [hl476000_35] at BK486)
                (try simp only [hl476000_35] at HO_469000)
                (try simp only [hl476000_35] at HO_487000)
                cases kq with
                | zero => exact absurd HA.out (by simp [laws_FnExactMachOf.j1])
                | succ kj35 =>
                  have H := HA.out
                  clear HA
                  simp only [laws_FnExactMachOf.j1] at H
                  by_cases c62 : x57_35 = true
                  · subst c62
                    have H1 : (some false) = some r := by rw [if_pos rfl] at H; exact H
                    clear H
                    have H := H1
                    clear H1
                    obtain rfl := Option.some.inj H
                    go_wp2
                    go_ret
                    exact ⟨by first | rfl | (simp [errW_none, errW_some] <;> rfl) | (simp [*, errW_none, errW_some] <;> rfl) | (simp [errW_none, errW_some]; exact ⟨rfl, rfl⟩), by repeat (first | (with_reducible first | exact HB.out | apply below_alloc | apply pw_below_drewN | apply below_drew1 | refine below_set ?_ GE468.out | refine below_set ?_ GE475.out | refine below_set ?_ GE486.out) | exact HB.out)⟩
                  · replace c62 := Bool.eq_false_iff.mpr c62
                    subst c62
                    have H1 : ((laws_heldMachine.f kj35 t478 t472 t473 1).bind fun t488 => (if t488 < 0 then (some false) else (if t488 = t477 then (some true) else (some false)))) = some r := by rw [if_neg (show ¬ (false = true) by decide)] at H; exact H
                    clear H
                    have H := H1
                    clear H1
                    replace H := Option.bind_eq_some_iff.mp H
                    obtain ⟨t488, A630, H⟩ := H
                    replace H : (if t488 < 0 then (some false) else (if t488 = t477 then (some true) else (some false))) = some r := H
                    have A63 := Aside0.mk A630
                    clear A630
                    by_cases c64 : t488 < 0
                    · rw [if_pos c64] at H
                      have c64b0 : decide (t488 < 0) = true := decide_eq_true c64
                      clear c64
                      obtain rfl := Option.some.inj H
                      have hnb65 := NB475_468.out
                      have hnc65 := NB468_475.out
                      have hnb66 := NB475_486.out
                      have hnc66 := NB486_475.out
                      have hcz67_0 : wc.cell? ⟨gb475, 0, none⟩ = some (.slice Ao12 t478.length co12) := (blk_cell BK475.out 0).trans rfl
                      have hcz67_1 : wc.cell? ⟨gb475, 1, none⟩ = some (.int .i64 t472) := (blk_cell BK475.out 1).trans rfl
                      have hcz67_2 : wc.cell? ⟨gb475, 2, none⟩ = some (.int .i64 t473) := (blk_cell BK475.out 2).trans rfl
                      have hfz67_0 := blk_frozen BK475.out 0
                      have hfz67_1 := blk_frozen BK475.out 1
                      have hfz67_2 := blk_frozen BK475.out 2
                      go_wp2_with (first | ((with_reducible refine gate_callee (f := 17) rfl ?_); refine goesL_ (some 60) rfl rfl Try.func17 (by kernel_rfl) rfl #[.agg #[.slice Ao12 t478.length co12, .int .i64 t472, .int .i64 t473], .int .i64 1] rfl (by (try simp only [List.map_toArray, List.map_cons, List.map_nil]); first | done | rfl | (simp only [List.length_drop, List.length_take]; rfl)) ?_; (with_reducible refine (laws_heldMachine.calls kj35 _ _ t478 t472 t473 1 t488 _ ?side1 ?side2 A63.out).mono ?_); (case side1 => repeat (first | exact (Kd.R_reads' HO_476000.out).2.2 | (with_reducible refine Kd.C_alloc ?_ _) | (with_reducible refine Kd.C_drewN ?_ _) | (with_reducible refine Kd.C_drew ?_))); (case side2 => exact (Kd.R_reads' HO_476000.out).2.1); rintro e w68 ⟨rfl, hb⟩; refine ⟨_, rfl, ?_⟩; have n0_ := Aside0.mk (Kd.R_below (by (with_reducible repeat (first | apply Kd.R_alloc | apply Kd.R_drewN | apply Kd.R_drew)); exact HO_469000.out) hb); have n1_ := Aside0.mk (Kd.R_below (by (with_reducible repeat (first | apply Kd.R_alloc | apply Kd.R_drewN | apply Kd.R_drew)); exact HO_476000.out) hb); have n2_ := Aside0.mk (Kd.R_below (by (with_reducible repeat (first | apply Kd.R_alloc | apply Kd.R_drewN | apply Kd.R_drew)); exact HO_487000.out) hb); have n3_ := Aside0.mk (blk_below (g := gb468) (o := .cells #[.slice Ao8 t462.length co8, .int .i64 t465, .int .i64 t466] 35 (0, 0)) (by (with_reducible repeat (first | refine blk_drewN ?_ _ | refine blk_drew ?_ | refine blk_alloc ?_ _)); exact BK468.out) hb); have n4_ := Aside0.mk (blk_below (g := gb475) (o := .cells #[.slice Ao12 t478.length co12, .int .i64 t472, .int .i64 t473] 35 (0, 0)) (by (with_reducible repeat (first | refine blk_drewN ?_ _ | refine blk_drew ?_ | refine blk_alloc ?_ _)); exact BK475.out) hb); have n5_ := Aside0.mk (blk_below (g := gb486) (o := .cells #[.slice Ao44 t480.length co44, .int .i64 t483, .int .i64 t484] 35 (0, 0)) (by (with_reducible repeat (first | refine blk_drewN ?_ _ | refine blk_drew ?_ | refine blk_alloc ?_ _)); exact BK486.out) hb); have n6_ := Aside0.mk (below_step (by repeat (first | (with_reducible first | exact HB.out | apply below_alloc | apply pw_below_drewN | apply below_drew1 | refine below_set ?_ GE468.out | refine below_set ?_ GE475.out | refine below_set ?_ GE486.out) | exact HB.out)) hb); clear HO_469000; clear HO_476000; clear HO_487000; clear BK468; clear BK475; clear BK486; clear HB; have HO_469000 := n0_; have HO_476000 := n1_; have HO_487000 := n2_; have BK468 := n3_; have BK475 := n4_; have BK486 := n5_; have HB := n6_; clear n0_ n1_ n2_ n3_ n4_ n5_ n6_; (try clear hb); (try clear hb2); (try clear hk); (try clear hi)))
                      go_ret
                      exact ⟨by first | rfl | (simp [errW_none, errW_some] <;> rfl) | (simp [*, errW_none, errW_some] <;> rfl) | (simp [errW_none, errW_some]; exact ⟨rfl, rfl⟩), by repeat (first | (with_reducible first | exact HB.out | apply below_alloc | apply pw_below_drewN | apply below_drew1 | refine below_set ?_ GE468.out | refine below_set ?_ GE475.out | refine below_set ?_ GE486.out) | exact HB.out)⟩
                    · rw [if_neg c64] at H
                      have c64b0 : decide (t488 < 0) = false := decide_eq_false c64
                      clear c64
                      by_cases c69 : t488 = t477
                      · rw [if_pos c69] at H
                        have c69b0 : (t488 == t477) = true := beq_iff_eq.mpr c69
                        have c69b1 : (t488 != t477) = false := bne_eq_false_iff_eq.mpr c69
                        clear c69
                        obtain rfl := Option.some.inj H
                        have hnb70 := NB475_468.out
                        have hnc70 := NB468_475.out
                        have hnb71 := NB475_486.out
                        have hnc71 := NB486_475.out
                        have hcz72_0 : wc.cell? ⟨gb475, 0, none⟩ = some (.slice Ao12 t478.length co12) := (blk_cell BK475.out 0).trans rfl
                        have hcz72_1 : wc.cell? ⟨gb475, 1, none⟩ = some (.int .i64 t472) := (blk_cell BK475.out 1).trans rfl
                        have hcz72_2 : wc.cell? ⟨gb475, 2, none⟩ = some (.int .i64 t473) := (blk_cell BK475.out 2).trans rfl
                        have hfz72_0 := blk_frozen BK475.out 0
                        have hfz72_1 := blk_frozen BK475.out 1
                        have hfz72_2 := blk_frozen BK475.out 2
                        go_wp2_with (first | ((with_reducible refine gate_callee (f := 17) rfl ?_); refine goesL_ (some 60) rfl rfl Try.func17 (by kernel_rfl) rfl #[.agg #[.slice Ao12 t478.length co12, .int .i64 t472, .int .i64 t473], .int .i64 1] rfl (by (try simp only [List.map_toArray, List.map_cons, List.map_nil]); first | done | rfl | (simp only [List.length_drop, List.length_take]; rfl)) ?_; (with_reducible refine (laws_heldMachine.calls kj35 _ _ t478 t472 t473 1 t488 _ ?side1 ?side2 A63.out).mono ?_); (case side1 => repeat (first | exact (Kd.R_reads' HO_476000.out).2.2 | (with_reducible refine Kd.C_alloc ?_ _) | (with_reducible refine Kd.C_drewN ?_ _) | (with_reducible refine Kd.C_drew ?_))); (case side2 => exact (Kd.R_reads' HO_476000.out).2.1); rintro e w73 ⟨rfl, hb⟩; refine ⟨_, rfl, ?_⟩; have n0_ := Aside0.mk (Kd.R_below (by (with_reducible repeat (first | apply Kd.R_alloc | apply Kd.R_drewN | apply Kd.R_drew)); exact HO_469000.out) hb); have n1_ := Aside0.mk (Kd.R_below (by (with_reducible repeat (first | apply Kd.R_alloc | apply Kd.R_drewN | apply Kd.R_drew)); exact HO_476000.out) hb); have n2_ := Aside0.mk (Kd.R_below (by (with_reducible repeat (first | apply Kd.R_alloc | apply Kd.R_drewN | apply Kd.R_drew)); exact HO_487000.out) hb); have n3_ := Aside0.mk (blk_below (g := gb468) (o := .cells #[.slice Ao8 t462.length co8, .int .i64 t465, .int .i64 t466] 35 (0, 0)) (by (with_reducible repeat (first | refine blk_drewN ?_ _ | refine blk_drew ?_ | refine blk_alloc ?_ _)); exact BK468.out) hb); have n4_ := Aside0.mk (blk_below (g := gb475) (o := .cells #[.slice Ao12 t478.length co12, .int .i64 t472, .int .i64 t473] 35 (0, 0)) (by (with_reducible repeat (first | refine blk_drewN ?_ _ | refine blk_drew ?_ | refine blk_alloc ?_ _)); exact BK475.out) hb); have n5_ := Aside0.mk (blk_below (g := gb486) (o := .cells #[.slice Ao44 t480.length co44, .int .i64 t483, .int .i64 t484] 35 (0, 0)) (by (with_reducible repeat (first | refine blk_drewN ?_ _ | refine blk_drew ?_ | refine blk_alloc ?_ _)); exact BK486.out) hb); have n6_ := Aside0.mk (below_step (by repeat (first | (with_reducible first | exact HB.out | apply below_alloc | apply pw_below_drewN | apply below_drew1 | refine below_set ?_ GE468.out | refine below_set ?_ GE475.out | refine below_set ?_ GE486.out) | exact HB.out)) hb); clear HO_469000; clear HO_476000; clear HO_487000; clear BK468; clear BK475; clear BK486; clear HB; have HO_469000 := n0_; have HO_476000 := n1_; have HO_487000 := n2_; have BK468 := n3_; have BK475 := n4_; have BK486 := n5_; have HB := n6_; clear n0_ n1_ n2_ n3_ n4_ n5_ n6_; (try clear hb); (try clear hb2); (try clear hk); (try clear hi)))
                        go_ret
                        exact ⟨by first | rfl | (simp [errW_none, errW_some] <;> rfl) | (simp [*, errW_none, errW_some] <;> rfl) | (simp [errW_none, errW_some]; exact ⟨rfl, rfl⟩), by repeat (first | (with_reducible first | exact HB.out | apply below_alloc | apply pw_below_drewN | apply below_drew1 | refine below_set ?_ GE468.out | refine below_set ?_ GE475.out | refine below_set ?_ GE486.out) | exact HB.out)⟩
                      · rw [if_neg c69] at H
                        have c69b0 : (t488 == t477) = false := beq_eq_false_iff_ne.mpr c69
                        have c69b1 : (t488 != t477) = true := bne_iff_ne.mpr c69
                        obtain rfl := Option.some.inj H
                        have hnb74 := NB475_468.out
                        have hnc74 := NB468_475.out
                        have hnb75 := NB475_486.out
                        have hnc75 := NB486_475.out
                        have hcz76_0 : wc.cell? ⟨gb475, 0, none⟩ = some (.slice Ao12 t478.length co12) := (blk_cell BK475.out 0).trans rfl
                        have hcz76_1 : wc.cell? ⟨gb475, 1, none⟩ = some (.int .i64 t472) := (blk_cell BK475.out 1).trans rfl
                        have hcz76_2 : wc.cell? ⟨gb475, 2, none⟩ = some (.int .i64 t473) := (blk_cell BK475.out 2).trans rfl
                        have hfz76_0 := blk_frozen BK475.out 0
                        have hfz76_1 := blk_frozen BK475.out 1
                        have hfz76_2 := blk_frozen BK475.out 2
                        go_wp2_with (first | ((with_reducible refine gate_callee (f := 17) rfl ?_); refine goesL_ (some 60) rfl rfl Try.func17 (by kernel_rfl) rfl #[.agg #[.slice Ao12 t478.length co12, .int .i64 t472, .int .i64 t473], .int .i64 1] rfl (by (try simp only [List.map_toArray, List.map_cons, List.map_nil]); first | done | rfl | (simp only [List.length_drop, List.length_take]; rfl)) ?_; (with_reducible refine (laws_heldMachine.calls kj35 _ _ t478 t472 t473 1 t488 _ ?side1 ?side2 A63.out).mono ?_); (case side1 => repeat (first | exact (Kd.R_reads' HO_476000.out).2.2 | (with_reducible refine Kd.C_alloc ?_ _) | (with_reducible refine Kd.C_drewN ?_ _) | (with_reducible refine Kd.C_drew ?_))); (case side2 => exact (Kd.R_reads' HO_476000.out).2.1); rintro e w77 ⟨rfl, hb⟩; refine ⟨_, rfl, ?_⟩; have n0_ := Aside0.mk (Kd.R_below (by (with_reducible repeat (first | apply Kd.R_alloc | apply Kd.R_drewN | apply Kd.R_drew)); exact HO_469000.out) hb); have n1_ := Aside0.mk (Kd.R_below (by (with_reducible repeat (first | apply Kd.R_alloc | apply Kd.R_drewN | apply Kd.R_drew)); exact HO_476000.out) hb); have n2_ := Aside0.mk (Kd.R_below (by (with_reducible repeat (first | apply Kd.R_alloc | apply Kd.R_drewN | apply Kd.R_drew)); exact HO_487000.out) hb); have n3_ := Aside0.mk (blk_below (g := gb468) (o := .cells #[.slice Ao8 t462.length co8, .int .i64 t465, .int .i64 t466] 35 (0, 0)) (by (with_reducible repeat (first | refine blk_drewN ?_ _ | refine blk_drew ?_ | refine blk_alloc ?_ _)); exact BK468.out) hb); have n4_ := Aside0.mk (blk_below (g := gb475) (o := .cells #[.slice Ao12 t478.length co12, .int .i64 t472, .int .i64 t473] 35 (0, 0)) (by (with_reducible repeat (first | refine blk_drewN ?_ _ | refine blk_drew ?_ | refine blk_alloc ?_ _)); exact BK475.out) hb); have n5_ := Aside0.mk (blk_below (g := gb486) (o := .cells #[.slice Ao44 t480.length co44, .int .i64 t483, .int .i64 t484] 35 (0, 0)) (by (with_reducible repeat (first | refine blk_drewN ?_ _ | refine blk_drew ?_ | refine blk_alloc ?_ _)); exact BK486.out) hb); have n6_ := Aside0.mk (below_step (by repeat (first | (with_reducible first | exact HB.out | apply below_alloc | apply pw_below_drewN | apply below_drew1 | refine below_set ?_ GE468.out | refine below_set ?_ GE475.out | refine below_set ?_ GE486.out) | exact HB.out)) hb); clear HO_469000; clear HO_476000; clear HO_487000; clear BK468; clear BK475; clear BK486; clear HB; have HO_469000 := n0_; have HO_476000 := n1_; have HO_487000 := n2_; have BK468 := n3_; have BK475 := n4_; have BK486 := n5_; have HB := n6_; clear n0_ n1_ n2_ n3_ n4_ n5_ n6_; (try clear hb); (try clear hb2); (try clear hk); (try clear hi)))
                        go_ret
                        exact ⟨by first | rfl | (simp [errW_none, errW_some] <;> rfl) | (simp [*, errW_none, errW_some] <;> rfl) | (simp [errW_none, errW_some]; exact ⟨rfl, rfl⟩), by repeat (first | (with_reducible first | exact HB.out | apply below_alloc | apply pw_below_drewN | apply below_drew1 | refine below_set ?_ GE468.out | refine below_set ?_ GE475.out | refine below_set ?_ GE486.out) | exact HB.out)⟩
            · rw [if_neg c34] at H
              have c34b0 : (t479 == t477) = false := beq_eq_false_iff_ne.mpr c34
              have c34b1 : (t479 != t477) = true := bne_iff_ne.mpr c34
              obtain rfl := Option.some.inj H
              have hnb78 := NB475_468.out
              have hnc78 := NB468_475.out
              have hcz79_0 : wc.cell? ⟨gb475, 0, none⟩ = some (.slice Ao12 t469.length co12) := (blk_cell BK475.out 0).trans rfl
              have hcz79_1 : wc.cell? ⟨gb475, 1, none⟩ = some (.int .i64 t472) := (blk_cell BK475.out 1).trans rfl
              have hcz79_2 : wc.cell? ⟨gb475, 2, none⟩ = some (.int .i64 t473) := (blk_cell BK475.out 2).trans rfl
              have hfz79_0 := blk_frozen BK475.out 0
              have hfz79_1 := blk_frozen BK475.out 1
              have hfz79_2 := blk_frozen BK475.out 2
              go_wp2_with (first | ((with_reducible refine gate_callee (f := 16) rfl ?_); refine goesL_ (some 35) rfl rfl Try.func16 (by kernel_rfl) rfl #[.agg #[.slice Ao12 t469.length co12, .int .i64 t472, .int .i64 t473], .int .i64 1] rfl (by (try simp only [List.map_toArray, List.map_cons, List.map_nil]); first | done | rfl | (simp only [List.length_drop, List.length_take]; rfl)) ?_; (with_reducible refine (laws_markMachine.calls kj4 (fun k_ => some k_ = (.slice Ao12 t469.length co12 : Value).ownBlock) (.slice Ao12 t469.length co12) t469 t472 t473 1 t477 t478 w _ ?side1 ?side2 A26.out).mono ?_); (case side1 => repeat (first | (with_reducible first | exact HB.out | apply below_alloc | apply pw_below_drewN | apply below_drew1 | refine below_set ?_ GE468.out | refine below_set ?_ GE475.out) | exact HB.out)); (case side2 => exact Kd.R_tight rfl HO_476000.out); rintro e w80 ⟨rfl, hy0, hb, hkp⟩; refine ⟨_, rfl, ?_⟩; have n0_ := Aside0.mk (Kd.R_mono (ok' := fun k_ => some k_ ≠ (.slice Ao12 t469.length co12 : Value).ownBlock) (Kd.R_keptB (HO_469000.out) hkp (fun k_ hk_ hs_ => (hk_) hs_)) (fun k_ hk_ => hk_.1)); have n1_ := Aside0.mk (Kd.R_reok rfl hy0 (fun k_ e_ => HO_476000.out.1 k_ e_)); have n2_ := Aside0.mk (blk_kept (by (with_reducible repeat (first | refine blk_drewN ?_ _ | refine blk_drew ?_ | refine blk_alloc ?_ _)); exact BK468.out) hkp (fun hs_ => (fun e_ => (Kd.R_ne HO_476000.out BK468.out (by decide)) e_) hs_)); have n3_ := Aside0.mk (blk_kept (by (with_reducible repeat (first | refine blk_drewN ?_ _ | refine blk_drew ?_ | refine blk_alloc ?_ _)); exact BK475.out) hkp (fun hs_ => (fun e_ => (Kd.R_ne HO_476000.out BK475.out (by decide)) e_) hs_)); have n4_ := Aside0.mk (hb); clear HO_469000; clear HO_476000; clear BK468; clear BK475; clear HB; have HO_469000 := n0_; have HO_476000 := n1_; have BK468 := n2_; have BK475 := n3_; have HB := n4_; clear n0_ n1_ n2_ n3_ n4_; (try clear hb); (try clear hkp); (try clear hy0); have hcz81_0 : w80.cell? ⟨gb475, 0, none⟩ = some (.slice Ao12 t469.length co12) := (blk_cell BK475.out 0).trans rfl; have hcz81_1 : w80.cell? ⟨gb475, 1, none⟩ = some (.int .i64 t472) := (blk_cell BK475.out 1).trans rfl; have hcz81_2 : w80.cell? ⟨gb475, 2, none⟩ = some (.int .i64 t473) := (blk_cell BK475.out 2).trans rfl; have hfz81_0 := blk_frozen BK475.out 0; have hfz81_1 := blk_frozen BK475.out 1; have hfz81_2 := blk_frozen BK475.out 2) | ((with_reducible refine gate_callee (f := 17) rfl ?_); refine goesL_ (some 38) rfl rfl Try.func17 (by kernel_rfl) rfl #[.agg #[.slice Ao12 t478.length co12, .int .i64 t472, .int .i64 t473], .int .i64 1] rfl (by (try simp only [List.map_toArray, List.map_cons, List.map_nil]); first | done | (rw [show t478.length = t469.length from (Kd.R_reads' HO_476000.out).1.symm] <;> rfl) | rfl | (simp only [List.length_drop, List.length_take]; rfl)) ?_; (with_reducible refine (laws_heldMachine.calls kj4 _ _ t478 t472 t473 1 t479 _ ?side1 ?side2 A27.out).mono ?_); (case side1 => repeat (first | exact (Kd.R_reads' HO_476000.out).2.2 | (with_reducible refine Kd.C_alloc ?_ _) | (with_reducible refine Kd.C_drewN ?_ _) | (with_reducible refine Kd.C_drew ?_))); (case side2 => rw [show t478.length = t469.length from (Kd.R_reads' HO_476000.out).1.symm]; exact (Kd.R_reads' HO_476000.out).2.1); rintro e w82 ⟨rfl, hb⟩; refine ⟨_, rfl, ?_⟩; have n0_ := Aside0.mk (Kd.R_below (by (with_reducible repeat (first | apply Kd.R_alloc | apply Kd.R_drewN | apply Kd.R_drew)); exact HO_469000.out) hb); have n1_ := Aside0.mk (Kd.R_below (by (with_reducible repeat (first | apply Kd.R_alloc | apply Kd.R_drewN | apply Kd.R_drew)); exact HO_476000.out) hb); have n2_ := Aside0.mk (blk_below (g := gb468) (o := .cells #[.slice Ao8 t462.length co8, .int .i64 t465, .int .i64 t466] 35 (0, 0)) (by (with_reducible repeat (first | refine blk_drewN ?_ _ | refine blk_drew ?_ | refine blk_alloc ?_ _)); exact BK468.out) hb); have n3_ := Aside0.mk (blk_below (g := gb475) (o := .cells #[.slice Ao12 t469.length co12, .int .i64 t472, .int .i64 t473] 35 (0, 0)) (by (with_reducible repeat (first | refine blk_drewN ?_ _ | refine blk_drew ?_ | refine blk_alloc ?_ _)); exact BK475.out) hb); have n4_ := Aside0.mk (below_step (by repeat (first | (with_reducible first | exact HB.out | apply below_alloc | apply pw_below_drewN | apply below_drew1 | refine below_set ?_ GE468.out | refine below_set ?_ GE475.out) | exact HB.out)) hb); clear HO_469000; clear HO_476000; clear BK468; clear BK475; clear HB; have HO_469000 := n0_; have HO_476000 := n1_; have BK468 := n2_; have BK475 := n3_; have HB := n4_; clear n0_ n1_ n2_ n3_ n4_; (try clear hb); (try clear hb2); (try clear hk); (try clear hi)))
              go_ret
              exact ⟨by first | rfl | (simp [errW_none, errW_some] <;> rfl) | (simp [*, errW_none, errW_some] <;> rfl) | (simp [errW_none, errW_some]; exact ⟨rfl, rfl⟩), by repeat (first | (with_reducible first | exact HB.out | apply below_alloc | apply pw_below_drewN | apply below_drew1 | refine below_set ?_ GE468.out | refine below_set ?_ GE475.out) | exact HB.out)⟩

/-- THE ONE PURE STATEMENT of laws_FnExactMachOf: yours. -/
def laws_FnExactMachOf.Pure : Prop := ∀ (a0 : ByteArray), a0.size ≤ 140737488351232 → ∃ k, laws_FnExactMachOf.f k a0 = some true
theorem laws_FnExactMachOf.walk (P : laws_FnExactMachOf.Pure) (a0 : ByteArray) (w : World) (w0 : a0.size ≤ 140737488351232) :
    Calls Try.prog 5 #[.string a0] w fun e w' => e = .returned (.bool true) ∧ Below w.heap.size w w' := by
  obtain ⟨k, h⟩ := P a0 w0
  refine (laws_FnExactMachOf.calls k a0 true w h).mono ?_
  rintro e w' ⟨rfl, hd⟩
  exact ⟨rfl, hd⟩

end Go.Proofs.Ytcacjmhelilblaa.P

-- impl.set.has asks for the place.
namespace Go.Proofs.Ytcacjmhelilblaa.P
open Go.RowKit Go.Proofs.YtcacjmhelilblaaW.PrintWords Go.Proofs.YtcacjmhelilblaaW.PrintLast Go.Proofs.YtcacjmhelilblaaW.PrintMore
set_option linter.unusedVariables false
set_option linter.unusedSimpArgs false

theorem ihas_f (t r : List Bool) (hr : r ≠ []) (hl : t.length + r.length ≤ 70368744177664) (n : Nat) (hn : n ≤ 70368744177664) : impl_set_has.f t r n = some (hasB t r n) := by
  have hpos := List.length_pos_iff.2 hr
  unfold impl_set_has.f
  rw [if_neg (by omega)]
  by_cases h : n < t.length
  · rw [if_pos (by omega), if_pos (by omega), rdOf_nat, hasB_tail h]
  · have hm := Nat.mod_lt (n - t.length) hpos
    have e : Int.tmod (wrap64 ((n : Int) - (t.length : Int))) (r.length : Int) = (((n - t.length) % r.length : Nat) : Int) := by
      rw [w64 (by omega) (by omega), show (n : Int) - (t.length : Int) = ((n - t.length : Nat) : Int) by omega, Int.tmod_eq_emod_of_nonneg (by omega)]; rfl
    rw [if_neg (by omega), if_neg (by omega), e, if_pos (by omega), if_pos (by omega), rdOf_nat, hasB_ring' (by omega)]
theorem ihas_neg (t r : List Bool) (n : Int) (hn : n < 0) : impl_set_has.f t r n = some false := by unfold impl_set_has.f; rw [if_pos hn]

end Go.Proofs.Ytcacjmhelilblaa.P

-- laws.eqIntS compares lists of numbers.
namespace Go.Proofs.Ytcacjmhelilblaa.P
open Go.RowKit Go.Proofs.YtcacjmhelilblaaW.PrintWords Go.Proofs.YtcacjmhelilblaaW.PrintLast Go.Proofs.YtcacjmhelilblaaW.PrintMore
set_option linter.unusedVariables false
set_option linter.unusedSimpArgs false

theorem rd_nat (l : List Int) {i : Nat} (h : i < l.length) : rd l (i : Int) = l[i] := by simp [rd, List.getD_eq_getElem?_getD, h]
theorem eqInts_l0 (a b : List Int) (hl : a.length = b.length) (hs : a.length ≤ 4611686018427387904) : ∀ (d i : Nat), i ≤ a.length → a.length - i = d → Ev (fun k => laws_eqIntS.l0 k a b i) (decide (a.drop i = b.drop i)) := by
  intro d
  induction d with
  | zero =>
    intro i h1 h2
    have e1 : a.drop i = [] := by rw [List.drop_eq_nil_iff]; omega
    have e2 : b.drop i = [] := by rw [List.drop_eq_nil_iff]; omega
    refine Ev.step (f := fun k => some true) (fun k => ?_) (by rw [e1, e2]; exact Ev.now _)
    simp only [laws_eqIntS.l0]; rw [if_neg (by omega)]
  | succ d ih =>
    intro i h1 h2
    have ha : i < a.length := by omega
    have hb : i < b.length := by omega
    have ea := List.drop_eq_getElem_cons ha
    have eb := List.drop_eq_getElem_cons hb
    by_cases he : a[i] = b[i]
    · have := ih (i + 1) (by omega) (by omega)
      have e : decide (a.drop i = b.drop i) = decide (a.drop (i + 1) = b.drop (i + 1)) := by
        apply decide_eq_decide.2
        rw [ea, eb, he]
        exact ⟨fun h => (List.cons.inj h).2, fun h => by rw [h]⟩
      rw [e]
      refine Ev.step (fun k => ?_) this
      simp only [laws_eqIntS.l0]
      rw [if_pos (by omega), if_pos (by omega), if_pos (by omega), rd_nat a ha, rd_nat b hb, if_pos he, wsucc (by omega)]
    · have e : decide (a.drop i = b.drop i) = false := by
        rw [decide_eq_false_iff_not, ea, eb]
        intro h; injection h with h _; exact he h
      rw [e]
      refine Ev.step (f := fun k => some false) (fun k => ?_) (Ev.now _)
      simp only [laws_eqIntS.l0]
      rw [if_pos (by omega), if_pos (by omega), if_pos (by omega), rd_nat a ha, rd_nat b hb, if_neg he]
theorem eqInts_f (a b : List Int) (hs : a.length ≤ 4611686018427387904) : Ev (fun k => laws_eqIntS.f k a b) (decide (a = b)) := by
  by_cases hl : a.length = b.length
  · have := eqInts_l0 a b hl hs _ 0 (by omega) rfl
    refine Ev.congr (fun k => ?_) (by simpa using this)
    unfold laws_eqIntS.f; rw [if_pos (by omega)]
  · have e : decide (a = b) = false := by rw [decide_eq_false_iff_not]; intro h; exact hl (by rw [h])
    rw [e]
    refine Ev.congr (f := fun k => some false) (fun k => ?_) (Ev.now _)
    unfold laws_eqIntS.f; rw [if_neg (by omega)]

end Go.Proofs.Ytcacjmhelilblaa.P

-- laws.markIntS and heldIntS count up.
namespace Go.Proofs.Ytcacjmhelilblaa.P
open Go.RowKit Go.Proofs.YtcacjmhelilblaaW.PrintWords Go.Proofs.YtcacjmhelilblaaW.PrintLast Go.Proofs.YtcacjmhelilblaaW.PrintMore
set_option linter.unusedVariables false
set_option linter.unusedSimpArgs false

/-- n numbers from m on. -/
def iota (m n : Nat) : List Int := (List.range n).map fun i => ((m + i : Nat) : Int)
theorem iota_length (m n : Nat) : (iota m n).length = n := by simp [iota]
theorem iota_get (m n : Nat) {i : Nat} (h : i < (iota m n).length) : (iota m n)[i] = ((m + i : Nat) : Int) := by simp [iota]
theorem mark_l0 (n m : Nat) (hs : m + n ≤ 4611686018427387904) : ∀ (d i : Nat) (l : List Int), i ≤ n → n - i = d → l.length = n → l.take i = iota m i → Ev (fun k => laws_markIntS.l0 k l ((m + i : Nat) : Int) i) (((m + n : Nat) : Int), iota m n) := by
  intro d
  induction d with
  | zero =>
    intro i l h1 h2 h3 h4
    have e : i = n := by omega
    subst e
    rw [← h3, List.take_length] at h4
    refine Ev.step (f := fun k => some (((m + i : Nat) : Int), l)) (fun k => ?_) (by rw [h4, h3]; exact Ev.now _)
    simp only [laws_markIntS.l0]; rw [if_neg (by omega)]
  | succ d ih =>
    intro i l h1 h2 h3 h4
    refine Ev.step (fun k => ?_) (ih (i + 1) (l.set i ((m + i : Nat) : Int)) (by omega) (by omega) (by simp [h3]) ?_)
    · simp only [laws_markIntS.l0]
      rw [if_pos (by omega), if_pos (by omega), wsucc (by omega), wsucc (by omega), Int.toNat_natCast]; rfl
    · rw [List.take_succ_eq_append_getElem (by simp; omega), List.take_set_of_le (Nat.le_refl _), h4]
      simp [iota, List.range_succ]
theorem mark_f (l : List Int) (m : Nat) (hs : m + l.length ≤ 4611686018427387904) : Ev (fun k => laws_markIntS.f k l m) (((m + l.length : Nat) : Int), iota m l.length) := by
  have := mark_l0 l.length m hs _ 0 l (by omega) rfl rfl (by simp [iota])
  exact this
theorem held_l0 (n m : Nat) (hs : m + n ≤ 4611686018427387904) : ∀ (d i : Nat), i ≤ n → n - i = d → Ev (fun k => laws_heldIntS.l0 k (iota m n) ((m + i : Nat) : Int) i) ((m + n : Nat) : Int) := by
  have hl := iota_length m n
  intro d
  induction d with
  | zero =>
    intro i h1 h2
    have e : i = n := by omega
    subst e
    refine Ev.step (f := fun k => some ((m + i : Nat) : Int)) (fun k => ?_) (Ev.now _)
    simp only [laws_heldIntS.l0]; rw [if_neg (by omega)]
  | succ d ih =>
    intro i h1 h2
    refine Ev.step (fun k => ?_) (ih (i + 1) (by omega) (by omega))
    simp only [laws_heldIntS.l0]
    rw [if_pos (by omega), if_pos (by omega), rd_nat _ (by omega), iota_get, if_pos (by trivial), wsucc (by omega), wsucc (by omega)]; rfl
theorem held_f (n m : Nat) (hs : m + n ≤ 4611686018427387904) : Ev (fun k => laws_heldIntS.f k (iota m n) m) ((m + n : Nat) : Int) := held_l0 n m hs _ 0 (by omega) rfl

end Go.Proofs.Ytcacjmhelilblaa.P

-- laws.eqMachine, markMachine, heldMachine.
namespace Go.Proofs.Ytcacjmhelilblaa.P
open Go.RowKit Go.Proofs.YtcacjmhelilblaaW.PrintWords Go.Proofs.YtcacjmhelilblaaW.PrintLast Go.Proofs.YtcacjmhelilblaaW.PrintMore
set_option linter.unusedVariables false
set_option linter.unusedSimpArgs false

theorem eqMachine_f (a b : List Int) (x y u v : Int) (hs : a.length ≤ 4611686018427387904) : Ev (fun k => laws_eqMachine.f k a x y b u v) (decide (a = b ∧ x = u ∧ y = v)) := by
  refine Ev.congr (fun k => rfl) (Ev.bind (eqInts_f a b hs) ?_)
  by_cases h : a = b
  · by_cases h2 : x = u
    · by_cases h3 : y = v
      · simp only [h, h2, h3, decide_true, if_true, and_self]; exact Ev.now _
      · simp only [h, h2, h3, decide_true, decide_false, if_true, if_false, and_false, true_and]; exact Ev.now _
    · simp only [h, h2, decide_true, decide_false, if_true, if_false, false_and, and_false]; exact Ev.now _
  · simp only [h, decide_false, false_and, Bool.false_eq_true, if_false]; exact Ev.now _
theorem markMachine_f (a : List Int) (x y : Int) (m : Nat) (hs : m + a.length ≤ 4611686018427387904) : Ev (fun k => laws_markMachine.f k a x y m) (((m + a.length : Nat) : Int), iota m a.length) :=
  Ev.congr (fun k => rfl) (Ev.bind (mark_f a m hs) (Ev.now _))
theorem heldMachine_f (n : Nat) (x y : Int) (m : Nat) (hs : m + n ≤ 4611686018427387904) : Ev (fun k => laws_heldMachine.f k (iota m n) x y m) ((m + n : Nat) : Int) := by
  refine Ev.congr (fun k => rfl) (Ev.bind (held_f n m hs) ?_)
  simp only [if_neg (show ¬ ((m + n : Nat) : Int) < 0 by omega)]; exact Ev.now _

end Go.Proofs.Ytcacjmhelilblaa.P

-- MachOf of the program and of the reference come to the same machine.
namespace Go.Proofs.Ytcacjmhelilblaa.P
open Go.RowKit Go.Proofs.YtcacjmhelilblaaW.PrintWords Go.Proofs.YtcacjmhelilblaaW.PrintLast Go.Proofs.YtcacjmhelilblaaW.PrintMore
set_option linter.unusedVariables false
set_option linter.unusedSimpArgs false

theorem shl_one {i : Nat} (h : i ≤ 61) : shl .i64 1 (i : Int) = ((2 ^ i : Nat) : Int) := by
  have hb : IntKind.i64.bits = 64 := rfl
  have h2 : 2 ^ i ≤ 2 ^ 61 := Nat.pow_le_pow_right (by omega) h
  unfold shl
  rw [Int.toNat_natCast, hb, Nat.min_eq_left (by omega), Int.one_mul, IntKind.wrap_i64]
  have e : (2 : Int) ^ i = ((2 ^ i : Nat) : Int) := by rw [Int.natCast_pow]; rfl
  rw [e]
  generalize 2 ^ i = p at *
  omega
theorem shl_zero (i : Nat) : shl .i64 0 (i : Int) = 0 := by
  unfold shl; rw [Int.zero_mul]; rfl
theorem or_nat {a b : Nat} (ha : a < 2 ^ 62) (hb : b < 2 ^ 62) : Go.bits .or .i64 (a : Int) (b : Int) = ((a ||| b : Nat) : Int) :=
  (bits_nat .i64 62 (by decide) (fun n h0 h1 => by rw [IntKind.wrap_i64]; omega) a b ha hb).2
/-- The steps of a single machine: to the next state, from the last one to where the ring begins. -/
def mSteps (m n i : Nat) : List Int := (List.range i).map fun j => if j + 1 = n then ((2 ^ m : Nat) : Int) else ((2 ^ (j + 1) : Nat) : Int)
theorem mSteps_succ (m n i : Nat) : mSteps m n (i + 1) = mSteps m n i ++ [if i + 1 = n then ((2 ^ m : Nat) : Int) else ((2 ^ (i + 1) : Nat) : Int)] := by simp [mSteps, List.range_succ]
theorem mSteps_length (m n i : Nat) : (mSteps m n i).length = i := by simp [mSteps]
/-- Its ends. -/
def mEnds (f : Nat → Bool) : Nat → Nat
  | 0 => 0
  | i + 1 => if f i then mEnds f i ||| 2 ^ i else mEnds f i
theorem mEnds_lt (f : Nat → Bool) : ∀ i, mEnds f i < 2 ^ i
  | 0 => by simp [mEnds]
  | i + 1 => by
    have h := mEnds_lt f i
    have h2 : 2 ^ i < 2 ^ (i + 1) := Nat.pow_lt_pow_right (by omega) (by omega)
    simp only [mEnds]
    split
    · exact Nat.or_lt_two_pow (by omega) h2
    · omega
theorem imach_l0 (t r : List Bool) (hr : r ≠ []) (hl : t.length + r.length ≤ 5) : ∀ (d i : Nat), i ≤ t.length + r.length → t.length + r.length - i = d →
    Ev (fun k => impl_MachOf.l0 k ((t.length + r.length : Nat) : Int) ((t.length + r.length : Nat) : Int) i t r (mSteps t.length (t.length + r.length) i) 1 ((mEnds (hasB t r) i : Nat) : Int)) (mSteps t.length (t.length + r.length) (t.length + r.length), 1, ((mEnds (hasB t r) (t.length + r.length) : Nat) : Int), true) := by
  intro d
  induction d with
  | zero =>
    intro i h1 h2
    have e : i = t.length + r.length := by omega
    subst e
    refine Ev.step (f := fun k => some (mSteps t.length (t.length + r.length) (t.length + r.length), 1, ((mEnds (hasB t r) (t.length + r.length) : Nat) : Int), true)) (fun k => ?_) (Ev.now _)
    simp only [impl_MachOf.l0]; rw [if_neg (by omega)]
  | succ d ih =>
    intro i h1 h2
    have hlt := mEnds_lt (hasB t r) i
    have hi5 : 2 ^ i ≤ 2 ^ 5 := Nat.pow_le_pow_right (by omega) (by omega)
    have hs : mEnds (hasB t r) (i + 1) = if hasB t r i then mEnds (hasB t r) i ||| 2 ^ i else mEnds (hasB t r) i := rfl
    have hor : Go.bits .or .i64 ((mEnds (hasB t r) i : Nat) : Int) (shl .i64 1 (i : Int)) = ((mEnds (hasB t r) i ||| 2 ^ i : Nat) : Int) := by
      rw [shl_one (by omega), or_nat (by omega) (by omega)]
    refine Ev.step (fun k => ?_) (ih (i + 1) (by omega) (by omega))
    simp only [impl_MachOf.l0]
    rw [if_pos (by omega), wsucc (by omega), ihas_f t r hr (by omega) i (by omega), hor, mSteps_length, mSteps_succ, hs]
    simp only [Option.bind_some]
    by_cases hlast : i + 1 = t.length + r.length
    · rw [if_pos (by omega), if_pos (by omega), shl_one (by omega), if_pos hlast]
      cases hasB t r i with
      | true => rw [if_pos (by trivial), if_pos (by omega), if_pos (by trivial)]
      | false => rw [if_neg (by decide), if_neg (by decide)]
    · rw [if_neg (by omega), if_pos (by omega), if_pos (by omega), shl_one (by omega), if_neg hlast]
      cases hasB t r i with
      | true => rw [if_pos (by trivial), if_pos (by omega), if_pos (by trivial)]
      | false => rw [if_neg (by decide), if_neg (by decide)]
theorem smach_l0 (t r : List Bool) (hr : r ≠ []) (hl : t.length + r.length ≤ 5) : ∀ (d i : Nat), i ≤ t.length + r.length → t.length + r.length - i = d →
    Ev (fun k => spec_MachOf.l0 k ((t.length + r.length : Nat) : Int) i t r (mSteps t.length (t.length + r.length) i) 1 ((mEnds (hasB t r) i : Nat) : Int)) (mSteps t.length (t.length + r.length) (t.length + r.length), 1, ((mEnds (hasB t r) (t.length + r.length) : Nat) : Int), true) := by
  intro d
  induction d with
  | zero =>
    intro i h1 h2
    have e : i = t.length + r.length := by omega
    subst e
    refine Ev.step (f := fun k => some (mSteps t.length (t.length + r.length) (t.length + r.length), 1, ((mEnds (hasB t r) (t.length + r.length) : Nat) : Int), true)) (fun k => ?_) (Ev.now _)
    simp only [spec_MachOf.l0]; rw [if_neg (by omega)]
  | succ d ih =>
    intro i h1 h2
    have hlt := mEnds_lt (hasB t r) i
    have hi5 : 2 ^ i ≤ 2 ^ 5 := Nat.pow_le_pow_right (by omega) (by omega)
    have hs : mEnds (hasB t r) (i + 1) = if hasB t r i then mEnds (hasB t r) i ||| 2 ^ i else mEnds (hasB t r) i := rfl
    have hbit : spec_l1Bit.f (hasB t r i) = some (if hasB t r i then 1 else 0) := by cases hasB t r i <;> rfl
    have hor : Go.bits .or .i64 ((mEnds (hasB t r) i : Nat) : Int) (shl .i64 (if hasB t r i then 1 else 0) (i : Int)) = ((mEnds (hasB t r) (i + 1) : Nat) : Int) := by
      rw [hs]
      cases hasB t r i with
      | true => rw [if_pos (by trivial), shl_one (by omega), or_nat (by omega) (by omega), if_pos (by trivial)]
      | false =>
        rw [if_neg (by decide), shl_zero]
        have := or_nat (a := mEnds (hasB t r) i) (b := 0) (by omega) (by omega)
        rw [Nat.or_zero] at this
        rw [if_neg (by decide)]; exact this
    refine Ev.step (fun k => ?_) (ih (i + 1) (by omega) (by omega))
    simp only [spec_MachOf.l0]
    rw [if_pos (by omega), wsucc (by omega), shas_f t r hr (by omega) i (by omega), mSteps_length, mSteps_succ]
    simp only [Option.bind_some, hbit, hor]
    by_cases hlast : i + 1 = t.length + r.length
    · rw [if_pos (by omega), if_pos (by omega), if_pos (by omega), shl_one (by omega), if_pos hlast]
    · rw [if_neg (by omega), if_pos (by omega), if_pos (by omega), if_pos (by omega), shl_one (by omega), if_neg hlast]
/-- The machine of a text. -/
noncomputable def machOf (s : List UInt8) : List Int × Int × Int × Bool := match parse s with
  | some (a, b) => if (cn (hasB a b)).1.length + (cn (hasB a b)).2.length ≤ 5 then (mSteps (cn (hasB a b)).1.length ((cn (hasB a b)).1.length + (cn (hasB a b)).2.length) ((cn (hasB a b)).1.length + (cn (hasB a b)).2.length), 1, ((mEnds (hasB a b) ((cn (hasB a b)).1.length + (cn (hasB a b)).2.length) : Nat) : Int), true) else ([], 0, 0, false)
  | none => ([], 0, 0, false)
theorem imach_j (x : Int) (t r : List Bool) : Ev (fun k => impl_MachOf.j0 k x true t r) (([] : List Int), 0, 0, false) := by
  refine Ev.step (f := fun k => some (([] : List Int), 0, 0, false)) (fun k => ?_) (Ev.now _)
  simp only [impl_MachOf.j0]; rw [if_pos (by trivial)]
theorem imach_core (t r : List Bool) (hr : r ≠ []) (h1 : t.length ≤ 4000) (h2 : r.length ≤ 4000) :
    Ev (fun k => impl_MachOf.j0 k (wrap64 ((t.length : Int) + (r.length : Int))) (decide ((wrap64 ((t.length : Int) + (r.length : Int))) > 5)) t r)
      (if t.length + r.length ≤ 5 then (mSteps t.length (t.length + r.length) (t.length + r.length), 1, ((mEnds (hasB t r) (t.length + r.length) : Nat) : Int), true) else ([], 0, 0, false)) := by
  rw [wadd (by omega)]
  by_cases h5 : t.length + r.length ≤ 5
  · rw [if_pos h5]
    have := imach_l0 t r hr h5 _ 0 (by omega) rfl
    have e : decide (((t.length + r.length : Nat) : Int) > 5) = false := decide_eq_false (by omega)
    rw [e]
    refine Ev.step (fun k => ?_) this
    simp only [impl_MachOf.j0]; rw [if_neg (by decide)]; rfl
  · rw [if_neg h5]
    have e : decide (((t.length + r.length : Nat) : Int) > 5) = true := decide_eq_true (by omega)
    rw [e]; exact imach_j _ _ _
theorem imachOf_f (s : ByteArray) (hs : s.size ≤ 70368744177664) : Ev (fun k => impl_MachOf.f k s) (machOf (chrs s)) := by
  refine Ev.congr (fun k => rfl) (Ev.bind (tidied_f s hs) ?_)
  unfold tdd machOf
  cases h : parse (chrs s) with
  | none => simp only [Bool.false_eq_true, if_false]; exact imach_j _ _ _
  | some ab =>
    have hb := parse_some h
    have ht := cn_tidy (t := ab.1) hb.2.2
    have h1 := ht.tl
    have h2 := ht.rl
    have hh : hasB (cn (hasB ab.1 ab.2)).1 (cn (hasB ab.1 ab.2)).2 = hasB ab.1 ab.2 := funext ht.has
    have := imach_core (cn (hasB ab.1 ab.2)).1 (cn (hasB ab.1 ab.2)).2 ht.canon.1.1 (by omega) (by omega)
    rw [hh] at this
    simp only [if_true]
    exact this
theorem smachOf_f (s : ByteArray) (hs : s.size ≤ 70368744177664) : Ev (fun k => spec_MachOf.f k s) (machOf (chrs s)) := by
  refine Ev.congr (fun k => rfl) (Ev.bind (read_f s hs) ?_)
  unfold parsed machOf
  cases h : parse (chrs s) with
  | none => simp only [Bool.false_eq_true, if_false]; exact Ev.now _
  | some ab =>
    have hb := parse_some h
    have ht := cn_tidy (t := ab.1) hb.2.2
    have h1 := ht.tl
    have h2 := ht.rl
    have hh : hasB (cn (hasB ab.1 ab.2)).1 (cn (hasB ab.1 ab.2)).2 = hasB ab.1 ab.2 := funext ht.has
    simp only [if_true]
    refine Ev.bind (less_cn ab.1 ab.2 hb.2.2 (by omega)) ?_
    generalize hc : cn (hasB ab.1 ab.2) = c at ht h1 h2 hh ⊢
    rw [wadd (by omega)]
    by_cases h5 : c.1.length + c.2.length ≤ 5
    · rw [if_pos h5]
      have := smach_l0 c.1 c.2 ht.canon.1.1 h5 _ 0 (by omega) rfl
      rw [hh] at this
      simp only [if_neg (show ¬ ((c.1.length + c.2.length : Nat) : Int) > 5 by omega)]
      exact this
    · rw [if_neg h5]
      simp only [if_pos (show ((c.1.length + c.2.length : Nat) : Int) > 5 by omega)]
      exact Ev.now _

end Go.Proofs.Ytcacjmhelilblaa.P
