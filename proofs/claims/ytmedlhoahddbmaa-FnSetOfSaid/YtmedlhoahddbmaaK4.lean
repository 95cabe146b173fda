/- What these laws reach, joined by a program of this session: contracts (written by that program over the kit's print, or by hand) and plain lemmas. -/
import Derived.Test.YtmedlhoahddbmaaK1
import Derived.Test.YtmedlhoahddbmaaK2
import Derived.Test.YtmedlhoahddbmaaK3
-- impl.made over a question that is answered: the tidy text of the set.
namespace Go.Proofs.Ytmedlhoahddbmaa.P
open Go.RowKit Go.Proofs.YtmedlhoahddbmaaW.PrintWords Go.Proofs.YtmedlhoahddbmaaW.PrintLast Go.Proofs.YtmedlhoahddbmaaW.PrintMore
set_option linter.unusedVariables false
set_option linter.unusedSimpArgs false

theorem made_calls (q : Nat → Bool) (m p : Nat) (hp : 0 < p) (hper : Per q m p) (hl : m + p ≤ 1000000) (g : Nat) (lb : Array Value) (w : World)
    (eg : ∀ args w, (callFunc g args).run Try.prog w = .ok (.enter g args) w)
    (hc : ∀ (W : World) (i : Nat), Below w.heap.size w W → i < m + p → Calls Try.prog g (#[.int .i64 i] ++ lb) W fun e w' => e = .returned (.bool (q i)) ∧ Below W.heap.size W w') :
    Calls Try.prog 15 #[.int .i64 m, .int .i64 p, .func (.func g) #[] lb] w fun e w' => e = .returned (.tuple #[.string (txt (cn q)).1, .bool (txt (cn q)).2]) ∧ Below w.heap.size w w' := by
  have hs := cn_spec hp hper
  have h1 := tidy_cn (mkT q m) (mkR q m p) (mkR_ne q hp) (by rw [mkT_length, mkR_length]; omega)
  rw [mk_has hp hper] at h1
  have h2 := text_f (cn q).1 (cn q).2 (by omega)
  obtain ⟨k, hk⟩ := (Ev.bind (f := fun k y => impl_set_text.f k y.1 y.2) h1 h2).rounds
  have := impl_made.calls k (mkT q m) (mkR q m p) (txt (cn q)).1 (txt (cn q)).2 g lb w eg (fun W i hW hi => ?_) (by rw [mkT_length, mkR_length]; omega) hk
  · rw [mkT_length, mkR_length] at this; exact this
  · rw [mkT_length, mkR_length] at hi
    rw [← mkT_add, mkT_get q hi]; exact hc W i hW hi

end Go.Proofs.Ytmedlhoahddbmaa.P

-- impl.SetOf: the set of the numbers of a list.
namespace Go.Proofs.Ytmedlhoahddbmaa.P
open Go.RowKit Go.Proofs.YtmedlhoahddbmaaW.PrintWords Go.Proofs.YtmedlhoahddbmaaW.PrintLast Go.Proofs.YtmedlhoahddbmaaW.PrintMore
set_option linter.unusedVariables false
set_option linter.unusedSimpArgs false

/-- The numbers of a list as a set. -/
noncomputable def liq (l : List Int) : Nat → Bool := fun n => dec (∃ i : Nat, i < l.length ∧ rd l (i : Int) = (n : Int))
/-- Whether a number lies outside of 0 .. 59. -/
def outq (x : Int) : Bool := !decide (0 ≤ x ∧ x ≤ 59)
/-- What impl.SetOf answers. -/
noncomputable def sor (l : List Int) : ByteArray × Bool := if anyI l outq = true then (⟨#[]⟩, false) else txt (cn (liq l))
theorem liq_in {l : List Int} (h : anyI l outq = false) : ∀ i : Nat, i < l.length → 0 ≤ rd l (i : Int) ∧ rd l (i : Int) ≤ 59 := by
  intro i hi
  by_cases h1 : 0 ≤ rd l (i : Int) ∧ rd l (i : Int) ≤ 59
  · exact h1
  · have : anyI l outq = true := by
      unfold anyI
      exact dec_true ⟨i, hi, by unfold outq; rw [decide_eq_false h1]; rfl⟩
    rw [h] at this; cases this
theorem liq_big {l : List Int} (h : anyI l outq = false) {n : Nat} (hn : 60 ≤ n) : liq l n = false := by
  unfold liq
  refine dec_false ?_
  rintro ⟨i, hi, h1⟩
  have := liq_in h i hi
  omega
theorem liq_per {l : List Int} (h : anyI l outq = false) : Per (liq l) 60 1 := fun n hn => by
  rw [liq_big h (by omega), liq_big h hn]
noncomputable def impl_SetOf.f (l : List Int) : Option (ByteArray × Bool) := if l.length ≤ 1000000 then some (sor l) else none
theorem isetOfList_f (l : List Int) (hl : l.length ≤ 1000000) : impl_SetOf.f l = some (sor l) := by unfold impl_SetOf.f; rw [if_pos hl]
theorem icont_l0 (l : List Int) (hl : l.length ≤ 1000000) (x : Int) : ∀ (d i : Nat), i ≤ l.length → l.length - i = d → (∀ j : Nat, j < i → rd l (j : Int) ≠ x) → ∃ v : Int, decide (v ≥ 0) = dec (∃ i : Nat, i < l.length ∧ rd l (i : Int) = x) ∧ Ev (fun k => slices_Index_int_int.l0 k l x l.length i) v := by
  intro d
  induction d with
  | zero =>
    intro i hi hd hf
    have e : i = l.length := by omega
    subst e
    refine ⟨-1, ?_, ?_⟩
    · rw [dec_false (fun ⟨j, h1, h2⟩ => hf j h1 h2)]; rfl
    · refine Ev.step (f := fun k => some (-1)) (fun k => ?_) (Ev.now _)
      simp only [slices_Index_int_int.l0]; rw [if_neg (by omega)]
  | succ d ih =>
    intro i hi hd hf
    by_cases h : rd l (i : Int) = x
    · refine ⟨i, ?_, ?_⟩
      · rw [dec_true ⟨i, by omega, h⟩]; exact decide_eq_true (by omega)
      · refine Ev.step (f := fun k => some (i : Int)) (fun k => ?_) (Ev.now _)
        simp only [slices_Index_int_int.l0]
        rw [if_pos (by omega), if_pos (by omega), if_pos (by omega), if_pos h.symm]
    · obtain ⟨v, h1, h2⟩ := ih (i + 1) (by omega) (by omega) (fun j hj => by
        rcases Nat.lt_or_ge j i with h3 | h3
        · exact hf j h3
        · rw [show j = i by omega]; exact h)
      refine ⟨v, h1, ?_⟩
      refine Ev.step (fun k => ?_) h2
      simp only [slices_Index_int_int.l0]
      rw [if_pos (by omega), if_pos (by omega), if_pos (by omega), if_neg (fun e => h e.symm), wsucc (by omega)]
theorem icont_f (l : List Int) (hl : l.length ≤ 1000000) (n : Nat) : Ev (fun k => slices_Contains_int_int.f k l n) (liq l n) := by
  obtain ⟨v, h1, h2⟩ := icont_l0 l hl (n : Int) _ 0 (Nat.zero_le _) rfl (fun j hj => by omega)
  have e : liq l n = decide (v ≥ 0) := h1.symm
  rw [e]
  exact Ev.congr (fun k => rfl) (Ev.bind (f := fun k t => some (decide (t ≥ 0))) h2 (Ev.now _))

set_option maxHeartbeats 8000000 in
theorem setOf1_calls (x : Int) (W : World) :
    Calls Try.prog 13 #[.int .i64 x] W fun e w' => e = .returned (.bool (outq x)) ∧ Below W.heap.size W w' := by
  have hin := in_f x 0 59
  have HI := fun w => Aside0.mk (impl_in.calls x 0 59 _ w hin)
  unfold outq
  generalize decide (0 ≤ x ∧ x ≤ 59) = b at *
  clear hin
  go_enter Try.func13, Try.ntmps13
  go_wp2_with (go_at_call 14; refine (HI _).out.mono ?_; rintro e w1 ⟨rfl, hd⟩; have hb := drawn0_below hd; clear hd)
  go_ret
  exact ⟨rfl, hb⟩

set_option maxHeartbeats 8000000 in
theorem setOf2_calls (l : List Int) (hl : l.length ≤ 1000000) (A : Option Addr) (c n b : Nat) (W : World) (hC : Kd.C (Kd.int .i64) W A l.length l) (hc : l.length ≤ c) (hb : W.cell? ⟨b, 0, none⟩ = some (.slice A l.length c)) :
    Calls Try.prog 16 #[.int .i64 n, .pointer (some ⟨b, 0, none⟩)] W fun e w' => e = .returned (.bool (liq l n)) ∧ Below W.heap.size W w' := by
  obtain ⟨k, hk⟩ := (icont_f l hl n).rounds
  have HS := Aside0.mk (slices_Contains_int_int.calls k A c l n (liq l n) W hC hc hk)
  generalize liq l n = q at *
  clear hk hC hc hl
  go_enter Try.func16, Try.ntmps16
  go_wp2_with (go_at_call 17; refine HS.out.mono ?_; rintro e w1 ⟨rfl, hd⟩; have hb := drawn0_below hd; clear hd)
  go_ret
  exact ⟨rfl, hb⟩

set_option maxHeartbeats 8000000 in
set_option maxRecDepth 100000 in
theorem impl_SetOf.calls (A0 : Option Addr) (c0 : Nat) (l0 : List Int) (r1 : ByteArray) (r2 : Bool) (w : World) (hr0 : Kd.C (Kd.int .i64) w A0 l0.length l0) (hc0 : l0.length ≤ c0) (h : impl_SetOf.f l0 = some (r1, r2)) :
    Calls Try.prog 5 #[.slice A0 l0.length c0] w fun e w' => e = .returned (.tuple #[.string r1, .bool r2]) ∧ Below w.heap.size w w' := by
  unfold impl_SetOf.f at h
  split at h
  · rename_i hl
    simp only [Option.some.injEq] at h
    have hR : r1 = (sor l0).1 ∧ r2 = (sor l0).2 := by rw [h]; exact ⟨rfl, rfl⟩
    obtain ⟨rfl, rfl⟩ := hR
    clear h
    have eg1 : ∀ args w, (callFunc 13 args).run Try.prog w = .ok (.enter 13 args) w := enters_of Try.func13 (by kernel_rfl) rfl
    have eg2 : ∀ args w, (callFunc 16 args).run Try.prog w = .ok (.enter 16 args) w := enters_of Try.func16 (by kernel_rfl) rfl
    have HA := fun (W : World) (hC : Kd.C (Kd.int .i64) W A0 l0.length l0) => containsFunc_calls l0 (by omega) A0 c0 13 #[] outq W hC hc0 eg1 (fun W' i hW' hi => by
      exact setOf1_calls (rd l0 (i : Int)) W')
    have HCA := Aside0.mk hr0
    have HL := Aside0.mk hl
    have HC0 := Aside0.mk hc0
    cases hp : anyI l0 outq with
    | true =>
      have e : sor l0 = (⟨#[]⟩, false) := by unfold sor; rw [hp]; rfl
      rw [e]
      rw [hp] at HA
      have HAA := Aside0.mk HA
      clear HA hp e hr0 hl hc0 eg1 eg2
      go_enter Try.func5, Try.ntmps5
      go_wp2_with (go_at_call 12; go_loud (refine (HAA.out _ (Kd.C_below HCA.out (below_alloc (Below.refl w.heap.size w) _))).mono ?_; rintro e w1 ⟨rfl, hd⟩; have HB := Aside0.mk (below_step (below_alloc (Below.refl w.heap.size w) _) hd); clear hd))
      go_ret2
      exact ⟨rfl, HB.out⟩
    | false =>
      have e : sor l0 = txt (cn (liq l0)) := by unfold sor; rw [hp]; rfl
      rw [e]
      have HM := fun (lb : Array Value) (w : World) => Aside0.mk (made_calls (liq l0) 60 1 (by omega) (liq_per hp) (by omega) 16 lb w eg2)
      rw [hp] at HA
      have HAA := Aside0.mk HA
      clear HA hp e hr0 hl hc0 eg1 eg2
      go_enter Try.func5, Try.ntmps5
      go_wp2_with (first
        | (go_at_call 12; go_loud (refine (HAA.out _ (Kd.C_below HCA.out (below_alloc (Below.refl w.heap.size w) _))).mono ?_; rintro e w1 ⟨rfl, hd⟩; have HB := Aside0.mk (below_step (below_alloc (Below.refl w.heap.size w) _) hd); have f0 : w1.cell? ⟨w.heap.size, 0, none⟩ = some (.slice A0 l0.length c0) := (hd.cell (p := ⟨w.heap.size, 0, none⟩) (by simp)).trans (by simp); have hl1 : w.heap.size < w1.heap.size := Nat.lt_of_lt_of_le (by simp) hd.size; clear hd))
        | (go_at_call 15; refine ((HM _ _).out ?hc).mono ?_; (case hc =>
            intro W i hW hi
            exact setOf2_calls l0 HL.out A0 c0 i w.heap.size W (Kd.C_below HCA.out ((below_step HB.out hW))) HC0.out ((hW.cell (p := ⟨w.heap.size, 0, none⟩) (by omega)).trans f0)); rintro e w4 ⟨rfl, hb4⟩))
      go_ret2
      exact ⟨rfl, below_step HB.out hb4⟩
  · cases h
end Go.Proofs.Ytmedlhoahddbmaa.P

namespace Go.Proofs.Ytmedlhoahddbmaa.P
open Go.RowKit Go.Proofs.YtmedlhoahddbmaaW.PrintWords Go.Proofs.YtmedlhoahddbmaaW.PrintLast Go.Proofs.YtmedlhoahddbmaaW.PrintMore
attribute [local go_sem] max2_int min2_int max_two min_two max_three min_three max_four min_four   -- for this text's walks alone
set_option linter.unusedVariables false
set_option linter.unusedSimpArgs false

/-! ### laws_FnSetOf: function 3 -/
mutual
noncomputable def laws_FnSetOf.j0:Nat → List Int → ByteArray → Bool → Bool → Option (Bool)
 | 0,_,_,_,_=>none
 | k + 1,x3,x4,x5,x8=>if x8 = true then (laws_FnSetOf.j1 k x3 x4 x8 (!x5)) else (laws_FnSetOf.j1 k x3 x4 x8 true)
noncomputable def laws_FnSetOf.j1:Nat → List Int → ByteArray → Bool → Bool → Option (Bool)
 | 0,_,_,_,_=>none
 | k + 1,x3,x4,x8,x42=>if x42 = true then (some x8) else ((impl_SetList.f k x4 100).bind fun bt331=>(laws_FnSetOf.l0 k x3 x4 bt331.1 bt331.2 0))
noncomputable def laws_FnSetOf.l0:Nat → List Int → ByteArray → List Int → Bool → Int → Option (Bool)
 | 0,_,_,_,_,_=>none
 | k + 1,x3,x4,x9,x10,x11=>if x11 < (x3.length:Int) then (if 0≤x11 then ((impl_SetHas.f k x4 (rd x3 x11)).bind fun t336=>(if t336 = true then (laws_FnSetOf.l0 k x3 x4 x9 x10 (wrap64 (x11 + 1))) else (some false))) else (none)) else ((impl_SetOf.f x9).bind fun bt337=>(if x10 = true then (if bt337.2 = true then (if bt337.1.toList = x4.toList then (if (x9.length:Int)≤(x3.length:Int) then ((impl_SetEnds.f k x4).bind fun t339=>(some t339)) else (some false)) else (some false)) else (some false)) else (some false)))
end
noncomputable def laws_FnSetOf.f (k:Nat) (l0:List Int):Option (Bool):=if (l0.length:Int) > 1048576 then (some true) else ((spec_DrawSetOf.f k l0).bind fun t324=>((impl_SetOf.f t324).bind fun bt327=>((spec_SetOf.f k t324).bind fun bt329=>(if bt327.1.toList = bt329.1.toList then (laws_FnSetOf.j0 k t324 bt327.1 bt327.2 (bt327.2 == bt329.2)) else (laws_FnSetOf.j0 k t324 bt327.1 bt327.2 false)))))
theorem laws_FnSetOf.mono_l:∀ k,(∀ y0 y1 y2 y3,LeO (laws_FnSetOf.j0 k y0 y1 y2 y3) (laws_FnSetOf.j0 (k + 1) y0 y1 y2 y3))∧(∀ y0 y1 y2 y3,LeO (laws_FnSetOf.j1 k y0 y1 y2 y3) (laws_FnSetOf.j1 (k + 1) y0 y1 y2 y3))∧(∀ y0 y1 y2 y3 y4,LeO (laws_FnSetOf.l0 k y0 y1 y2 y3 y4) (laws_FnSetOf.l0 (k + 1) y0 y1 y2 y3 y4))
 | 0=>⟨fun _ _ _ _ r h=>by simp [laws_FnSetOf.j0] at h,fun _ _ _ _ r h=>by simp [laws_FnSetOf.j1] at h,fun _ _ _ _ _ r h=>by simp [laws_FnSetOf.l0] at h⟩
 | k + 1=>by
  obtain ⟨ih0,ih1,ih2⟩:=laws_FnSetOf.mono_l k
  refine ⟨?_,?_,?_⟩
  ·intro y0 y1 y2 y3
   unfold laws_FnSetOf.j0
   repeat' first
   | (with_reducible exact ih0 _ _ _ _)
   | (with_reducible exact ih1 _ _ _ _)
   | (with_reducible exact ih2 _ _ _ _ _)
   | (with_reducible exact impl_SetEnds.mono _ _)
   | (with_reducible exact impl_SetHas.mono _ _ _)
   | (with_reducible exact impl_SetList.mono _ _ _)
   | (with_reducible exact spec_DrawSetOf.mono _ _)
   | (with_reducible exact spec_SetOf.mono _ _)
   | (with_reducible exact LeO.refl _)
   | (with_reducible exact LeO.none _)
   | (with_reducible refine LeO.ite ?_ ?_)
   | (with_reducible refine LeO.bind ?_ (fun _=>?_))
   | exact ih0 _ _ _ _
   | exact ih1 _ _ _ _
   | exact ih2 _ _ _ _ _
   | exact impl_SetEnds.mono _ _
   | exact impl_SetHas.mono _ _ _
   | exact impl_SetList.mono _ _ _
   | exact spec_DrawSetOf.mono _ _
   | exact spec_SetOf.mono _ _
   | exact LeO.none _
   | refine LeO.ite ?_ ?_
   | refine LeO.bind ?_ (fun _=>?_)
  ·intro y0 y1 y2 y3
   unfold laws_FnSetOf.j1
   repeat' first
   | (with_reducible exact ih0 _ _ _ _)
   | (with_reducible exact ih1 _ _ _ _)
   | (with_reducible exact ih2 _ _ _ _ _)
   | (with_reducible exact impl_SetEnds.mono _ _)
   | (with_reducible exact impl_SetHas.mono _ _ _)
   | (with_reducible exact impl_SetList.mono _ _ _)
   | (with_reducible exact spec_DrawSetOf.mono _ _)
   | (with_reducible exact spec_SetOf.mono _ _)
   | (with_reducible exact LeO.refl _)
   | (with_reducible exact LeO.none _)
   | (with_reducible refine LeO.ite ?_ ?_)
   | (with_reducible refine LeO.bind ?_ (fun _=>?_))
   | exact ih0 _ _ _ _
   | exact ih1 _ _ _ _
   | exact ih2 _ _ _ _ _
   | exact impl_SetEnds.mono _ _
   | exact impl_SetHas.mono _ _ _
   | exact impl_SetList.mono _ _ _
   | exact spec_DrawSetOf.mono _ _
   | exact spec_SetOf.mono _ _
   | exact LeO.none _
   | refine LeO.ite ?_ ?_
   | refine LeO.bind ?_ (fun _=>?_)
  ·intro y0 y1 y2 y3 y4
   unfold laws_FnSetOf.l0
   repeat' first
   | (with_reducible exact ih0 _ _ _ _)
   | (with_reducible exact ih1 _ _ _ _)
   | (with_reducible exact ih2 _ _ _ _ _)
   | (with_reducible exact impl_SetEnds.mono _ _)
   | (with_reducible exact impl_SetHas.mono _ _ _)
   | (with_reducible exact impl_SetList.mono _ _ _)
   | (with_reducible exact spec_DrawSetOf.mono _ _)
   | (with_reducible exact spec_SetOf.mono _ _)
   | (with_reducible exact LeO.refl _)
   | (with_reducible exact LeO.none _)
   | (with_reducible refine LeO.ite ?_ ?_)
   | (with_reducible refine LeO.bind ?_ (fun _=>?_))
   | exact ih0 _ _ _ _
   | exact ih1 _ _ _ _
   | exact ih2 _ _ _ _ _
   | exact impl_SetEnds.mono _ _
   | exact impl_SetHas.mono _ _ _
   | exact impl_SetList.mono _ _ _
   | exact spec_DrawSetOf.mono _ _
   | exact spec_SetOf.mono _ _
   | exact LeO.none _
   | refine LeO.ite ?_ ?_
   | refine LeO.bind ?_ (fun _=>?_)
theorem laws_FnSetOf.mono:∀ a0 k,LeO (laws_FnSetOf.f k a0) (laws_FnSetOf.f (k + 1) a0):=by
 intro a0 k
 obtain ⟨ih0,ih1,ih2⟩:=laws_FnSetOf.mono_l k
 unfold laws_FnSetOf.f
 repeat' first
   | (with_reducible exact ih0 _ _ _ _)
   | (with_reducible exact ih1 _ _ _ _)
   | (with_reducible exact ih2 _ _ _ _ _)
   | (with_reducible exact impl_SetEnds.mono _ _)
   | (with_reducible exact impl_SetHas.mono _ _ _)
   | (with_reducible exact impl_SetList.mono _ _ _)
   | (with_reducible exact spec_DrawSetOf.mono _ _)
   | (with_reducible exact spec_SetOf.mono _ _)
   | (with_reducible exact LeO.refl _)
   | (with_reducible exact LeO.none _)
   | (with_reducible refine LeO.ite ?_ ?_)
   | (with_reducible refine LeO.bind ?_ (fun _=>?_))
   | exact ih0 _ _ _ _
   | exact ih1 _ _ _ _
   | exact ih2 _ _ _ _ _
   | exact impl_SetEnds.mono _ _
   | exact impl_SetHas.mono _ _ _
   | exact impl_SetList.mono _ _ _
   | exact spec_DrawSetOf.mono _ _
   | exact spec_SetOf.mono _ _
   | exact LeO.none _
   | refine LeO.ite ?_ ?_
   | refine LeO.bind ?_ (fun _=>?_)
set_option maxHeartbeats 8000000 in
set_option maxRecDepth 100000 in
theorem laws_FnSetOf.calls (k:Nat) (A0:Option Addr) (c0:Nat) (l0:List Int) (r:Bool) (w:World) (hr0:Kd.C (Kd.int .u8) w A0 l0.length l0) (hc0:l0.length≤c0) (h:laws_FnSetOf.f k l0 = some r) :
  Calls Try.prog 3 #[.slice A0 l0.length c0] w fun e w'=>e = .returned (.bool r)∧Below w.heap.size w w':=by
 have HR0:=Aside0.mk hr0
 have HC0:=Aside0.mk hc0
 clear hr0 hc0
 have HB:=Aside0.mk (Below.refl w.heap.size w)
 have H:(if (l0.length:Int) > 1048576 then (some true) else ((spec_DrawSetOf.f k l0).bind fun t324=>((impl_SetOf.f t324).bind fun bt327=>((spec_SetOf.f k t324).bind fun bt329=>(if bt327.1.toList = bt329.1.toList then (laws_FnSetOf.j0 k t324 bt327.1 bt327.2 (bt327.2 == bt329.2)) else (laws_FnSetOf.j0 k t324 bt327.1 bt327.2 false)))))) = some r:=h
 clear h
 by_cases c2:(l0.length:Int) > 1048576
 ·rw [if_pos c2] at H
  have c2b0:decide (1048576 < (l0.length:Int)) = true:=decide_eq_true c2
  have c2b1:decide (1048576 < l0.length) = true:=decide_eq_true (by omega)
  clear c2
  obtain rfl:=Option.some.inj H
  go_enter Try.func3,Try.ntmps3
  go_wp2
  go_ret
  exact ⟨by first|rfl|(simp [errW_none,errW_some] <;> rfl)|(simp [*,errW_none,errW_some] <;> rfl)|(simp [errW_none,errW_some];exact ⟨rfl,rfl⟩),by repeat (first|(with_reducible first|exact HB.out|apply below_alloc|apply pw_below_drewN|apply below_drew1)|exact HB.out)⟩
 ·rw [if_neg c2] at H
  have c2b0:decide (1048576 < (l0.length:Int)) = false:=decide_eq_false c2
  have c2b1:decide (1048576 < l0.length) = false:=decide_eq_false (by omega)
  clear c2
  replace H:=Option.bind_eq_some_iff.mp H
  obtain ⟨t324,A30,H⟩:=H
  replace H:((impl_SetOf.f t324).bind fun bt327=>((spec_SetOf.f k t324).bind fun bt329=>(if bt327.1.toList = bt329.1.toList then (laws_FnSetOf.j0 k t324 bt327.1 bt327.2 (bt327.2 == bt329.2)) else (laws_FnSetOf.j0 k t324 bt327.1 bt327.2 false)))) = some r:=H
  have A3:=Aside0.mk A30
  clear A30
  replace H:=Option.bind_eq_some_iff.mp H
  obtain ⟨⟨t327,t328⟩,A40,H⟩:=H
  replace H:((spec_SetOf.f k t324).bind fun bt329=>(if t327.toList = bt329.1.toList then (laws_FnSetOf.j0 k t324 t327 t328 (t328 == bt329.2)) else (laws_FnSetOf.j0 k t324 t327 t328 false))) = some r:=H
  have A4:=Aside0.mk A40
  clear A40
  replace H:=Option.bind_eq_some_iff.mp H
  obtain ⟨⟨t329,t330⟩,A50,H⟩:=H
  replace H:(if t327.toList = t329.toList then (laws_FnSetOf.j0 k t324 t327 t328 (t328 == t330)) else (laws_FnSetOf.j0 k t324 t327 t328 false)) = some r:=H
  have A5:=Aside0.mk A50
  clear A50
  have HC6:=Aside0.mk H
  clear H
  go_enter Try.func3,Try.ntmps3
  go_upto_region 6 with (first|((with_reducible refine gate_callee (f:=4) rfl ?_);refine goesL_ (some 18) rfl rfl Try.func4 (by kernel_rfl) rfl #[.slice A0 l0.length c0] rfl (by (try simp only [List.map_toArray,List.map_cons,List.map_nil]);first|done|rfl|(simp only [List.length_drop,List.length_take];rfl)) ?_;(with_reducible refine (spec_DrawSetOf.calls k _ _ l0 t324 _ ?side1 ?side2 A3.out).mono ?_);(case side1=>repeat (first|exact HR0.out|(with_reducible refine Kd.C_alloc ?_ _)|(with_reducible refine Kd.C_drewN ?_ _)|(with_reducible refine Kd.C_drew ?_)));(case side2=>exact HC0.out);rintro e w7 ⟨v325,rfl,ho0,hb⟩;refine ⟨_,rfl,?_⟩;have n0_:=Aside0.mk (Kd.R_lower ho0 (below_size (by repeat (first|(with_reducible first|exact HB.out|apply below_alloc|apply pw_below_drewN|apply below_drew1)|exact HB.out))));have n1_:=Aside0.mk (below_step (by repeat (first|(with_reducible first|exact HB.out|apply below_alloc|apply pw_below_drewN|apply below_drew1)|exact HB.out)) hb);clear HB;have HO326:=n0_;have HB:=n1_;clear n0_ n1_;(try clear hb);(try clear hb2);(try clear hk);(try clear hi);(try clear ho0);obtain ⟨Ao8,co8,eo8⟩:=Kd.R_slice HO326.out;subst eo8)|((with_reducible refine gate_callee (f:=5) rfl ?_);refine goesL_ (some 21) rfl rfl Try.func5 (by kernel_rfl) rfl #[.slice Ao8 t324.length co8] rfl (by (try simp only [List.map_toArray,List.map_cons,List.map_nil]);first|done|rfl|(simp only [List.length_drop,List.length_take];rfl)) ?_;(with_reducible refine (impl_SetOf.calls _ _ t324 t327 t328 _ ?side1 ?side2 A4.out).mono ?_);(case side1=>repeat (first|exact (Kd.R_reads' HO326.out).2.2|(with_reducible refine Kd.C_alloc ?_ _)|(with_reducible refine Kd.C_drewN ?_ _)|(with_reducible refine Kd.C_drew ?_)));(case side2=>exact (Kd.R_reads' HO326.out).2.1);rintro e w9 ⟨rfl,hb⟩;refine ⟨_,rfl,?_⟩;have n0_:=Aside0.mk (Kd.R_below (by (with_reducible repeat (first|apply Kd.R_alloc|apply Kd.R_drewN|apply Kd.R_drew));exact HO326.out) hb);have n1_:=Aside0.mk (below_step (by repeat (first|(with_reducible first|exact HB.out|apply below_alloc|apply pw_below_drewN|apply below_drew1)|exact HB.out)) hb);clear HO326;clear HB;have HO326:=n0_;have HB:=n1_;clear n0_ n1_;(try clear hb);(try clear hb2);(try clear hk);(try clear hi))|((with_reducible refine gate_callee (f:=6) rfl ?_);refine goesL_ (some 26) rfl rfl Try.func6 (by kernel_rfl) rfl #[.slice Ao8 t324.length co8] rfl (by (try simp only [List.map_toArray,List.map_cons,List.map_nil]);first|done|rfl|(simp only [List.length_drop,List.length_take];rfl)) ?_;(with_reducible refine (spec_SetOf.calls k _ _ t324 t329 t330 _ ?side1 ?side2 A5.out).mono ?_);(case side1=>repeat (first|exact (Kd.R_reads' HO326.out).2.2|(with_reducible refine Kd.C_alloc ?_ _)|(with_reducible refine Kd.C_drewN ?_ _)|(with_reducible refine Kd.C_drew ?_)));(case side2=>exact (Kd.R_reads' HO326.out).2.1);rintro e w10 ⟨rfl,hb⟩;refine ⟨_,rfl,?_⟩;have n0_:=Aside0.mk (Kd.R_below (by (with_reducible repeat (first|apply Kd.R_alloc|apply Kd.R_drewN|apply Kd.R_drew));exact HO326.out) hb);have n1_:=Aside0.mk (below_step (by repeat (first|(with_reducible first|exact HB.out|apply below_alloc|apply pw_below_drewN|apply below_drew1)|exact HB.out)) hb);clear HO326;clear HB;have HO326:=n0_;have HB:=n1_;clear n0_ n1_;(try clear hb);(try clear hb2);(try clear hk);(try clear hi)))
  (try simp only [Act.put,List.setIfInBounds_toArray,List.set_cons_zero,List.set_cons_succ])
  go_cut [8] (fun v8 wc=>∃ (kq:Nat) (x8_5:Bool),v8 = .bool x8_5∧Aside0 (laws_FnSetOf.j0 kq t324 t327 t328 x8_5 = some r)∧Aside0 (kq≤k)∧Aside0 (Kd.R (Kd.int .i64) 3 wc w.heap.size (fun _=>True) (.slice Ao8 t324.length co8) t324)∧Aside0 (Below w.heap.size w wc))
  case first =>
   have H:=HC6.out
   clear HC6
   by_cases c11:t327.toList = t329.toList
   ·rw [if_pos c11] at H
    have c11b0:(t327.toList == t329.toList) = true:=beq_iff_eq.mpr c11
    have c11b1:(t327.toList != t329.toList) = false:=bne_eq_false_iff_eq.mpr c11
    clear c11
    (first|rw [c11b0]|(simp only [i64_w,i32_w];rw [c11b0])|skip)
    have H':=Aside0.mk H
    clear H
    go_wp2
    go_meet
    case rel=>exact ⟨_,((t328 == t330)),(by first|rfl|(simp;done)|(simp [*];done)|(simp [Int.tmod_eq_emod_of_nonneg];done)),H',⟨by first|omega|exact Nat.le_refl _⟩,⟨by (with_reducible repeat (first|apply Kd.R_alloc|apply Kd.R_drewN|apply Kd.R_drew));exact HO326.out⟩,⟨by repeat (first|(with_reducible first|exact HB.out|apply below_alloc|apply pw_below_drewN|apply below_drew1)|exact HB.out)⟩⟩
   ·rw [if_neg c11] at H
    have c11b0:(t327.toList == t329.toList) = false:=beq_eq_false_iff_ne.mpr c11
    have c11b1:(t327.toList != t329.toList) = true:=bne_iff_ne.mpr c11
    (first|rw [c11b0]|(simp only [i64_w,i32_w];rw [c11b0])|skip)
    have H':=Aside0.mk H
    clear H
    go_wp2
    go_meet
    case rel=>exact ⟨_,(false),(by first|rfl|(simp;done)|(simp [*];done)|(simp [Int.tmod_eq_emod_of_nonneg];done)),H',⟨by first|omega|exact Nat.le_refl _⟩,⟨by (with_reducible repeat (first|apply Kd.R_alloc|apply Kd.R_drewN|apply Kd.R_drew));exact HO326.out⟩,⟨by repeat (first|(with_reducible first|exact HB.out|apply below_alloc|apply pw_below_drewN|apply below_drew1)|exact HB.out)⟩⟩
  case rest =>
   clear HC6
   try clear c1
   try clear c2
   try clear c2b0
   try clear c2b1
   try clear p2
   try clear c3
   try clear c4
   try clear c5
   try clear c6
   try clear c11
   try clear c11b0
   try clear c11b1
   obtain ⟨kq,x8_5,rfl,HA,HJ5,HO_3,HB⟩:=hcut
   cases kq with
   | zero=>exact absurd HA.out (by simp [laws_FnSetOf.j0])
   | succ kj5 =>
    have H:=HA.out
    clear HA
    simp only [laws_FnSetOf.j0] at H
    have HC12:=Aside0.mk H
    clear H
    go_upto_region 7 with (fail)
    go_cut [42] (fun v42 wc=>∃ (kq:Nat) (x42_11:Bool),v42 = .bool x42_11∧Aside0 (laws_FnSetOf.j1 kq t324 t327 x8_5 x42_11 = some r)∧Aside0 (kq≤kj5)∧Aside0 (Kd.R (Kd.int .i64) 3 wc w.heap.size (fun _=>True) (.slice Ao8 t324.length co8) t324)∧Aside0 (Below w.heap.size w wc))
    case first =>
     have H:=HC12.out
     clear HC12
     by_cases c13:x8_5 = true
     ·subst c13
      have H1:(laws_FnSetOf.j1 kj5 t324 t327 true (!t328)) = some r:=by rw [if_pos rfl] at H;exact H
      clear H
      have H:=H1
      clear H1
      have H':=Aside0.mk H
      clear H
      go_wp2
      go_meet
      case rel=>exact ⟨_,(!t328),(by first|rfl|(simp;done)|(simp [*];done)|(simp [Int.tmod_eq_emod_of_nonneg];done)),H',⟨by have:=HJ5.out;first|omega|exact Nat.le_refl _⟩,⟨by (with_reducible repeat (first|apply Kd.R_alloc|apply Kd.R_drewN|apply Kd.R_drew));exact HO_3.out⟩,⟨by repeat (first|(with_reducible first|exact HB.out|apply below_alloc|apply pw_below_drewN|apply below_drew1)|exact HB.out)⟩⟩
     ·replace c13:=Bool.eq_false_iff.mpr c13
      subst c13
      have H1:(laws_FnSetOf.j1 kj5 t324 t327 false true) = some r:=by rw [if_neg (show ¬ (false = true) by decide)] at H;exact H
      clear H
      have H:=H1
      clear H1
      have H':=Aside0.mk H
      clear H
      go_wp2
      go_meet
      case rel=>exact ⟨_,(true),(by first|rfl|(simp;done)|(simp [*];done)|(simp [Int.tmod_eq_emod_of_nonneg];done)),H',⟨by have:=HJ5.out;first|omega|exact Nat.le_refl _⟩,⟨by (with_reducible repeat (first|apply Kd.R_alloc|apply Kd.R_drewN|apply Kd.R_drew));exact HO_3.out⟩,⟨by repeat (first|(with_reducible first|exact HB.out|apply below_alloc|apply pw_below_drewN|apply below_drew1)|exact HB.out)⟩⟩
    case rest =>
     clear HC12
     try clear c1
     try clear c2
     try clear c2b0
     try clear c2b1
     try clear p2
     try clear c3
     try clear c4
     try clear c5
     try clear c6
     try clear c11
     try clear c11b0
     try clear c11b1
     try clear c13
     try clear p2
     obtain ⟨kq,x42_11,rfl,HA,HJ11,HO_3,HB⟩:=hcut
     cases kq with
     | zero=>exact absurd HA.out (by simp [laws_FnSetOf.j1])
     | succ kj11 =>
      have H:=HA.out
      clear HA
      simp only [laws_FnSetOf.j1] at H
      by_cases c14:x42_11 = true
      ·subst c14
       have H1:(some x8_5) = some r:=by rw [if_pos rfl] at H;exact H
       clear H
       have H:=H1
       clear H1
       obtain rfl:=Option.some.inj H
       go_wp2
       go_ret
       exact ⟨by first|rfl|(simp [errW_none,errW_some] <;> rfl)|(simp [*,errW_none,errW_some] <;> rfl)|(simp [errW_none,errW_some];exact ⟨rfl,rfl⟩),by repeat (first|(with_reducible first|exact HB.out|apply below_alloc|apply pw_below_drewN|apply below_drew1)|exact HB.out)⟩
      ·replace c14:=Bool.eq_false_iff.mpr c14
       subst c14
       have H1:((impl_SetList.f kj11 t327 100).bind fun bt331=>(laws_FnSetOf.l0 kj11 t324 t327 bt331.1 bt331.2 0)) = some r:=by rw [if_neg (show ¬ (false = true) by decide)] at H;exact H
       clear H
       have H:=H1
       clear H1
       replace H:=Option.bind_eq_some_iff.mp H
       obtain ⟨⟨t331,t332⟩,A150,H⟩:=H
       replace H:(laws_FnSetOf.l0 kj11 t324 t327 t331 t332 0) = some r:=H
       have A15:=Aside0.mk A150
       clear A150
       have H':=Aside0.mk H
       clear H
       go_wp2_with (first|((with_reducible refine gate_callee (f:=7) rfl ?_);refine goesL_ (some 46) rfl rfl Try.func7 (by kernel_rfl) rfl #[.string t327,.int .i64 100] rfl (by (try simp only [List.map_toArray,List.map_cons,List.map_nil]);first|done|rfl|(simp only [List.length_drop,List.length_take];rfl)) ?_;(with_reducible refine (impl_SetList.calls kj11 t327 100 t331 t332 _ A15.out).mono ?_);rintro e w16 ⟨v333,rfl,ho0,hb⟩;refine ⟨_,rfl,?_⟩;have n0_:=Aside0.mk (Kd.R_elder' (by (with_reducible repeat (first|apply Kd.R_alloc|apply Kd.R_drewN|apply Kd.R_drew));exact HO_3.out) (Kd.R_base ho0) hb);have n1_:=Aside0.mk (Kd.R_lower (Kd.R_new' ho0 (Kd.R_lt (by (with_reducible repeat (first|apply Kd.R_alloc|apply Kd.R_drewN|apply Kd.R_drew));exact HO_3.out))) (below_size (by repeat (first|(with_reducible first|exact HB.out|apply below_alloc|apply pw_below_drewN|apply below_drew1)|exact HB.out))));have n2_:=Aside0.mk (below_step (by repeat (first|(with_reducible first|exact HB.out|apply below_alloc|apply pw_below_drewN|apply below_drew1)|exact HB.out)) hb);clear HO_3;clear HB;have HO_3:=n0_;have HO334:=n1_;have HB:=n2_;clear n0_ n1_ n2_;(try clear hb);(try clear hb2);(try clear hk);(try clear hi);(try clear ho0)))
       go_loopg [11] kj11 (fun kq v11 w'=>∃ (x11_3:Int),v11 = .int .i64 x11_3∧Aside0 (laws_FnSetOf.l0 kq t324 t327 t331 t332 x11_3 = some r)∧Aside0 (kq≤kj11)∧Aside0 (Kd.R (Kd.int .i64) 3 w' w.heap.size (fun k_=>some k_ ≠ (v333:Value).ownBlock) (.slice Ao8 t324.length co8) t324)∧Aside0 (Kd.R (Kd.int .i64) 3 w' w.heap.size (fun k_=>some k_ ≠ ((.slice Ao8 t324.length co8):Value).ownBlock) v333 t331)∧Aside0 (Below w.heap.size w w'))
       case atStart=>exact ⟨(0),(by first|rfl|(simp;done)|(simp [*];done)|(simp [Int.tmod_eq_emod_of_nonneg];done)),H',⟨Nat.le_refl _⟩,⟨by (with_reducible repeat (first|apply Kd.R_alloc|apply Kd.R_drewN|apply Kd.R_drew));exact Kd.R_mono HO_3.out (fun _ hk=>hk.2)⟩,⟨by (with_reducible repeat (first|apply Kd.R_alloc|apply Kd.R_drewN|apply Kd.R_drew));exact Kd.R_mono HO334.out (fun _ hk=>hk.2)⟩,⟨by repeat (first|(with_reducible first|exact HB.out|apply below_alloc|apply pw_below_drewN|apply below_drew1)|exact HB.out)⟩⟩
       case round =>
        clear H'
        try clear c1
        try clear c2
        try clear c2b0
        try clear c2b1
        try clear p2
        try clear c3
        try clear c4
        try clear c5
        try clear c6
        try clear c7
        try clear c11
        try clear c11b0
        try clear c11b1
        try clear c13
        try clear c14
        try clear p2
        obtain ⟨x11_3,rfl,HA,HK3,HO_3,HO_9,HB⟩:=hrel
        cases gk with
        | zero=>exact absurd HA.out (by simp [laws_FnSetOf.l0])
        | succ k3 =>
         have H:=HA.out
         clear HA
         simp only [laws_FnSetOf.l0] at H
         by_cases c17:x11_3 < (t324.length:Int)
         ·rw [if_pos c17] at H
          have c17b0:decide (x11_3 < (t324.length:Int)) = true:=decide_eq_true c17
          clear c17
          by_cases c18:0≤x11_3
          ·rw [if_pos c18] at H
           have c18b0:decide (0≤x11_3) = true:=decide_eq_true c18
           clear c18
           replace H:=Option.bind_eq_some_iff.mp H
           obtain ⟨t336,A190,H⟩:=H
           replace H:(if t336 = true then (laws_FnSetOf.l0 k3 t324 t327 t331 t332 (wrap64 (x11_3 + 1))) else (some false)) = some r:=H
           have A19:=Aside0.mk A190
           clear A190
           by_cases c20:t336 = true
           ·subst c20
            have H1:(laws_FnSetOf.l0 k3 t324 t327 t331 t332 (wrap64 (x11_3 + 1))) = some r:=by rw [if_pos rfl] at H;exact H
            clear H
            have H:=H1
            clear H1
            have H':=Aside0.mk H
            clear H
            have p335:0≤(x11_3:Int):=of_decide_eq_true (by first|(with_reducible assumption)|assumption)
            have q335:x11_3 < (t324.length:Int):=of_decide_eq_true (by first|(with_reducible assumption)|assumption)
            obtain ⟨ad335,e335,hx335_0⟩:=Kd.at_int (Kd.R_reads' HO_3.out).2.2 x11_3 p335 q335
            cases e335
            replace p335:=eq_true p335
            replace q335:=eq_true q335
            go_wp2_with (first|((with_reducible refine gate_callee (f:=8) rfl ?_);refine goesL_ (some 60) rfl rfl Try.func8 (by kernel_rfl) rfl #[.string t327,.int .i64 (rd t324 x11_3)] rfl (by (try simp only [List.map_toArray,List.map_cons,List.map_nil]);first|done|rfl|(simp only [List.length_drop,List.length_take];rfl)) ?_;(with_reducible refine (impl_SetHas.calls k3 t327 (rd t324 x11_3) true _ A19.out).mono ?_);rintro e w21 ⟨rfl,hb⟩;refine ⟨_,rfl,?_⟩;have n0_:=Aside0.mk (Kd.R_below (by (with_reducible repeat (first|apply Kd.R_alloc|apply Kd.R_drewN|apply Kd.R_drew));exact HO_3.out) hb);have n1_:=Aside0.mk (Kd.R_below (by (with_reducible repeat (first|apply Kd.R_alloc|apply Kd.R_drewN|apply Kd.R_drew));exact HO_9.out) hb);have n2_:=Aside0.mk (below_step (by repeat (first|(with_reducible first|exact HB.out|apply below_alloc|apply pw_below_drewN|apply below_drew1)|exact HB.out)) hb);clear HO_3;clear HO_9;clear HB;have HO_3:=n0_;have HO_9:=n1_;have HB:=n2_;clear n0_ n1_ n2_;(try clear hb);(try clear hb2);(try clear hk);(try clear hi)))
            go_roundg k3
            case measure=>have:=HJ5.out;have:=HJ11.out;have:=HK3.out;omega
            case rel=>exact ⟨(wrap64 (x11_3 + 1)),(by first|rfl|(simp;done)|(simp [*];done)|(simp [Int.tmod_eq_emod_of_nonneg];done)),H',⟨by have:=HJ5.out;have:=HJ11.out;have:=HK3.out;omega⟩,⟨by (with_reducible repeat (first|apply Kd.R_alloc|apply Kd.R_drewN|apply Kd.R_drew));exact HO_3.out⟩,⟨by (with_reducible repeat (first|apply Kd.R_alloc|apply Kd.R_drewN|apply Kd.R_drew));exact HO_9.out⟩,⟨by repeat (first|(with_reducible first|exact HB.out|apply below_alloc|apply pw_below_drewN|apply below_drew1)|exact HB.out)⟩⟩
           ·replace c20:=Bool.eq_false_iff.mpr c20
            subst c20
            have H1:(some false) = some r:=by rw [if_neg (show ¬ (false = true) by decide)] at H;exact H
            clear H
            have H:=H1
            clear H1
            obtain rfl:=Option.some.inj H
            have p335:0≤(x11_3:Int):=of_decide_eq_true (by first|(with_reducible assumption)|assumption)
            have q335:x11_3 < (t324.length:Int):=of_decide_eq_true (by first|(with_reducible assumption)|assumption)
            obtain ⟨ad335,e335,hx335_0⟩:=Kd.at_int (Kd.R_reads' HO_3.out).2.2 x11_3 p335 q335
            cases e335
            replace p335:=eq_true p335
            replace q335:=eq_true q335
            go_wp2_with (first|((with_reducible refine gate_callee (f:=8) rfl ?_);refine goesL_ (some 60) rfl rfl Try.func8 (by kernel_rfl) rfl #[.string t327,.int .i64 (rd t324 x11_3)] rfl (by (try simp only [List.map_toArray,List.map_cons,List.map_nil]);first|done|rfl|(simp only [List.length_drop,List.length_take];rfl)) ?_;(with_reducible refine (impl_SetHas.calls k3 t327 (rd t324 x11_3) false _ A19.out).mono ?_);rintro e w22 ⟨rfl,hb⟩;refine ⟨_,rfl,?_⟩;have n0_:=Aside0.mk (Kd.R_below (by (with_reducible repeat (first|apply Kd.R_alloc|apply Kd.R_drewN|apply Kd.R_drew));exact HO_3.out) hb);have n1_:=Aside0.mk (Kd.R_below (by (with_reducible repeat (first|apply Kd.R_alloc|apply Kd.R_drewN|apply Kd.R_drew));exact HO_9.out) hb);have n2_:=Aside0.mk (below_step (by repeat (first|(with_reducible first|exact HB.out|apply below_alloc|apply pw_below_drewN|apply below_drew1)|exact HB.out)) hb);clear HO_3;clear HO_9;clear HB;have HO_3:=n0_;have HO_9:=n1_;have HB:=n2_;clear n0_ n1_ n2_;(try clear hb);(try clear hb2);(try clear hk);(try clear hi)))
            go_ret
            exact ⟨by first|rfl|(simp [errW_none,errW_some] <;> rfl)|(simp [*,errW_none,errW_some] <;> rfl)|(simp [errW_none,errW_some];exact ⟨rfl,rfl⟩),by repeat (first|(with_reducible first|exact HB.out|apply below_alloc|apply pw_below_drewN|apply below_drew1)|exact HB.out)⟩
          ·rw [if_neg c18] at H
           exact absurd H (by simp)
         ·rw [if_neg c17] at H
          have c17b0:decide (x11_3 < (t324.length:Int)) = false:=decide_eq_false c17
          clear c17
          replace H:=Option.bind_eq_some_iff.mp H
          obtain ⟨⟨t337,t338⟩,A230,H⟩:=H
          replace H:(if t332 = true then (if t338 = true then (if t337.toList = t327.toList then (if (t331.length:Int)≤(t324.length:Int) then ((impl_SetEnds.f k3 t327).bind fun t339=>(some t339)) else (some false)) else (some false)) else (some false)) else (some false)) = some r:=H
          have A23:=Aside0.mk A230
          clear A230
          by_cases c24:t332 = true
          ·subst c24
           have H1:(if t338 = true then (if t337.toList = t327.toList then (if (t331.length:Int)≤(t324.length:Int) then ((impl_SetEnds.f k3 t327).bind fun t339=>(some t339)) else (some false)) else (some false)) else (some false)) = some r:=by rw [if_pos rfl] at H;exact H
           clear H
           have H:=H1
           clear H1
           by_cases c25:t338 = true
           ·subst c25
            have H1:(if t337.toList = t327.toList then (if (t331.length:Int)≤(t324.length:Int) then ((impl_SetEnds.f k3 t327).bind fun t339=>(some t339)) else (some false)) else (some false)) = some r:=by rw [if_pos rfl] at H;exact H
            clear H
            have H:=H1
            clear H1
            by_cases c26:t337.toList = t327.toList
            ·rw [if_pos c26] at H
             have c26b0:(t337.toList == t327.toList) = true:=beq_iff_eq.mpr c26
             have c26b1:(t337.toList != t327.toList) = false:=bne_eq_false_iff_eq.mpr c26
             clear c26
             by_cases c27:(t331.length:Int)≤(t324.length:Int)
             ·rw [if_pos c27] at H
              have c27b0:decide ((t331.length:Int)≤(t324.length:Int)) = true:=decide_eq_true c27
              have c27b1:decide (t331.length≤t324.length) = true:=decide_eq_true (Int.ofNat_le.mp c27)
              clear c27
              replace H:=Option.bind_eq_some_iff.mp H
              obtain ⟨t339,A280,H⟩:=H
              replace H:(some t339) = some r:=H
              have A28:=Aside0.mk A280
              clear A280
              obtain rfl:=Option.some.inj H
              obtain ⟨Ao29,co29,eo29⟩:=Kd.R_slice HO_9.out
              subst eo29
              go_wp2_with (first|((with_reducible refine gate_callee (f:=5) rfl ?_);refine goesL_ (some 64) rfl rfl Try.func5 (by kernel_rfl) rfl #[.slice Ao29 t331.length co29] rfl (by (try simp only [List.map_toArray,List.map_cons,List.map_nil]);first|done|rfl|(simp only [List.length_drop,List.length_take];rfl)) ?_;(with_reducible refine (impl_SetOf.calls _ _ t331 t337 true _ ?side1 ?side2 A23.out).mono ?_);(case side1=>repeat (first|exact (Kd.R_reads' HO_9.out).2.2|(with_reducible refine Kd.C_alloc ?_ _)|(with_reducible refine Kd.C_drewN ?_ _)|(with_reducible refine Kd.C_drew ?_)));(case side2=>exact (Kd.R_reads' HO_9.out).2.1);rintro e w30 ⟨rfl,hb⟩;refine ⟨_,rfl,?_⟩;have n0_:=Aside0.mk (Kd.R_below (by (with_reducible repeat (first|apply Kd.R_alloc|apply Kd.R_drewN|apply Kd.R_drew));exact HO_3.out) hb);have n1_:=Aside0.mk (Kd.R_below (by (with_reducible repeat (first|apply Kd.R_alloc|apply Kd.R_drewN|apply Kd.R_drew));exact HO_9.out) hb);have n2_:=Aside0.mk (below_step (by repeat (first|(with_reducible first|exact HB.out|apply below_alloc|apply pw_below_drewN|apply below_drew1)|exact HB.out)) hb);clear HO_3;clear HO_9;clear HB;have HO_3:=n0_;have HO_9:=n1_;have HB:=n2_;clear n0_ n1_ n2_;(try clear hb);(try clear hb2);(try clear hk);(try clear hi))|(go_at_call 9;(with_reducible refine (impl_SetEnds.calls k3 t327 t339 _ A28.out).mono ?_);rintro e w31 ⟨rfl,hb⟩;have n0_:=Aside0.mk (Kd.R_below (by (with_reducible repeat (first|apply Kd.R_alloc|apply Kd.R_drewN|apply Kd.R_drew));exact HO_3.out) hb);have n1_:=Aside0.mk (Kd.R_below (by (with_reducible repeat (first|apply Kd.R_alloc|apply Kd.R_drewN|apply Kd.R_drew));exact HO_9.out) hb);have n2_:=Aside0.mk (below_step (by repeat (first|(with_reducible first|exact HB.out|apply below_alloc|apply pw_below_drewN|apply below_drew1)|exact HB.out)) hb);clear HO_3;clear HO_9;clear HB;have HO_3:=n0_;have HO_9:=n1_;have HB:=n2_;clear n0_ n1_ n2_;(try clear hb);(try clear hb2);(try clear hk);(try clear hi)))
              go_ret
              exact ⟨by first|rfl|(simp [errW_none,errW_some] <;> rfl)|(simp [*,errW_none,errW_some] <;> rfl)|(simp [errW_none,errW_some];exact ⟨rfl,rfl⟩),by repeat (first|(with_reducible first|exact HB.out|apply below_alloc|apply pw_below_drewN|apply below_drew1)|exact HB.out)⟩
             ·rw [if_neg c27] at H
              have c27b0:decide ((t331.length:Int)≤(t324.length:Int)) = false:=decide_eq_false c27
              have c27b1:decide (t331.length≤t324.length) = false:=decide_eq_false (fun h=>c27 (Int.ofNat_le.mpr h))
              clear c27
              obtain rfl:=Option.some.inj H
              obtain ⟨Ao32,co32,eo32⟩:=Kd.R_slice HO_9.out
              subst eo32
              go_wp2_with (first|((with_reducible refine gate_callee (f:=5) rfl ?_);refine goesL_ (some 64) rfl rfl Try.func5 (by kernel_rfl) rfl #[.slice Ao32 t331.length co32] rfl (by (try simp only [List.map_toArray,List.map_cons,List.map_nil]);first|done|rfl|(simp only [List.length_drop,List.length_take];rfl)) ?_;(with_reducible refine (impl_SetOf.calls _ _ t331 t337 true _ ?side1 ?side2 A23.out).mono ?_);(case side1=>repeat (first|exact (Kd.R_reads' HO_9.out).2.2|(with_reducible refine Kd.C_alloc ?_ _)|(with_reducible refine Kd.C_drewN ?_ _)|(with_reducible refine Kd.C_drew ?_)));(case side2=>exact (Kd.R_reads' HO_9.out).2.1);rintro e w33 ⟨rfl,hb⟩;refine ⟨_,rfl,?_⟩;have n0_:=Aside0.mk (Kd.R_below (by (with_reducible repeat (first|apply Kd.R_alloc|apply Kd.R_drewN|apply Kd.R_drew));exact HO_3.out) hb);have n1_:=Aside0.mk (Kd.R_below (by (with_reducible repeat (first|apply Kd.R_alloc|apply Kd.R_drewN|apply Kd.R_drew));exact HO_9.out) hb);have n2_:=Aside0.mk (below_step (by repeat (first|(with_reducible first|exact HB.out|apply below_alloc|apply pw_below_drewN|apply below_drew1)|exact HB.out)) hb);clear HO_3;clear HO_9;clear HB;have HO_3:=n0_;have HO_9:=n1_;have HB:=n2_;clear n0_ n1_ n2_;(try clear hb);(try clear hb2);(try clear hk);(try clear hi)))
              go_ret
              exact ⟨by first|rfl|(simp [errW_none,errW_some] <;> rfl)|(simp [*,errW_none,errW_some] <;> rfl)|(simp [errW_none,errW_some];exact ⟨rfl,rfl⟩),by repeat (first|(with_reducible first|exact HB.out|apply below_alloc|apply pw_below_drewN|apply below_drew1)|exact HB.out)⟩
            ·rw [if_neg c26] at H
             have c26b0:(t337.toList == t327.toList) = false:=beq_eq_false_iff_ne.mpr c26
             have c26b1:(t337.toList != t327.toList) = true:=bne_iff_ne.mpr c26
             obtain rfl:=Option.some.inj H
             obtain ⟨Ao34,co34,eo34⟩:=Kd.R_slice HO_9.out
             subst eo34
             go_wp2_with (first|((with_reducible refine gate_callee (f:=5) rfl ?_);refine goesL_ (some 64) rfl rfl Try.func5 (by kernel_rfl) rfl #[.slice Ao34 t331.length co34] rfl (by (try simp only [List.map_toArray,List.map_cons,List.map_nil]);first|done|rfl|(simp only [List.length_drop,List.length_take];rfl)) ?_;(with_reducible refine (impl_SetOf.calls _ _ t331 t337 true _ ?side1 ?side2 A23.out).mono ?_);(case side1=>repeat (first|exact (Kd.R_reads' HO_9.out).2.2|(with_reducible refine Kd.C_alloc ?_ _)|(with_reducible refine Kd.C_drewN ?_ _)|(with_reducible refine Kd.C_drew ?_)));(case side2=>exact (Kd.R_reads' HO_9.out).2.1);rintro e w35 ⟨rfl,hb⟩;refine ⟨_,rfl,?_⟩;have n0_:=Aside0.mk (Kd.R_below (by (with_reducible repeat (first|apply Kd.R_alloc|apply Kd.R_drewN|apply Kd.R_drew));exact HO_3.out) hb);have n1_:=Aside0.mk (Kd.R_below (by (with_reducible repeat (first|apply Kd.R_alloc|apply Kd.R_drewN|apply Kd.R_drew));exact HO_9.out) hb);have n2_:=Aside0.mk (below_step (by repeat (first|(with_reducible first|exact HB.out|apply below_alloc|apply pw_below_drewN|apply below_drew1)|exact HB.out)) hb);clear HO_3;clear HO_9;clear HB;have HO_3:=n0_;have HO_9:=n1_;have HB:=n2_;clear n0_ n1_ n2_;(try clear hb);(try clear hb2);(try clear hk);(try clear hi)))
             go_ret
             exact ⟨by first|rfl|(simp [errW_none,errW_some] <;> rfl)|(simp [*,errW_none,errW_some] <;> rfl)|(simp [errW_none,errW_some];exact ⟨rfl,rfl⟩),by repeat (first|(with_reducible first|exact HB.out|apply below_alloc|apply pw_below_drewN|apply below_drew1)|exact HB.out)⟩
           ·replace c25:=Bool.eq_false_iff.mpr c25
            subst c25
            have H1:(some false) = some r:=by rw [if_neg (show ¬ (false = true) by decide)] at H;exact H
            clear H
            have H:=H1
            clear H1
            obtain rfl:=Option.some.inj H
            obtain ⟨Ao36,co36,eo36⟩:=Kd.R_slice HO_9.out
            subst eo36
            go_wp2_with (first|((with_reducible refine gate_callee (f:=5) rfl ?_);refine goesL_ (some 64) rfl rfl Try.func5 (by kernel_rfl) rfl #[.slice Ao36 t331.length co36] rfl (by (try simp only [List.map_toArray,List.map_cons,List.map_nil]);first|done|rfl|(simp only [List.length_drop,List.length_take];rfl)) ?_;(with_reducible refine (impl_SetOf.calls _ _ t331 t337 false _ ?side1 ?side2 A23.out).mono ?_);(case side1=>repeat (first|exact (Kd.R_reads' HO_9.out).2.2|(with_reducible refine Kd.C_alloc ?_ _)|(with_reducible refine Kd.C_drewN ?_ _)|(with_reducible refine Kd.C_drew ?_)));(case side2=>exact (Kd.R_reads' HO_9.out).2.1);rintro e w37 ⟨rfl,hb⟩;refine ⟨_,rfl,?_⟩;have n0_:=Aside0.mk (Kd.R_below (by (with_reducible repeat (first|apply Kd.R_alloc|apply Kd.R_drewN|apply Kd.R_drew));exact HO_3.out) hb);have n1_:=Aside0.mk (Kd.R_below (by (with_reducible repeat (first|apply Kd.R_alloc|apply Kd.R_drewN|apply Kd.R_drew));exact HO_9.out) hb);have n2_:=Aside0.mk (below_step (by repeat (first|(with_reducible first|exact HB.out|apply below_alloc|apply pw_below_drewN|apply below_drew1)|exact HB.out)) hb);clear HO_3;clear HO_9;clear HB;have HO_3:=n0_;have HO_9:=n1_;have HB:=n2_;clear n0_ n1_ n2_;(try clear hb);(try clear hb2);(try clear hk);(try clear hi)))
            go_ret
            exact ⟨by first|rfl|(simp [errW_none,errW_some] <;> rfl)|(simp [*,errW_none,errW_some] <;> rfl)|(simp [errW_none,errW_some];exact ⟨rfl,rfl⟩),by repeat (first|(with_reducible first|exact HB.out|apply below_alloc|apply pw_below_drewN|apply below_drew1)|exact HB.out)⟩
          ·replace c24:=Bool.eq_false_iff.mpr c24
           subst c24
           have H1:(some false) = some r:=by rw [if_neg (show ¬ (false = true) by decide)] at H;exact H
           clear H
           have H:=H1
           clear H1
           obtain rfl:=Option.some.inj H
           obtain ⟨Ao38,co38,eo38⟩:=Kd.R_slice HO_9.out
           subst eo38
           go_wp2_with (first|((with_reducible refine gate_callee (f:=5) rfl ?_);refine goesL_ (some 64) rfl rfl Try.func5 (by kernel_rfl) rfl #[.slice Ao38 t331.length co38] rfl (by (try simp only [List.map_toArray,List.map_cons,List.map_nil]);first|done|rfl|(simp only [List.length_drop,List.length_take];rfl)) ?_;(with_reducible refine (impl_SetOf.calls _ _ t331 t337 t338 _ ?side1 ?side2 A23.out).mono ?_);(case side1=>repeat (first|exact (Kd.R_reads' HO_9.out).2.2|(with_reducible refine Kd.C_alloc ?_ _)|(with_reducible refine Kd.C_drewN ?_ _)|(with_reducible refine Kd.C_drew ?_)));(case side2=>exact (Kd.R_reads' HO_9.out).2.1);rintro e w39 ⟨rfl,hb⟩;refine ⟨_,rfl,?_⟩;have n0_:=Aside0.mk (Kd.R_below (by (with_reducible repeat (first|apply Kd.R_alloc|apply Kd.R_drewN|apply Kd.R_drew));exact HO_3.out) hb);have n1_:=Aside0.mk (Kd.R_below (by (with_reducible repeat (first|apply Kd.R_alloc|apply Kd.R_drewN|apply Kd.R_drew));exact HO_9.out) hb);have n2_:=Aside0.mk (below_step (by repeat (first|(with_reducible first|exact HB.out|apply below_alloc|apply pw_below_drewN|apply below_drew1)|exact HB.out)) hb);clear HO_3;clear HO_9;clear HB;have HO_3:=n0_;have HO_9:=n1_;have HB:=n2_;clear n0_ n1_ n2_;(try clear hb);(try clear hb2);(try clear hk);(try clear hi)))
           go_ret
           exact ⟨by first|rfl|(simp [errW_none,errW_some] <;> rfl)|(simp [*,errW_none,errW_some] <;> rfl)|(simp [errW_none,errW_some];exact ⟨rfl,rfl⟩),by repeat (first|(with_reducible first|exact HB.out|apply below_alloc|apply pw_below_drewN|apply below_drew1)|exact HB.out)⟩

/-- THE ONE PURE STATEMENT of laws_FnSetOf: yours. -/
noncomputable def laws_FnSetOf.Pure:Prop:=∀ (l0:List Int),l0.length≤maxLen → l0.length * 1≤140737488351232 → (∀ x ∈ l0,(Lit.int .u8 x).wf = true) → ∃ k,laws_FnSetOf.f k l0 = some true
theorem laws_FnSetOf.walk (P:laws_FnSetOf.Pure) (a0:Option Addr) (len0 cap0:Nat) (z0:List Int) (w:World) (w0:(a0 = none∧len0 = 0∧cap0 = 0∧z0 = []) ∨ ∃ x,a0 = some x∧len0≤cap0∧cap0≤maxLen∧z0.length = cap0∧(∀ i,i < z0.length → w.cell? (x.add i) = some (.int .u8 (z0.getD i 0)))∧∀ n ∈ z0,(Lit.int .u8 n).wf = true) (y0:len0 * 1≤140737488351232) :
  Calls Try.prog 3 #[.slice a0 len0 cap0] w fun e w'=>e = .returned (.bool true)∧Below w.heap.size w w':=by
 obtain ⟨l0,rfl,hr0,hm0,hw0,hc0⟩:=ReadsInt.ofRowC w0
 obtain ⟨k,h⟩:=P l0 hm0 y0 hw0
 refine (laws_FnSetOf.calls k _ _ l0 true w (Kd.C_of_reads (d:=(0:Int)) (h1:=fun _=>rfl) hr0) hc0 h).mono ?_
 rintro e w' ⟨rfl,hd⟩
 exact ⟨rfl,hd⟩

end Go.Proofs.Ytmedlhoahddbmaa.P

-- spec.l1Write writes the text of a tail and a ring.
namespace Go.Proofs.Ytmedlhoahddbmaa.P
open Go.RowKit Go.Proofs.YtmedlhoahddbmaaW.PrintWords Go.Proofs.YtmedlhoahddbmaaW.PrintLast Go.Proofs.YtmedlhoahddbmaaW.PrintMore
set_option linter.unusedVariables false
set_option linter.unusedSimpArgs false
theorem write_byte (b : Bool) : (spec_l1Bit.f b) = some (if b then 1 else 0) := by cases b <;> rfl
theorem bt_sgn (b : Bool) : bt (⟨#[48, 49]⟩ : ByteArray) (if b then 1 else 0) = sgnI b := by cases b <;> decide
theorem write_l1 (t r : List Bool) (hr : r.length ≤ 1000000) : ∀ (d i : Nat) (acc : List Int), i ≤ r.length → r.length - i = d → acc.length ≤ 4000000 + i →
    Ev (fun k => spec_l1Write.l1 k acc i t r) (strOfNums (acc ++ (r.drop i).map sgnI ++ [41])) := by
  intro d
  induction d with
  | zero =>
    intro i acc hi hd ha
    have : r.drop i = [] := by rw [List.drop_eq_nil_iff]; omega
    rw [this]
    refine Ev.step (f := fun k => some (strOfNums (acc ++ [41]))) (fun k => ?_) (by simpa using Ev.now _)
    simp only [spec_l1Write.l1]; rw [if_neg (by omega), if_pos (by omega)]
  | succ d ih =>
    intro i acc hi hd ha
    have hw : wrap64 ((i : Int) + 1) = ((i + 1 : Nat) : Int) := by rw [w64 (by omega) (by omega)]; omega
    refine Ev.step (f := fun k => spec_l1Write.l1 k (acc ++ [sgnI (r.getD i false)]) ((i + 1 : Nat) : Int) t r) (fun k => ?_) ?_
    · simp only [spec_l1Write.l1]
      rw [if_pos (by omega), if_pos (by omega), rdOf_nat, write_byte]
      simp only [Option.bind_some]
      rw [if_pos (by split <;> decide), if_pos (by split <;> decide), if_pos (by omega), bt_sgn, hw]
    · have := ih (i + 1) (acc ++ [sgnI (r.getD i false)]) (by omega) (by omega) (by simp; omega)
      rw [drop_getD (show i < r.length by omega)]
      simpa using this
theorem write_l0 (t r : List Bool) (ht : t.length ≤ 1000000) (hr : r.length ≤ 1000000) : ∀ (d i : Nat) (acc : List Int), i ≤ t.length → t.length - i = d → acc.length ≤ i →
    Ev (fun k => spec_l1Write.l0 k acc i t r) (strOfNums (acc ++ (t.drop i).map sgnI ++ [40] ++ r.map sgnI ++ [41])) := by
  intro d
  induction d with
  | zero =>
    intro i acc hi hd ha
    have : t.drop i = [] := by rw [List.drop_eq_nil_iff]; omega
    rw [this]
    have h := write_l1 t r hr r.length 0 (acc ++ [40]) (by omega) (by omega) (by simp; omega)
    refine Ev.step (f := fun k => spec_l1Write.l1 k (acc ++ [40]) 0 t r) (fun k => ?_) (by simpa using h)
    simp only [spec_l1Write.l0]; rw [if_neg (by omega), if_pos (by omega)]
  | succ d ih =>
    intro i acc hi hd ha
    have hw : wrap64 ((i : Int) + 1) = ((i + 1 : Nat) : Int) := by rw [w64 (by omega) (by omega)]; omega
    refine Ev.step (f := fun k => spec_l1Write.l0 k (acc ++ [sgnI (t.getD i false)]) ((i + 1 : Nat) : Int) t r) (fun k => ?_) ?_
    · simp only [spec_l1Write.l0]
      rw [if_pos (by omega), if_pos (by omega), rdOf_nat, write_byte]
      simp only [Option.bind_some]
      rw [if_pos (by split <;> decide), if_pos (by split <;> decide), if_pos (by omega), bt_sgn, hw]
    · have := ih (i + 1) (acc ++ [sgnI (t.getD i false)]) (by omega) (by omega) (by simp; omega)
      rw [drop_getD (show i < t.length by omega)]
      simpa using this
theorem write_f (t r : List Bool) (ht : t.length ≤ 1000000) (hr : r.length ≤ 1000000) : Ev (fun k => spec_l1Write.f k t r) (textOf t r) := by
  have := write_l0 t r ht hr t.length 0 [] (by omega) (by omega) (by simp)
  have e : strOfNums (t.map sgnI ++ [40] ++ r.map sgnI ++ [41]) = textOf t r := by
    simp only [strOfNums, textOf, List.map_append, List.map_map]
    have : (fun n : Int => UInt8.ofNat n.toNat) ∘ sgnI = sgn := by funext b; cases b <;> rfl
    rw [this]; rfl
  rw [← e]
  simpa [spec_l1Write.f] using this


end Go.Proofs.Ytmedlhoahddbmaa.P

-- spec.l1Done writes the tidy text, if it is not too long.
namespace Go.Proofs.Ytmedlhoahddbmaa.P
open Go.RowKit Go.Proofs.YtmedlhoahddbmaaW.PrintWords Go.Proofs.YtmedlhoahddbmaaW.PrintLast Go.Proofs.YtmedlhoahddbmaaW.PrintMore
set_option linter.unusedVariables false
set_option linter.unusedSimpArgs false

theorem done_f (t r : List Bool) (hr : r ≠ []) (hl : t.length + r.length ≤ 4000) : Ev (fun k => spec_l1Done.f k t r) (txt (cn (hasB t r))) := by
  have ht := cn_tidy (t := t) hr
  have h1 := ht.tl
  have h2 := ht.rl
  refine Ev.congr (fun k => rfl) (Ev.bind (less_cn t r hr (by omega)) ?_)
  unfold txt
  by_cases ha : (cn (hasB t r)).1.length ≤ 60
  · simp only [if_neg (show ¬ (((cn (hasB t r)).1.length : Int) > 60) by omega)]
    by_cases hb : (cn (hasB t r)).2.length ≤ 60
    · simp only [if_neg (show ¬ (((cn (hasB t r)).2.length : Int) > 60) by omega)]
      rw [if_pos ⟨ha, hb⟩]
      exact Ev.bind (write_f _ _ (by omega) (by omega)) (Ev.now _)
    · simp only [if_pos (show (((cn (hasB t r)).2.length : Int) > 60) by omega)]
      rw [if_neg (fun h => hb h.2)]; exact Ev.now _
  · simp only [if_pos (show (((cn (hasB t r)).1.length : Int) > 60) by omega)]
    rw [if_neg (fun h => ha h.1)]; exact Ev.now _

end Go.Proofs.Ytmedlhoahddbmaa.P

-- spec.SetOf: the set of the numbers of a list.
namespace Go.Proofs.Ytmedlhoahddbmaa.P
open Go.RowKit Go.Proofs.YtmedlhoahddbmaaW.PrintWords Go.Proofs.YtmedlhoahddbmaaW.PrintLast Go.Proofs.YtmedlhoahddbmaaW.PrintMore
set_option linter.unusedVariables false
set_option linter.unusedSimpArgs false

/-- The first i numbers of a list as a set. -/
noncomputable def lip (l : List Int) (i : Nat) : Nat → Bool := fun n => dec (∃ j : Nat, j < i ∧ rd l (j : Int) = (n : Int))
theorem lip_zero (l : List Int) : mkT (lip l 0) 60 = List.replicate 60 false := by
  have e : lip l 0 = fun _ => false := funext fun n => dec_false fun ⟨j, h, _⟩ => by omega
  rw [e]; rfl
theorem lip_all (l : List Int) : lip l l.length = liq l := rfl
theorem lip_step {l : List Int} {i v : Nat} (h : rd l (i : Int) = (v : Int)) (hv : v < 60) : (mkT (lip l i) 60).set v true = mkT (lip l (i + 1)) 60 := by
  apply List.ext_getElem
  · rw [List.length_set, mkT_length, mkT_length]
  · intro n h1 h2
    have hn : n < 60 := by rw [mkT_length] at h2; exact h2
    have g1 : (mkT (lip l (i + 1)) 60)[n] = lip l (i + 1) n := by have := mkT_get (lip l (i + 1)) hn; rw [List.getD_eq_getElem?_getD, List.getElem?_eq_getElem h2] at this; exact this
    have h3 : n < (mkT (lip l i) 60).length := by rw [mkT_length]; exact hn
    have g2 : (mkT (lip l i) 60)[n] = lip l i n := by have := mkT_get (lip l i) hn; rw [List.getD_eq_getElem?_getD, List.getElem?_eq_getElem h3] at this; exact this
    rw [List.getElem_set]
    by_cases e : v = n
    · rw [if_pos e]; subst e
      exact (g1.trans (dec_true ⟨i, Nat.lt_succ_self _, h⟩)).symm
    · rw [if_neg e]
      refine g2.trans (Eq.trans ?_ g1.symm)
      refine dec_congr ⟨fun ⟨j, a, b⟩ => ⟨j, by omega, b⟩, fun ⟨j, a, b⟩ => ⟨j, ?_, b⟩⟩
      rcases Nat.lt_or_ge j i with x | x
      · exact x
      · rw [show j = i by omega, h] at b; omega
theorem specSetOf_l0 (l : List Int) (hl : l.length ≤ 1000000) : ∀ (d i : Nat), i ≤ l.length → l.length - i = d → (∀ j : Nat, j < i → outq (rd l (j : Int)) = false) →
    Ev (fun k => spec_SetOf.l0 k l (mkT (lip l i) 60) i) (sor l) := by
  intro d
  induction d with
  | zero =>
    intro i hi hd hf
    have e : i = l.length := by omega
    subst e
    have ha : anyI l outq = false := dec_false fun ⟨j, a, b⟩ => by rw [hf j a] at b; cases b
    have hd := done_f (mkT (liq l) 60) (mkR (liq l) 60 1) (mkR_ne _ (by omega)) (by rw [mkT_length, mkR_length]; omega)
    rw [mk_has (by omega) (liq_per ha)] at hd
    have hr : mkR (liq l) 60 1 = [false] := by
      have := liq_big ha (Nat.le_refl 60)
      show [liq l (60 + 0)] = [false]
      rw [this]
    rw [hr] at hd
    obtain ⟨K, hK⟩ := hd
    dsimp only at hK
    refine ⟨K + 1, fun k hk => ?_⟩
    have hk1 : k = (k - 1) + 1 := by omega
    dsimp only
    rw [hk1]
    simp only [spec_SetOf.l0]
    rw [if_neg (by omega), lip_all, hK (k - 1) (by omega), Option.bind_some]
    unfold sor
    rw [if_neg (by rw [ha]; decide)]
  | succ d ih =>
    intro i hi hd hf
    cases ho : outq (rd l (i : Int)) with
    | true =>
      have ha0 : anyI l outq = true := dec_true ⟨i, by omega, ho⟩
      have ha : sor l = (⟨#[]⟩, false) := by unfold sor; rw [if_pos ha0]
      have hb : decide (0 ≤ rd l (i : Int) ∧ rd l (i : Int) ≤ 59) = false := by unfold outq at ho; cases h : decide (0 ≤ rd l (i : Int) ∧ rd l (i : Int) ≤ 59) with
        | true => rw [h] at ho; cases ho
        | false => rfl
      rw [ha]
      refine Ev.step (f := fun k => some (⟨#[]⟩, false)) (fun k => ?_) (Ev.now _)
      simp only [spec_SetOf.l0]
      rw [if_pos (by omega), if_pos (by omega), l6in_f, hb, Option.bind_some, if_neg (by decide)]
    | false =>
      have hb : 0 ≤ rd l (i : Int) ∧ rd l (i : Int) ≤ 59 := by
        by_cases h : 0 ≤ rd l (i : Int) ∧ rd l (i : Int) ≤ 59
        · exact h
        · unfold outq at ho; rw [decide_eq_false h] at ho; cases ho
      have h2 := ih (i + 1) (by omega) (by omega) (fun j hj => by
        rcases Nat.lt_or_ge j i with x | x
        · exact hf j x
        · rw [show j = i by omega]; exact ho)
      obtain ⟨v, hv⟩ := Int.eq_ofNat_of_zero_le hb.1
      rw [← lip_step hv (by omega)] at h2
      refine Ev.step (fun k => ?_) h2
      simp only [spec_SetOf.l0]
      rw [if_pos (by omega), if_pos (by omega), l6in_f, decide_eq_true hb, Option.bind_some, if_pos rfl, if_pos hb.1, mkT_length, if_pos (by omega), hv, Int.toNat_natCast, wsucc (by omega)]
theorem specSetOf_f (l : List Int) (hl : l.length ≤ 1000000) : Ev (fun k => spec_SetOf.f k l) (sor l) := by
  have h := specSetOf_l0 l hl _ 0 (Nat.zero_le _) rfl (fun j hj => by omega)
  rw [lip_zero] at h
  refine Ev.congr (fun k => ?_) h
  unfold spec_SetOf.f
  rw [if_pos (by omega)]; rfl
end Go.Proofs.Ytmedlhoahddbmaa.P

-- impl.SetHas; the text of a tidy set, read again.
namespace Go.Proofs.Ytmedlhoahddbmaa.P
open Go.RowKit Go.Proofs.YtmedlhoahddbmaaW.PrintWords Go.Proofs.YtmedlhoahddbmaaW.PrintLast Go.Proofs.YtmedlhoahddbmaaW.PrintMore
set_option linter.unusedVariables false
set_option linter.unusedSimpArgs false

theorem isetHas_f (s : ByteArray) (hs : s.size ≤ 70368744177664) (n : Nat) (hn : n ≤ 1000000) : Ev (fun k => impl_SetHas.f k s n) (setf (chrs s) n) := by
  obtain ⟨x, y, hev, hxy⟩ := setOf_f s hs
  refine Ev.congr (fun k => rfl) (Ev.bind hev ?_)
  cases h : parse (chrs s) with
  | none => simp only [Option.isSome_none, Bool.false_eq_true, if_false, setf, h]; exact Ev.now _
  | some ab =>
    obtain ⟨rfl, rfl⟩ := hxy ab.1 ab.2 h
    have hb := parse_some (a := ab.1) (b := ab.2) h
    rw [setf_some (a := ab.1) (b := ab.2) h]
    simp only [Option.isSome_some, if_true, ihas_f ab.1 ab.2 hb.2.2 (by omega) n (by omega), Option.bind_some]
    exact Ev.now _
theorem isetHas_neg (s : ByteArray) (hs : s.size ≤ 70368744177664) (n : Int) (hn : n < 0) : Ev (fun k => impl_SetHas.f k s n) false := by
  obtain ⟨x, y, hev, hxy⟩ := setOf_f s hs
  refine Ev.congr (fun k => rfl) (Ev.bind hev ?_)
  simp only [ihas_neg x y n hn, Option.bind_some]
  cases (parse (chrs s)).isSome with
  | true => exact Ev.now _
  | false => exact Ev.now _
theorem txt_size (p : List Bool × List Bool) : (txt p).1.size ≤ 122 := by
  unfold txt
  split
  · show (textOf p.1 p.2).size ≤ 122; rw [textOf_size]; omega
  · show (0 : Nat) ≤ 122; omega
section
variable {q : Nat → Bool} {m p : Nat}
theorem txt_fits {t : List Bool × List Bool} (h : (txt t).2 = true) : t.1.length ≤ 60 ∧ t.2.length ≤ 60 := by
  unfold txt at h
  split at h
  · assumption
  · cases h
theorem txt_parse (hp : 0 < p) (h : Per q m p) (ht : (txt (cn q)).2 = true) : parse (chrs (txt (cn q)).1) = some ((cn q).1, (cn q).2) := by
  obtain ⟨h1, h2⟩ := txt_fits ht
  rw [txt_ok h1 h2]
  exact parse_cn hp h h1 h2
theorem txt_setf (hp : 0 < p) (h : Per q m p) (ht : (txt (cn q)).2 = true) : setf (chrs (txt (cn q)).1) = q := by
  rw [setf_some (txt_parse hp h ht), cn_has hp h]
theorem txt_tdy (hp : 0 < p) (h : Per q m p) (ht : (txt (cn q)).2 = true) : tdy (chrs (txt (cn q)).1) = ((txt (cn q)).1, true) := by
  obtain ⟨h1, h2⟩ := txt_fits ht
  rw [tdy_some (txt_parse hp h ht), cn_cn hp h, txt_ok h1 h2]
end
end Go.Proofs.Ytmedlhoahddbmaa.P

-- Words for the laws that ask a text number by number.
namespace Go.Proofs.Ytmedlhoahddbmaa.P
open Go.RowKit Go.Proofs.YtmedlhoahddbmaaW.PrintWords Go.Proofs.YtmedlhoahddbmaaW.PrintLast Go.Proofs.YtmedlhoahddbmaaW.PrintMore
set_option linter.unusedVariables false
set_option linter.unusedSimpArgs false

theorem ite_ok {c : Bool} {A : ByteArray × Bool} (h : (if c = true then A else (⟨#[]⟩, false)).2 = true) : c = true ∧ A.2 = true := by
  cases c with
  | true => exact ⟨rfl, by simpa using h⟩
  | false => simp at h
theorem bne_no (b : Bool) : ¬ ((b != b) = true) := by cases b <;> decide
theorem down1 {k K : Nat} (h : K + 1 ≤ k) : ∃ j, k = j + 1 ∧ K ≤ j := ⟨k - 1, by omega, by omega⟩
end Go.Proofs.Ytmedlhoahddbmaa.P

-- impl.SetList: the numbers of a set that are less than some number.
namespace Go.Proofs.Ytmedlhoahddbmaa.P
open Go.RowKit Go.Proofs.YtmedlhoahddbmaaW.PrintWords Go.Proofs.YtmedlhoahddbmaaW.PrintLast Go.Proofs.YtmedlhoahddbmaaW.PrintMore
set_option linter.unusedVariables false
set_option linter.unusedSimpArgs false

theorem isetList_f (s : ByteArray) (hs : s.size ≤ 70368744177664) {a b : List Bool} (hp : parse (chrs s) = some (a, b)) (n : Nat) (hn : n ≤ 1000) : Ev (fun k => impl_SetList.f k s n) (blw (hasB a b) n, true) := by
  obtain ⟨x, y, hev, hxy⟩ := setOf_f s hs
  obtain ⟨rfl, rfl⟩ := hxy a b hp
  have hb := parse_some hp
  refine Ev.congr (fun k => rfl) (Ev.bind hev ?_)
  simp only [hp, Option.isSome_some, if_true, in_f, decide_eq_true (show (0 : Int) ≤ (n : Int) ∧ (n : Int) ≤ 1000 by omega), Option.bind_some]
  exact Ev.bind (iblw_f x y hb.2.2 (by omega) n (by omega)) (Ev.now _)
end Go.Proofs.Ytmedlhoahddbmaa.P

-- For every code the law FnSetOf holds.
namespace Go.Proofs.Ytmedlhoahddbmaa.P
open Go.RowKit Go.Proofs.YtmedlhoahddbmaaW.PrintWords Go.Proofs.YtmedlhoahddbmaaW.PrintLast Go.Proofs.YtmedlhoahddbmaaW.PrintMore
set_option linter.unusedVariables false
set_option linter.unusedSimpArgs false

theorem drawSetOf_l0 {b : List Int} (h : Code b) : ∀ (d : Nat) (acc : List Int) (p : Nat), d ≤ 1000 → acc.length + d ≤ 1000 → p + 3 * d ≤ 500000 → ∃ l : List Int, l.length ≤ acc.length + d + 1 ∧ Ev (fun k => spec_DrawSetOf.l0 k acc d b p) l := by
  intro d
  induction d with
  | zero =>
    intro acc p hd ha hp
    obtain ⟨v, hv, K1, h1⟩ := pick_f h p 16 (by omega) (by omega) (by omega)
    obtain ⟨u, hu, K2, h2⟩ := pick_f h (p + 1) 2 (by omega) (by omega) (by omega)
    have g1 : ∀ k, K1 ≤ k → spec_l6Rd_pick.f k b (p : Int) 16 = some ((v : Int), ((p + 1 : Nat) : Int)) := h1
    have g2 : ∀ k, K2 ≤ k → spec_l6Rd_pick.f k b ((p + 1 : Nat) : Int) 2 = some ((u : Int), ((p + 1 + 1 : Nat) : Int)) := h2
    clear h1 h2
    by_cases hz : v = 0
    · subst hz
      refine ⟨acc ++ [rd [(-1), 60] (u : Int)], by simp, K1 + K2 + 1, fun k hk => ?_⟩
      obtain ⟨k, rfl, hk2⟩ := down1 hk
      have c1 : (u : Int) < (([(-1), 60] : List Int).length : Int) := by show (u : Int) < 2; omega
      simp only [spec_DrawSetOf.l0]
      rw [if_neg (by omega), g1 k (by omega), Option.bind_some]
      dsimp only
      rw [if_pos (by omega), Option.bind_some, g2 k (by omega), Option.bind_some]
      dsimp only
      rw [if_pos (by omega), if_pos c1, if_pos (by omega)]
    · refine ⟨acc, by omega, K1 + K2 + 1, fun k hk => ?_⟩
      obtain ⟨k, rfl, hk2⟩ := down1 hk
      simp only [spec_DrawSetOf.l0]
      rw [if_neg (by omega), g1 k (by omega), Option.bind_some]
      dsimp only
      rw [if_neg (by omega)]
  | succ d ih =>
    intro acc p hd ha hp
    obtain ⟨v, hv, K1, h1⟩ := pick_f h p 12 (by omega) (by omega) (by omega)
    obtain ⟨u, hu, K2, h2⟩ := pick_f h (p + 1) 60 (by omega) (by omega) (by omega)
    obtain ⟨x, hx, K3, h3⟩ := pick_f h (p + 1 + 1) 3 (by omega) (by omega) (by omega)
    have g1 : ∀ k, K1 ≤ k → spec_l6Rd_pick.f k b (p : Int) 12 = some ((v : Int), ((p + 1 : Nat) : Int)) := h1
    have g2 : ∀ k, K2 ≤ k → spec_l6Rd_pick.f k b ((p + 1 : Nat) : Int) 60 = some ((u : Int), ((p + 1 + 1 : Nat) : Int)) := h2
    have g3 : ∀ k, K3 ≤ k → spec_l6Rd_pick.f k b ((p + 1 + 1 : Nat) : Int) 3 = some ((x : Int), ((p + 1 + 1 + 1 : Nat) : Int)) := h3
    clear h1 h2 h3
    obtain ⟨l, hl, K4, h4⟩ := ih (acc ++ [rd [(v : Int), (u : Int), 59] (x : Int)]) (p + 1 + 1 + 1) (by omega) (by rw [List.length_append]; show acc.length + 1 + d ≤ 1000; omega) (by omega)
    dsimp only at h4
    refine ⟨l, by rw [List.length_append] at hl; have : ([rd [(v : Int), (u : Int), 59] (x : Int)] : List Int).length = 1 := rfl; omega, K1 + K2 + K3 + K4 + 1, fun k hk => ?_⟩
    obtain ⟨k, rfl, hk2⟩ := down1 hk
    have c1 : (x : Int) < (([(v : Int), (u : Int), 59] : List Int).length : Int) := by show (x : Int) < 3; omega
    have e2 : wrap64 (((d + 1 : Nat) : Int) - 1) = (d : Int) := by rw [w64 (by omega) (by omega)]; omega
    simp only [spec_DrawSetOf.l0]
    rw [if_pos (by clear e2; omega), g1 k (by clear e2; omega), Option.bind_some]
    dsimp only
    rw [g2 k (by clear e2; omega), Option.bind_some]
    dsimp only
    rw [Option.bind_some, g3 k (by clear e2; omega), Option.bind_some]
    dsimp only
    rw [if_pos (by clear e2; omega), if_pos c1, if_pos (by clear e2; omega), e2]
    exact h4 k (by clear e2; omega)
theorem drawSetOf_f (l : List Int) (h : ∀ x ∈ l, (Lit.int .u8 x).wf = true) : ∃ m : List Int, m.length ≤ 1000 ∧ Ev (fun k => spec_DrawSetOf.f k l) m := by
  obtain ⟨v, hv, K1, h1⟩ := pick_f (code_of h) 0 7 (by omega) (by omega) (by omega)
  have g1 : ∀ k, K1 ≤ k → spec_l6Rd_pick.f k (l.take 2000) 0 7 = some ((v : Int), ((0 + 1 : Nat) : Int)) := h1
  clear h1
  obtain ⟨m, hm, K2, h2⟩ := drawSetOf_l0 (code_of h) v [] (0 + 1) (by omega) (by show 0 + v ≤ 1000; omega) (by omega)
  dsimp only at h2
  refine ⟨m, by simp only [List.length_nil] at hm; omega, K1 + K2, fun k hk => ?_⟩
  dsimp only
  unfold spec_DrawSetOf.f
  rw [open_f, Option.bind_some]
  dsimp only
  rw [g1 k (by omega), Option.bind_some]
  exact h2 k (by omega)
theorem blw_mem {f : Nat → Bool} {n : Nat} {x : Int} : x ∈ blw f n ↔ ∃ m : Nat, x = (m : Int) ∧ m < n ∧ f m = true := by
  unfold blw
  rw [List.mem_map]
  constructor
  · rintro ⟨m, h1, rfl⟩; obtain ⟨h2, h3⟩ := List.mem_filter.1 h1; exact ⟨m, rfl, List.mem_range.1 h2, h3⟩
  · rintro ⟨m, rfl, h2, h3⟩; exact ⟨m, List.mem_filter.2 ⟨List.mem_range.2 h2, h3⟩, rfl⟩
theorem rd_mem {l : List Int} {x : Int} : (∃ i : Nat, i < l.length ∧ rd l (i : Int) = x) ↔ x ∈ l := by
  constructor
  · rintro ⟨i, hi, rfl⟩
    have : rd l (i : Int) = l[i] := by simp [rd, List.getD_eq_getElem?_getD, hi]
    rw [this]; exact List.getElem_mem hi
  · intro h
    obtain ⟨i, hi, h2⟩ := List.getElem_of_mem h
    exact ⟨i, hi, by rw [← h2]; simp [rd, List.getD_eq_getElem?_getD, hi]⟩
theorem liq_mem (l : List Int) (n : Nat) : liq l n = true ↔ (n : Int) ∈ l := by unfold liq; rw [dec_iff, rd_mem]
theorem liq_blw {l : List Int} (h : anyI l outq = false) : liq (blw (liq l) 100) = liq l := by
  funext n
  rw [Bool.eq_iff_iff, liq_mem, blw_mem]
  constructor
  · rintro ⟨m, h1, _, h3⟩; rw [show n = m by omega]; exact h3
  · intro h1
    refine ⟨n, rfl, ?_, h1⟩
    rcases Nat.lt_or_ge n 60 with h2 | h2
    · omega
    · rw [liq_big h h2] at h1; cases h1
theorem blw_in {l : List Int} (h : anyI l outq = false) : anyI (blw (liq l) 100) outq = false := by
  refine dec_false ?_
  rintro ⟨i, hi, h2⟩
  obtain ⟨m, h3, _, h5⟩ := blw_mem.1 (rd_mem.1 ⟨i, hi, rfl⟩)
  have h6 : m < 60 := by
    rcases Nat.lt_or_ge m 60 with h7 | h7
    · exact h7
    · rw [liq_big h h7] at h5; cases h5
  rw [h3] at h2
  unfold outq at h2
  rw [decide_eq_true (show 0 ≤ (m : Int) ∧ (m : Int) ≤ 59 by omega)] at h2
  cases h2
theorem less_step {l : List Int} {n : Nat} (h : (n : Int) ∈ l) : l.countP (fun x => decide (x < (n : Int))) + 1 ≤ l.countP (fun x => decide (x < ((n + 1 : Nat) : Int))) := by
  induction l with
  | nil => cases h
  | cons a l ih =>
    have mono : l.countP (fun x => decide (x < (n : Int))) ≤ l.countP (fun x => decide (x < ((n + 1 : Nat) : Int))) := List.countP_mono_left fun x _ hx => by
      rw [decide_eq_true_iff] at hx ⊢; omega
    rw [List.countP_cons, List.countP_cons]
    rcases List.mem_cons.1 h with h1 | h1
    · rw [← h1, if_neg (by rw [decide_eq_true_iff]; omega), if_pos (by rw [decide_eq_true_iff]; omega)]; omega
    · have h2 := ih h1
      by_cases h3 : a < (n : Int)
      · rw [if_pos (by rw [decide_eq_true_iff]; exact h3), if_pos (by rw [decide_eq_true_iff]; omega)]; omega
      · rw [if_neg (by rw [decide_eq_true_iff]; exact h3)]; omega
theorem blw_count (l : List Int) : ∀ n, (blw (liq l) n).length ≤ l.countP (fun x => decide (x < (n : Int)))
  | 0 => by show 0 ≤ _; omega
  | n + 1 => by
    have h := blw_count l n
    rw [blw_succ]
    split
    · rename_i h1
      have h2 := less_step ((liq_mem l n).1 h1)
      rw [List.length_append]
      show _ + 1 ≤ _
      omega
    · have mono : l.countP (fun x => decide (x < (n : Int))) ≤ l.countP (fun x => decide (x < ((n + 1 : Nat) : Int))) := List.countP_mono_left fun x _ hx => by
        rw [decide_eq_true_iff] at hx ⊢; omega
      omega
theorem blw_few (l : List Int) : (blw (liq l) 100).length ≤ l.length := Nat.le_trans (blw_count l 100) (List.countP_le_length)
theorem ends_of {l : List Int} (h : anyI l outq = false) : anyFrom (cn (liq l)).2 0 = false := by
  have hp := liq_per h
  have hs := cn_spec (by omega) hp
  have hpos := List.length_pos_iff.2 (cn_ne (by omega) hp)
  refine dec_false ?_
  rintro ⟨j, _, hj, h2⟩
  have h3 : hasB (cn (liq l)).1 (cn (liq l)).2 ((cn (liq l)).1.length + (j + 60 * (cn (liq l)).2.length)) = true := by
    rw [hasB_ring, Nat.add_mul_mod_self_right, Nat.mod_eq_of_lt hj]; exact h2
  rw [hs.2.1, liq_big h (by have : 60 * 1 ≤ 60 * (cn (liq l)).2.length := Nat.mul_le_mul_left 60 hpos; omega)] at h3
  cases h3
theorem lawSetOf_l0 (l : List Int) (hl : l.length ≤ 1000) (hok : anyI l outq = false) (ht : (txt (cn (liq l))).2 = true) : ∀ (d i : Nat), i ≤ l.length → l.length - i = d →
    Ev (fun k => laws_FnSetOf.l0 k l (txt (cn (liq l))).1 (blw (liq l) 100) true i) true := by
  have hx := txt_size (cn (liq l))
  intro d
  induction d with
  | zero =>
    intro i hi hd
    have e : i = l.length := by omega
    subst e
    have hlen := blw_few l
    have h1 := isetOfList_f (blw (liq l) 100) (by omega)
    have h2 : sor (blw (liq l) 100) = txt (cn (liq l)) := by
      unfold sor; rw [if_neg (by rw [blw_in hok]; decide), liq_blw hok]
    obtain ⟨K1, h3⟩ := isetEnds_f (txt (cn (liq l))).1 (by omega) (txt_parse (by omega) (liq_per hok) ht)
    dsimp only at h3
    rw [ends_of hok] at h3
    refine ⟨K1 + 1, fun k hk => ?_⟩
    obtain ⟨k, rfl, hk2⟩ := down1 hk
    simp only [laws_FnSetOf.l0]
    have c9 : ((blw (liq l) 100).length : Int) ≤ (l.length : Int) := by omega
    rw [if_neg (by omega), h1, Option.bind_some, h2, h3 k (by omega), Option.bind_some]
    simp only [ht, if_true, if_pos c9, Bool.not_false]
  | succ d ih =>
    intro i hi hd
    obtain ⟨K1, h1⟩ := ih (i + 1) (by omega) (by omega)
    dsimp only at h1
    have hm : rd l (i : Int) ∈ l := rd_mem.1 ⟨i, by omega, rfl⟩
    have hin := liq_in hok i (by omega)
    obtain ⟨n, hn⟩ := Int.eq_ofNat_of_zero_le hin.1
    obtain ⟨K2, h2⟩ := isetHas_f (txt (cn (liq l))).1 (by omega) n (by omega)
    dsimp only at h2
    rw [txt_setf (by omega) (liq_per hok) ht, (liq_mem l n).2 (by rw [← hn]; exact hm), ← hn] at h2
    refine ⟨K1 + K2 + 1, fun k hk => ?_⟩
    obtain ⟨k, rfl, hk2⟩ := down1 hk
    simp only [laws_FnSetOf.l0]
    rw [if_pos (by omega), if_pos (by omega), h2 k (by omega), Option.bind_some, if_pos rfl, wsucc (by omega)]
    exact h1 k (by omega)
theorem lawSetOf_ev (l : List Int) (h : ∀ x ∈ l, (Lit.int .u8 x).wf = true) : Ev (fun k => laws_FnSetOf.f k l) true := by
  by_cases hl : (l.length : Int) > 1048576
  · exact ⟨0, fun k _ => by dsimp only; unfold laws_FnSetOf.f; rw [if_pos hl]⟩
  · obtain ⟨m, hm, K1, h1⟩ := drawSetOf_f l h
    dsimp only at h1
    have h2 := isetOfList_f m (by omega)
    obtain ⟨K3, h3⟩ := specSetOf_f m (by omega)
    dsimp only at h3
    have main : Ev (fun k => laws_FnSetOf.j0 k m (sor m).1 (sor m).2 true) true := by
      cases h4 : (sor m).2 with
      | false =>
        refine Ev.step (f := fun k => laws_FnSetOf.j1 k m (sor m).1 true true) (fun k => ?_) (Ev.step (f := fun k => some true) (fun k => ?_) (Ev.now _))
        · simp only [laws_FnSetOf.j0]; rfl
        · simp only [laws_FnSetOf.j1]; rfl
      | true =>
        have hok : anyI m outq = false := by
          cases ha : anyI m outq with
          | false => rfl
          | true => unfold sor at h4; rw [if_pos ha] at h4; cases h4
        have hs : sor m = txt (cn (liq m)) := by unfold sor; rw [if_neg (by rw [hok]; decide)]
        rw [hs] at h4 ⊢
        have hx := txt_size (cn (liq m))
        obtain ⟨K5, h5⟩ := isetList_f (txt (cn (liq m))).1 (by omega) (txt_parse (by omega) (liq_per hok) h4) 100 (by omega)
        dsimp only at h5
        rw [cn_has (by omega) (liq_per hok)] at h5
        have g5 : ∀ k, K5 ≤ k → impl_SetList.f k (txt (cn (liq m))).1 100 = some (blw (liq m) 100, true) := h5
        obtain ⟨K6, h6⟩ := lawSetOf_l0 m hm hok h4 _ 0 (Nat.zero_le _) rfl
        have g6 : ∀ k, K6 ≤ k → laws_FnSetOf.l0 k m (txt (cn (liq m))).1 (blw (liq m) 100) true 0 = some true := h6
        refine Ev.step (f := fun k => laws_FnSetOf.j1 k m (txt (cn (liq m))).1 true false) (fun k => ?_) ⟨K5 + K6 + 1, fun k hk => ?_⟩
        · simp only [laws_FnSetOf.j0]; rfl
        · obtain ⟨k, rfl, hk2⟩ := down1 hk
          simp only [laws_FnSetOf.j1]
          rw [if_neg (by decide), g5 k (by omega), Option.bind_some]
          exact g6 k (by omega)
    obtain ⟨K4, h4⟩ := main
    dsimp only at h4
    refine ⟨K1 + K3 + K4, fun k hk => ?_⟩
    dsimp only
    unfold laws_FnSetOf.f
    rw [if_neg hl, h1 k (by omega), Option.bind_some, h2, Option.bind_some, h3 k (by omega), Option.bind_some, if_pos (by trivial), BEq.rfl]
    exact h4 k (by omega)
theorem lawSetOf_pure : laws_FnSetOf.Pure := fun l _ _ h => (lawSetOf_ev l h).rounds
end Go.Proofs.Ytmedlhoahddbmaa.P

-- For every code the law FnSetOf holds.
namespace Go.Proofs.Ytmedlhoahddbmaa.Pure
theorem FnSetOf : Go.Proofs.Ytmedlhoahddbmaa.P.laws_FnSetOf.Pure := Go.Proofs.Ytmedlhoahddbmaa.P.lawSetOf_pure
end Go.Proofs.Ytmedlhoahddbmaa.Pure
