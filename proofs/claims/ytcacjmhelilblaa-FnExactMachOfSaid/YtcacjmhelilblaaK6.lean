/- What these laws reach, joined by a program of this session: contracts (written by that program over the kit's print, or by hand) and plain lemmas. -/
import Derived.Test.YtcacjmhelilblaaK5
-- For every text the law FnExactMachOf holds.
namespace Go.Proofs.Ytcacjmhelilblaa.P
open Go.RowKit Go.Proofs.YtcacjmhelilblaaW.PrintWords Go.Proofs.YtcacjmhelilblaaW.PrintLast Go.Proofs.YtcacjmhelilblaaW.PrintMore
set_option linter.unusedVariables false
set_option linter.unusedSimpArgs false

theorem machOf_len (s : List UInt8) : (machOf s).1.length ≤ 5 := by
  unfold machOf
  split
  · split
    · rename_i h; rw [mSteps_length]; exact h
    · simp
  · simp
theorem lawExactMachOf_ev (s : ByteArray) : Ev (fun k => laws_FnExactMachOf.f k s) true := by
  by_cases hl : (s.size : Int) > 1048576
  · refine Ev.congr (f := fun _ => some true) (fun k => ?_) (Ev.now _)
    unfold laws_FnExactMachOf.f; rw [if_pos hl]
  · have hs : s.size ≤ 70368744177664 := by omega
    have hm := machOf_len (chrs s)
    have e1 := imachOf_f s hs
    have e2 := smachOf_f s hs
    generalize machOf (chrs s) = M at *
    obtain ⟨st, x, y, b⟩ := M
    simp only at hm
    have e3 := eqMachine_f st st x y x y (by omega)
    have hd : decide (st = st ∧ x = x ∧ y = y) = true := by simp
    rw [hd] at e3
    have e4 := markMachine_f st x y 1 (by omega)
    have e5 := heldMachine_f st.length x y 1 (by omega)
    refine Ev.congr (f := fun k => (spec_MachOf.f k s).bind fun bt452 => ((impl_MachOf.f k s).bind fun bt459 => ((laws_eqMachine.f k bt459.1 bt459.2.1 bt459.2.2.1 bt452.1 bt452.2.1 bt452.2.2.1).bind fun t466 => (if t466 = true then (laws_FnExactMachOf.j0 k s bt452.2.2.2 (bt459.2.2.2 != bt452.2.2.2) bt452.1 bt452.2.1 bt452.2.2.1 bt459.1 bt459.2.1 bt459.2.2.1) else (laws_FnExactMachOf.j0 k s bt452.2.2.2 true bt452.1 bt452.2.1 bt452.2.2.1 bt459.1 bt459.2.1 bt459.2.2.1))))) (fun k => ?_) (Ev.bind e2 (Ev.bind e1 (Ev.bind e3 ?_)))
    · unfold laws_FnExactMachOf.f; rw [if_neg hl]
    · simp only [if_true, bne_self_eq_false]
      refine Ev.step (f := fun k => (laws_markMachine.f k st x y 1).bind fun bt467 => ((laws_heldMachine.f k bt467.2 x y 1).bind fun t469 => (if t469 < 0 then (some false) else (if t469 = bt467.1 then ((impl_MachOf.f k s).bind fun bt470 => ((laws_eqMachine.f k bt470.1 bt470.2.1 bt470.2.2.1 st x y).bind fun t477 => (if t477 = true then (laws_FnExactMachOf.j1 k bt467.1 (bt470.2.2.2 != b) bt467.2 x y) else (laws_FnExactMachOf.j1 k bt467.1 true bt467.2 x y)))) else (some false))))) (fun k => ?_) (Ev.bind e4 (Ev.bind e5 ?_))
      · simp only [laws_FnExactMachOf.j0]; rw [if_neg (by decide)]
      · simp only [if_neg (show ¬ ((1 + st.length : Nat) : Int) < 0 by omega), if_true]
        refine Ev.bind e1 (Ev.bind e3 ?_)
        simp only [if_true, bne_self_eq_false]
        refine Ev.step (f := fun k => (laws_heldMachine.f k (iota 1 st.length) x y 1).bind fun t478 => (if t478 < 0 then (some false) else (if t478 = ((1 + st.length : Nat) : Int) then (some true) else (some false)))) (fun k => ?_) (Ev.bind e5 ?_)
        · simp only [laws_FnExactMachOf.j1]; rw [if_neg (by decide)]
        · simp only [if_neg (show ¬ ((1 + st.length : Nat) : Int) < 0 by omega), if_true]
          exact Ev.now _
theorem lawExactMachOf_pure : laws_FnExactMachOf.Pure := fun s _ => (lawExactMachOf_ev s).rounds

end Go.Proofs.Ytcacjmhelilblaa.P

-- For every text the law FnExactMachOf holds.
namespace Go.Proofs.Ytcacjmhelilblaa.Pure
theorem FnExactMachOf : Go.Proofs.Ytcacjmhelilblaa.P.laws_FnExactMachOf.Pure := Go.Proofs.Ytcacjmhelilblaa.P.lawExactMachOf_pure
end Go.Proofs.Ytcacjmhelilblaa.Pure
