/- What these laws reach, joined by a program of this session: contracts (written by that program over the kit's print, or by hand) and plain lemmas. -/
import Derived.Shelf.Strings.Builder1
import Derived.Ground.SlgnProg
import Derived.Shelf.SlicesE.Clone
import Derived.Test.YtmedlhoahddbmaaProg
import Derived.Below
import Derived.Deep.Draws
import Derived.Deep.AppendLies
import Derived.Maps.AppendAt
import Derived.OwnWalk
import Derived.Laws.BytesArg
import Derived.Laws.MakeOwn
import Derived.Laws.OwnMore
import Derived.Deep.OwnRows
import Derived.Tactics
import Derived.Lib.ConvBytes
import Derived.Laws.Slices
import Derived.WalkKit
import Derived.KernelRfl
import Derived.RowKit3
import Derived.Deep.LoopGhost
import Derived.Deep.QuietTactic
import Derived.BigQuiet
import Derived.WideLaws
import Derived.Deep.DeepCutAuto
import Derived.Deep.CutBlock
import Derived.Deep.RegionHeld3
import Derived.Laws.Rows
import Derived.Lib.AppendStr
import Derived.ArgAppend
import Derived.Laws.IdiomCopy
import Derived.OrdersHeld
import Derived.Laws.BitsLemmas
import Derived.RowKit
import Derived.Test.YtmedlhoahddbmaaV
import Derived.Lib.SliceRun
import Derived.WalkSpells
/-
  DERIVED: THE SHELF's CONTRACTS AT THIS DUMP, IN PLAIN WORDS (tools/lay-plain.mjs out of 'TryShelf.lean', which tools/lay-shelf.mjs wrote): THE SAME DECLARATIONS UNDER THE SAME NAMES: 'import', 'namespace', 'open', 'def', 'theorem' AND NOTHING ELSE: no command of the shelf's: FOR A HAND-IN. Each laying: the table of numbers ('.._ren') and one theorem, a field a fact of the dump's own or the kernel's comparison; each contract: ONE APPLICATION.
-/
namespace Go.Proofs
open Go.Shelf
def Try.lays169_ren : Go.Shelf.Ren := ⟨fun | 169 => 41 | n => n, fun | 70 => 68 | 9 => 9 | 0 => 0 | 72 => 70 | 37 => 22 | 127 => 77 | 3 => 3 | 5 => 5 | n => n, fun | n => n⟩
theorem Try.lays169 : Go.Proofs.Lays.n169 Try.prog Try.lays169_ren := {
  mixed := by kernel_rfl
  f169 := Try.func41.trans (congrArg some (by kernel_rfl))
  t0 := Try.underlying0
  a0 := Try.isAgg0
  z0 := Try.sizeOf0
  v0 := Try.zeroValue0
  t3 := Try.underlying3
  a3 := Try.isAgg3
  z3 := Try.sizeOf3
  v3 := Try.zeroValue3
  t9 := Try.underlying9
  a9 := Try.isAgg9
  z9 := Try.sizeOf9
  v9 := Try.zeroValue9
  t37 := Try.underlying22
  a37 := Try.isAgg22
  z37 := Try.sizeOf22
  v37 := Try.zeroValue22
  t70 := Try.underlying68
  a70 := Try.isAgg68
  z70 := Try.sizeOf68
  v70 := Try.zeroValue68
  t72 := Try.underlying70
  a72 := Try.isAgg70
  z72 := Try.sizeOf70
  v72 := Try.zeroValue70
  t127 := Try.underlying77
  a127 := Try.isAgg77
  z127 := Try.sizeOf77
  v127 := Try.zeroValue77 }
theorem Try.Builder_Extra_169 : Builder.Extra Try.prog Try.lays169_ren := {
  sizeBuilder := by kernel_rfl
  liesBuilder := by kernel_rfl
  t5 := Try.underlying5
  a5 := Try.isAgg5
  z5 := Try.sizeOf5
  v5 := Try.zeroValue5
  infoByte := by kernel_rfl
  cellsByte := by kernel_rfl
  sizeByte := by kernel_rfl
  neB5 := by decide }
open Go.RowKit in
/-- (*strings.Builder).String: "String returns the accumulated string.": OF A BUILDER THAT HOLDS AT LEAST ONE BYTE. ✋ THE MODEL FREEZES THOSE BYTES IN THE BUFFER (unsafe.String): a later write INTO them ends the model's run without an answer; a later append BEHIND them goes on. The statement's order of evaluation is drawn: one draw. (LAID: no walk: one application.) -/
theorem Try.Builder_String (B b : Nat) (l : List UInt8) (w : World) (h : Lib.IsBuilder 70 5 B b (Lib.byteCells l) w) (h0 : l ≠ []) :
    Calls Try.prog 41 #[.pointer (some ⟨b, 0, none⟩)] w fun e w' => e = .returned (.string ⟨l.toArray⟩) ∧ Below B w w' := Any.Builder_String Try.lays169 Try.Builder_Extra_169 B b l w h h0
open Go.RowKit in
/-- (*strings.Builder).String OF A BUILDER THAT HOLDS NO BYTE: the empty string. (Its buffer is nil, or a row of which it has taken nothing yet; where that row has NO capacity the model lays one new block for unsafe.SliceData's 'some address'.) One draw. (LAID: no walk: one application.) -/
theorem Try.Builder_String_empty (B b : Nat) (w : World) (h : Lib.IsBuilder 70 5 B b [] w) (hBw : B ≤ w.heap.size) :
    Calls Try.prog 41 #[.pointer (some ⟨b, 0, none⟩)] w fun e w' => e = .returned (.string ⟨#[]⟩) ∧ Below B w w' := Any.Builder_String_empty Try.lays169 Try.Builder_Extra_169 B b w h hBw
open Go.RowKit in
/-- (*strings.Builder).String: "String returns the accumulated string.": WHATEVER THE BUILDER HOLDS. (LAID: no walk: one application.) -/
theorem Try.Builder_String_any (B b : Nat) (l : List UInt8) (w : World) (h : Lib.IsBuilder 70 5 B b (Lib.byteCells l) w) (hBw : B ≤ w.heap.size) :
    Calls Try.prog 41 #[.pointer (some ⟨b, 0, none⟩)] w fun e w' => e = .returned (.string ⟨l.toArray⟩) ∧ Below B w w' := Any.Builder_String_any Try.lays169 Try.Builder_Extra_169 B b l w h hBw
def Try.laysSlE041_f35_ren : Go.Shelf.Ren := ⟨fun | 41 => 35 | n => n, fun | 22 => 40 | 23 => 4 | 4 => 4 | n => n, fun | n => n⟩
theorem Try.laysSlE041_f35 : Go.Proofs.SlLaysE0.n41 Try.prog Try.laysSlE041_f35_ren := {
  mixed := by kernel_rfl
  f41 := ⟨Try.f35.name, by decide, Try.func35.trans (congrArg some (by kernel_rfl))⟩
  t4 := Try.underlying4
  a4 := Try.isAgg4
  z4 := Try.sizeOf4
  v4 := Try.zeroValue4
  t22 := Try.underlying40
  a22 := Try.isAgg40
  z22 := Try.sizeOf40
  v22 := Try.zeroValue40 }
open Go.RowKit Go.Lib in
/-- slices.Clone: "Clone returns a copy of the slice. The elements are copied using assignment, so this is a shallow clone. The result may have additional unused capacity. The result preserves the nilness of s.": OF A SLICE THAT IS NOT nil IT RETURNS A SLICE THAT IS NOT nil, OF THE SAME CELLS, IN MEMORY OF THE CALL's OWN ('ownsRow': the how-to's 6f); below the heap's size at the call all is as it was. (LAID AT THE INSTANCE 'slices.Clone[[]bool,bool]': no walk: one application.) -/
theorem Try.slices_Clone (i0 : TypeInfo) (z : Value) (size bytes : Nat) (hi : Try.prog.info? 4 = some i0) (hz0 : i0.zero = some z) (hz1 : i0.size = size) (hz2 : i0.bytes = bytes) (hzs : z.cells.size = size) (hsz : 0 < size) (z23 : ∀ w, (Go.sizeOf 4).run Try.prog w = .ok size w) (b off n c : Nat) (news : List Value) (w : World) (hl : news.length = n * size) (hn : n ≤ maxLen) (hbig : n * bytes ≤ 140737488355328) (hc : ∀ j u, news[j]? = some u → w.cell? ⟨b, off + j, none⟩ = some u) (h1 : ∀ u ∈ news, u.oneCell' = true) :
    Calls Try.prog 35 #[.slice (some ⟨b, off, none⟩) n c] w fun e w' => ∃ v', e = .returned v' ∧ w'.ownsRow w.heap.size 4 size v' n news ∧ v' ≠ .slice none 0 0 ∧ Below w.heap.size w w' := AnyE.slices_Clone Try.laysSlE041_f35 i0 z size bytes hi hz0 hz1 hz2 hzs hsz z23 b off n c news w hl hn hbig hc h1
open Go.RowKit Go.Lib in
/-- The same at nil: nil comes back; the world is as it was; nothing is asked of the element's type. (LAID AT THE INSTANCE 'slices.Clone[[]bool,bool]': no walk: one application.) -/
theorem Try.slices_Clone_nil (n c : Nat) (w : World) :
    Calls Try.prog 35 #[.slice none n c] w fun e w' => e = .returned (.slice none 0 0) ∧ w' = w := AnyE.slices_Clone_nil Try.laysSlE041_f35 n c w
end Go.Proofs

namespace Go.Proofs.Ytmedlhoahddbmaa.P
open Go.RowKit Go.Proofs.YtmedlhoahddbmaaW.PrintWords Go.Proofs.YtmedlhoahddbmaaW.PrintLast Go.Proofs.YtmedlhoahddbmaaW.PrintMore
attribute [local go_sem] max2_int min2_int max_two min_two max_three min_three max_four min_four   -- for this text's walks alone
set_option linter.unusedVariables false
set_option linter.unusedSimpArgs false

def errW : Option Int → Value
  | none => .nilIface
  | some c => .iface 0 (.int .i64 c)
theorem errW_none : errW none = .nilIface := rfl
theorem errW_some (c : Int) : errW (some c) = .iface 0 (.int .i64 c) := rfl

theorem bne_f {a b : Bool} (h : ¬ (a != b) = true) : (a == b) = true := by cases a <;> cases b <;> simp_all
theorem bne_t {a b : Bool} (h : (a != b) = true) : (a == b) = false := by cases a <;> cases b <;> simp_all
theorem bne_ft {a : Bool} (h : ¬ (a != (!false)) = true) : (!a) = false := by cases a <;> simp_all
theorem bne_tt {a : Bool} (h : (a != (!false)) = true) : (!a) = true := by cases a <;> simp_all

theorem info3 : (Try.prog.info? 3).map (fun i => (i.zero, i.size, i.bytes)) = some (some (.int .i64 0), 1, 8) := by kernel_rfl
theorem info4 : (Try.prog.info? 4).map (fun i => (i.zero, i.size, i.bytes)) = some (some (.bool false), 1, 1) := by kernel_rfl
theorem info5 : (Try.prog.info? 5).map (fun i => (i.zero, i.size, i.bytes)) = some (some (.int .u8 0), 1, 1) := by kernel_rfl
-- the values' own types

end Go.Proofs.Ytmedlhoahddbmaa.P

-- '[]byte(s)': a new row of bytes, which is only read.
namespace Go.Proofs.Ytmedlhoahddbmaa.P
open Go.RowKit Go.Proofs.YtmedlhoahddbmaaW.PrintWords Go.Proofs.YtmedlhoahddbmaaW.PrintLast Go.Proofs.YtmedlhoahddbmaaW.PrintMore
set_option linter.unusedVariables false
set_option linter.unusedSimpArgs false

def bytesConv.f (a0 : ByteArray) : Option (List Int) := if a0.size ≤ 70368744177664 then some (bytesOf a0) else none

theorem conv_event {P : Program} {ops : Array Oper} {rest : List Oper} {o : Oper} {a : Act} {Q : Exit → Act → World → Prop} {W : World} (N : Tmp) (hd : o.dst = some N) (hg : o.guard = none) (T t e : TypeId) {u : TypeDesc}
    (hs : P.underlying T = some u) (ht : P.underlying t = some (.slice e)) (he : P.underlying e = some (.int .u8)) (s : ByteArray) {r : List Int} (hr : bytesConv.f s = some r) (ho : ∃ x, o.op = .convert T t x ∧ a.eval x = .string s)
    (h : ∀ v w1, Kd.V (Kd.int .u8) e w1 W.heap.size (fun k_ => W.heap.size ≤ k_) v r → Below W.heap.size W w1 → wpList P ops Q rest (a.put (some N) v) w1) : wpList P ops Q (o :: rest) a W := by
  obtain ⟨x, hx, hv⟩ := ho
  unfold bytesConv.f at hr
  by_cases hsz : s.size ≤ 70368744177664
  · rw [if_pos hsz] at hr
    injection hr with hr
    subst hr
    have hrun : (execOp a.eval o).run P W = .ok (.value (.slice (some ⟨W.heap.size, 0, none⟩) s.size (grownCap W s.size 0 e))) (Lib.bytesWorld W e s) := by
      have hp := print_bytes T t e hs ht he s W
      unfold execOp
      simp only [hx, hv, Sem.run_bind, Sem.run_pure, hp, Result.andThen_ok]
    rw [← hd] at h
    refine Kd.event_run hg hrun (h _ _ ?_ ?_)
    · refine ⟨_, _, by rw [bytesOf_length], ?_, ?_⟩
      · rw [bytesOf_length]; exact grownCap_ge _ _ _ _
      · rw [bytesOf_length]
        intro W' hW
        have h1 := bytes_reads W e s (by omega)
        have hb : W'.heap[W.heap.size]? = (Lib.bytesWorld W e s).heap[W.heap.size]? := hW _ (Nat.le_refl _) (by rw [Lib.bytesWorld_size]; omega)
        refine Kd.C_of_reads (d := (0 : Int)) (h1 := fun _ => rfl) ?_
        obtain ⟨g1, g2, g3⟩ := h1
        refine ⟨g1, g2, fun hp => ?_⟩
        obtain ⟨ad, had, hc⟩ := g3 hp
        refine ⟨ad, had, fun j hj => ?_⟩
        rw [← hc j hj]
        injection had with had
        subst had
        have hbk : ((⟨W.heap.size, 0, none⟩ : Addr).add j).block = W.heap.size := by unfold Addr.add; split <;> rfl
        unfold World.cell?
        rw [hbk, hb]
    · exact bytes_below (Below.refl _ _) (Nat.le_refl _) e s
  · rw [if_neg hsz] at hr; cases hr
end Go.Proofs.Ytmedlhoahddbmaa.P

-- slices.Clone at []bool: a new row of the same elements.
namespace Go.Proofs.Ytmedlhoahddbmaa.P
open Go.RowKit Go.Proofs.YtmedlhoahddbmaaW.PrintWords Go.Proofs.YtmedlhoahddbmaaW.PrintLast Go.Proofs.YtmedlhoahddbmaaW.PrintMore
set_option linter.unusedVariables false
set_option linter.unusedSimpArgs false

def slices_Clone_bool_bool.f (l0 : List Bool) : Option (List Bool) := if l0.length ≤ 70368744177664 then some l0 else none

set_option maxHeartbeats 4000000 in
set_option maxRecDepth 100000 in
theorem slices_Clone_bool_bool.calls (A0 : Option Addr) (c0 : Nat) (l0 : List Bool) (r : List Bool) (w : World) (hr0 : Kd.C Kd.bool w A0 l0.length l0) (hc0 : l0.length ≤ c0) (h : slices_Clone_bool_bool.f l0 = some r) :
    Calls Try.prog 35 #[.slice A0 l0.length c0] w fun e w' => ∃ v0_ : Value, e = .returned (v0_) ∧ Kd.R Kd.bool 4 w' w.heap.size (fun _ => True) v0_ r ∧ Below w.heap.size w w' := by
  have hlen : l0.length ≤ 70368744177664 := by
    unfold slices_Clone_bool_bool.f at h
    split at h
    · assumption
    · cases h
  obtain rfl : l0 = r := by
    unfold slices_Clone_bool_bool.f at h
    rw [if_pos hlen] at h
    injection h
  have hq : ∀ (w : World) (a : Option Addr) (n c n' c' : Nat), (binOp .eql 40 (.slice a n c) (.slice none n' c')).run Try.prog w = .ok (.bool a.isNone) w := fun w a n c n' c' => Lib.run_eql_slice_nil w _ _ a n c n' c' Try.underlying40
  have HR := Aside0.mk hr0
  clear hr0 h
  cases A0 with
  | none =>
    have h0 : l0 = [] := by
      rcases Nat.eq_zero_or_pos l0.length with h | h
      · exact List.eq_nil_of_length_eq_zero h
      · obtain ⟨ad, e, _⟩ := HR.out.2.2 h
        cases e
    subst h0
    go_enter Try.func35, Try.ntmps35
    go_wp2
    go_ret
    exact ⟨_, rfl, Kd.R_nil _ _ _ _ _, Below.refl _ _⟩
  | some ad =>
    have HL := Aside0.mk hlen
    clear hlen hc0
    go_enter Try.func35, Try.ntmps35
    go_wp2_with (first | ((with_reducible refine gate_dst (N := 5) rfl ?_); refine Kd.R_lit Kd.bool w.heap.size 4 ?hg (N := 5) ?hd (xs := ([] : List Bool)) (inner := []) (ok := fun _ => True) (okp := fun _ => True) ?hr ?hp (fun _ hk => hk) trivial (Below.refl _ _) (Nat.le_refl _) (by simp) ?_; (case hd => rfl); (case hg => rfl); (case hr => first | (go_simp; done) | (go_simp; rfl)); (case hp => exact (Reps.none _ _)); intro v1 w1 ho1 hb1 hg1 hn1; have HO := Aside0.mk ho1; have HB := Aside0.mk hb1; clear ho1 hb1 hg1 hn1) | ((with_reducible refine gate_builtin (b := .append) (xs := #[.tmp 5, .tmp 6]) rfl ?_); refine Kd.R_append_row Value.bool false (h1 := fun _ => rfl) (w0 := w) w.heap.size rfl (.tmp 5) (.tmp 6) 40 4 (.bool false) 1 rfl Try.underlying40 info4 rfl (by decide) v1 [] l0 (some ad) l0.length c0 (fun _ => True) rfl rfl (fun _ _ => trivial) HO.out (Kd.C_below HR.out HB.out) HB.out HB.out.size (by have := HL.out; simp; omega) ?_; intro v2 w2 ho2 hb2 hg2 hat2; have HO2 := Aside0.mk ho2; have HB2 := Aside0.mk hb2; clear ho2 hb2 hg2 hat2))
    go_ret
    exact ⟨_, rfl, by have h := HO2.out; rw [List.nil_append] at h; exact h, HB2.out⟩
end Go.Proofs.Ytmedlhoahddbmaa.P

namespace Go.Proofs.Ytmedlhoahddbmaa.P
open Go.RowKit Go.Proofs.YtmedlhoahddbmaaW.PrintWords Go.Proofs.YtmedlhoahddbmaaW.PrintLast Go.Proofs.YtmedlhoahddbmaaW.PrintMore
attribute [local go_sem] max2_int min2_int max_two min_two max_three min_three max_four min_four   -- for this text's walks alone
set_option linter.unusedVariables false
set_option linter.unusedSimpArgs false

/-! ### impl_in: function 14 -/
def impl_in.f (a0:Int) (a1:Int) (a2:Int):Option (Bool):=if a0 ≥ a1 then (some (decide (a0≤a2))) else (some false)
set_option maxHeartbeats 8000000 in
set_option maxRecDepth 100000 in
theorem impl_in.calls (a0:Int) (a1:Int) (a2:Int) (r:Bool) (w:World) (h:impl_in.f a0 a1 a2 = some r) :
  Calls Try.prog 14 #[.int .i64 a0,.int .i64 a1,.int .i64 a2] w fun e w'=>e = .returned (.bool r)∧Drawn0 w w':=by
 have H:(if a0 ≥ a1 then (some (decide (a0≤a2))) else (some false)) = some r:=h
 clear h
 by_cases c4:a0 ≥ a1
 ·rw [if_pos c4] at H
  have c4b0:decide (a1≤a0) = true:=decide_eq_true c4
  clear c4
  obtain rfl:=Option.some.inj H
  go_enter Try.func14,Try.ntmps14
  go_wp2
  go_ret
  exact ⟨by first|rfl|(simp;done)|(simp [*];done),by repeat (first|exact Drawn0.refl _|apply Drawn0.step)⟩
 ·rw [if_neg c4] at H
  have c4b0:decide (a1≤a0) = false:=decide_eq_false c4
  clear c4
  obtain rfl:=Option.some.inj H
  go_enter Try.func14,Try.ntmps14
  go_wp2
  go_ret
  exact ⟨by first|rfl|(simp;done)|(simp [*];done),by repeat (first|exact Drawn0.refl _|apply Drawn0.step)⟩

end Go.Proofs.Ytmedlhoahddbmaa.P

namespace Go.Proofs.Ytmedlhoahddbmaa.P
open Go.RowKit Go.Proofs.YtmedlhoahddbmaaW.PrintWords Go.Proofs.YtmedlhoahddbmaaW.PrintLast Go.Proofs.YtmedlhoahddbmaaW.PrintMore
attribute [local go_sem] max2_int min2_int max_two min_two max_three min_three max_four min_four   -- for this text's walks alone
set_option linter.unusedVariables false
set_option linter.unusedSimpArgs false

/-! ### impl_set_has: function 22 -/
def impl_set_has.f (l0_0:List Bool) (l0_1:List Bool) (a1:Int):Option (Bool):=if a1 < 0 then (some false) else (if a1 < (l0_0.length:Int) then (if 0≤a1 then (some (rdOf false l0_0 a1)) else (none)) else (if (l0_1.length:Int) = 0 then (none) else (if 0≤(Int.tmod (wrap64 (a1 - (l0_0.length:Int))) (l0_1.length:Int)) then (if (Int.tmod (wrap64 (a1 - (l0_0.length:Int))) (l0_1.length:Int)) < (l0_1.length:Int) then (some (rdOf false l0_1 (Int.tmod (wrap64 (a1 - (l0_0.length:Int))) (l0_1.length:Int)))) else (none)) else (none))))
set_option maxHeartbeats 8000000 in
set_option maxRecDepth 100000 in
theorem impl_set_has.calls (A0_0:Option Addr) (c0_0:Nat) (l0_0:List Bool) (A0_1:Option Addr) (c0_1:Nat) (l0_1:List Bool) (a1:Int) (r:Bool) (w:World) (hr0_0:Kd.C Kd.bool w A0_0 l0_0.length l0_0) (hc0_0:l0_0.length≤c0_0) (hr0_1:Kd.C Kd.bool w A0_1 l0_1.length l0_1) (hc0_1:l0_1.length≤c0_1) (h:impl_set_has.f l0_0 l0_1 a1 = some r) :
  Calls Try.prog 22 #[.agg #[.slice A0_0 l0_0.length c0_0,.slice A0_1 l0_1.length c0_1],.int .i64 a1] w fun e w'=>e = .returned (.bool r)∧Below w.heap.size w w':=by
 have hu45:=Try.underlying45
 have HR0_0:=Aside0.mk hr0_0
 have HC0_0:=Aside0.mk hc0_0
 clear hr0_0 hc0_0
 have HR0_1:=Aside0.mk hr0_1
 have HC0_1:=Aside0.mk hc0_1
 clear hr0_1 hc0_1
 have HB:=Aside0.mk (Below.refl w.heap.size w)
 have H:(if a1 < 0 then (some false) else (if a1 < (l0_0.length:Int) then (if 0≤a1 then (some (rdOf false l0_0 a1)) else (none)) else (if (l0_1.length:Int) = 0 then (none) else (if 0≤(Int.tmod (wrap64 (a1 - (l0_0.length:Int))) (l0_1.length:Int)) then (if (Int.tmod (wrap64 (a1 - (l0_0.length:Int))) (l0_1.length:Int)) < (l0_1.length:Int) then (some (rdOf false l0_1 (Int.tmod (wrap64 (a1 - (l0_0.length:Int))) (l0_1.length:Int)))) else (none)) else (none))))) = some r:=h
 clear h
 by_cases c3:a1 < 0
 ·rw [if_pos c3] at H
  have c3b0:decide (a1 < 0) = true:=decide_eq_true c3
  clear c3
  obtain rfl:=Option.some.inj H
  go_enter Try.func22,Try.ntmps22
  go_wp2_with (first|((with_reducible refine gate_dst (N:=2) rfl ?_);refine box_event ?hg (N:=2) ?hd (cs:=#[.slice A0_0 l0_0.length c0_0,.slice A0_1 l0_1.length c0_1]) (t:=45) ?hr ?_;(case hd=>rfl);(case hg=>rfl);(case hr=>first|(go_simp;done)|(go_simp;rfl));intro gb172 hg w4 hbox hb;have n0_:=Aside0.mk (below_step (by repeat (first|(with_reducible first|exact HB.out|apply below_alloc|apply pw_below_drewN|apply below_drew1)|exact HB.out)) hb);have n1_:=Aside0.mk (hbox);have n2_:=Aside0.mk ((by rw [hg];exact (below_size (by repeat (first|(with_reducible first|exact HB.out|apply below_alloc|apply pw_below_drewN|apply below_drew1)|exact HB.out))):w.heap.size≤gb172));have n3_:=Aside0.mk ((by rw [hg];exact (below_size (by repeat (first|(with_reducible first|exact HB.out|apply below_alloc|apply pw_below_drewN|apply below_drew1)|exact HB.out))):w.heap.size≤gb172));clear HB;have HB:=n0_;have BK172:=n1_;have GW172:=n2_;have GE172:=n3_;clear n0_ n1_ n2_ n3_;clear hb hbox hg))
  repeat (go_quiet (first|((with_reducible refine gate_dst (N:=2) rfl ?_);refine box_event ?hg (N:=2) ?hd (cs:=#[.slice A0_0 l0_0.length c0_0,.slice A0_1 l0_1.length c0_1]) (t:=45) ?hr ?_;(case hd=>rfl);(case hg=>rfl);(case hr=>first|(go_simp;done)|(go_simp;rfl));intro gb172 hg w4 hbox hb;have n0_:=Aside0.mk (below_step (by repeat (first|(with_reducible first|exact HB.out|apply below_alloc|apply pw_below_drewN|apply below_drew1)|exact HB.out)) hb);have n1_:=Aside0.mk (hbox);have n2_:=Aside0.mk ((by rw [hg];exact (below_size (by repeat (first|(with_reducible first|exact HB.out|apply below_alloc|apply pw_below_drewN|apply below_drew1)|exact HB.out))):w.heap.size≤gb172));have n3_:=Aside0.mk ((by rw [hg];exact (below_size (by repeat (first|(with_reducible first|exact HB.out|apply below_alloc|apply pw_below_drewN|apply below_drew1)|exact HB.out))):w.heap.size≤gb172));clear HB;have HB:=n0_;have BK172:=n1_;have GW172:=n2_;have GE172:=n3_;clear n0_ n1_ n2_ n3_;clear hb hbox hg));try go_wp2_with (first|((with_reducible refine gate_dst (N:=2) rfl ?_);refine box_event ?hg (N:=2) ?hd (cs:=#[.slice A0_0 l0_0.length c0_0,.slice A0_1 l0_1.length c0_1]) (t:=45) ?hr ?_;(case hd=>rfl);(case hg=>rfl);(case hr=>first|(go_simp;done)|(go_simp;rfl));intro gb172 hg w4 hbox hb;have n0_:=Aside0.mk (below_step (by repeat (first|(with_reducible first|exact HB.out|apply below_alloc|apply pw_below_drewN|apply below_drew1)|exact HB.out)) hb);have n1_:=Aside0.mk (hbox);have n2_:=Aside0.mk ((by rw [hg];exact (below_size (by repeat (first|(with_reducible first|exact HB.out|apply below_alloc|apply pw_below_drewN|apply below_drew1)|exact HB.out))):w.heap.size≤gb172));have n3_:=Aside0.mk ((by rw [hg];exact (below_size (by repeat (first|(with_reducible first|exact HB.out|apply below_alloc|apply pw_below_drewN|apply below_drew1)|exact HB.out))):w.heap.size≤gb172));clear HB;have HB:=n0_;have BK172:=n1_;have GW172:=n2_;have GE172:=n3_;clear n0_ n1_ n2_ n3_;clear hb hbox hg)))
  go_ret
  exact ⟨by first|rfl|(simp [errW_none,errW_some] <;> rfl)|(simp [*,errW_none,errW_some] <;> rfl)|(simp [errW_none,errW_some];exact ⟨rfl,rfl⟩),by repeat (first|(with_reducible first|exact HB.out|apply below_alloc|apply pw_below_drewN|apply below_drew1|refine below_set ?_ GE172.out)|exact HB.out)⟩
 ·rw [if_neg c3] at H
  have c3b0:decide (a1 < 0) = false:=decide_eq_false c3
  clear c3
  by_cases c5:a1 < (l0_0.length:Int)
  ·rw [if_pos c5] at H
   have c5b0:decide (a1 < (l0_0.length:Int)) = true:=decide_eq_true c5
   clear c5
   by_cases c6:0≤a1
   ·rw [if_pos c6] at H
    have c6b0:decide (0≤a1) = true:=decide_eq_true c6
    clear c6
    obtain rfl:=Option.some.inj H
    go_enter Try.func22,Try.ntmps22
    go_wp2_with (first|((with_reducible refine gate_dst (N:=2) rfl ?_);refine box_event ?hg (N:=2) ?hd (cs:=#[.slice A0_0 l0_0.length c0_0,.slice A0_1 l0_1.length c0_1]) (t:=45) ?hr ?_;(case hd=>rfl);(case hg=>rfl);(case hr=>first|(go_simp;done)|(go_simp;rfl));intro gb172 hg w7 hbox hb;have n0_:=Aside0.mk (below_step (by repeat (first|(with_reducible first|exact HB.out|apply below_alloc|apply pw_below_drewN|apply below_drew1)|exact HB.out)) hb);have n1_:=Aside0.mk (hbox);have n2_:=Aside0.mk ((by rw [hg];exact (below_size (by repeat (first|(with_reducible first|exact HB.out|apply below_alloc|apply pw_below_drewN|apply below_drew1)|exact HB.out))):w.heap.size≤gb172));have n3_:=Aside0.mk ((by rw [hg];exact (below_size (by repeat (first|(with_reducible first|exact HB.out|apply below_alloc|apply pw_below_drewN|apply below_drew1)|exact HB.out))):w.heap.size≤gb172));clear HB;have HB:=n0_;have BK172:=n1_;have GW172:=n2_;have GE172:=n3_;clear n0_ n1_ n2_ n3_;clear hb hbox hg;have hcz8_0:w7.cell? ⟨gb172,0,none⟩ = some (.slice A0_0 l0_0.length c0_0):=(blk_cell BK172.out 0).trans rfl;have hcz8_1:w7.cell? ⟨gb172,1,none⟩ = some (.slice A0_1 l0_1.length c0_1):=(blk_cell BK172.out 1).trans rfl;have hfz8_0:=blk_frozen BK172.out 0;have hfz8_1:=blk_frozen BK172.out 1;have p173:0≤(a1:Int):=of_decide_eq_true (by first|(with_reducible assumption)|assumption);have q173:a1 < (l0_0.length:Int):=of_decide_eq_true (by first|(with_reducible assumption)|assumption);obtain ⟨ad173,e173,hx173_0⟩:=Kd.at_bool HR0_0.out a1 p173 q173;cases e173;replace hx173_0:=(HB.out.cell (World.block_lt_of_cell? w _ hx173_0)).trans hx173_0;replace p173:=eq_true p173;replace q173:=eq_true q173))
    repeat (go_quiet (first|((with_reducible refine gate_dst (N:=2) rfl ?_);refine box_event ?hg (N:=2) ?hd (cs:=#[.slice A0_0 l0_0.length c0_0,.slice A0_1 l0_1.length c0_1]) (t:=45) ?hr ?_;(case hd=>rfl);(case hg=>rfl);(case hr=>first|(go_simp;done)|(go_simp;rfl));intro gb172 hg w7 hbox hb;have n0_:=Aside0.mk (below_step (by repeat (first|(with_reducible first|exact HB.out|apply below_alloc|apply pw_below_drewN|apply below_drew1)|exact HB.out)) hb);have n1_:=Aside0.mk (hbox);have n2_:=Aside0.mk ((by rw [hg];exact (below_size (by repeat (first|(with_reducible first|exact HB.out|apply below_alloc|apply pw_below_drewN|apply below_drew1)|exact HB.out))):w.heap.size≤gb172));have n3_:=Aside0.mk ((by rw [hg];exact (below_size (by repeat (first|(with_reducible first|exact HB.out|apply below_alloc|apply pw_below_drewN|apply below_drew1)|exact HB.out))):w.heap.size≤gb172));clear HB;have HB:=n0_;have BK172:=n1_;have GW172:=n2_;have GE172:=n3_;clear n0_ n1_ n2_ n3_;clear hb hbox hg;have hcz8_0:w7.cell? ⟨gb172,0,none⟩ = some (.slice A0_0 l0_0.length c0_0):=(blk_cell BK172.out 0).trans rfl;have hcz8_1:w7.cell? ⟨gb172,1,none⟩ = some (.slice A0_1 l0_1.length c0_1):=(blk_cell BK172.out 1).trans rfl;have hfz8_0:=blk_frozen BK172.out 0;have hfz8_1:=blk_frozen BK172.out 1;have p173:0≤(a1:Int):=of_decide_eq_true (by first|(with_reducible assumption)|assumption);have q173:a1 < (l0_0.length:Int):=of_decide_eq_true (by first|(with_reducible assumption)|assumption);obtain ⟨ad173,e173,hx173_0⟩:=Kd.at_bool HR0_0.out a1 p173 q173;cases e173;replace hx173_0:=(HB.out.cell (World.block_lt_of_cell? w _ hx173_0)).trans hx173_0;replace p173:=eq_true p173;replace q173:=eq_true q173));try go_wp2_with (first|((with_reducible refine gate_dst (N:=2) rfl ?_);refine box_event ?hg (N:=2) ?hd (cs:=#[.slice A0_0 l0_0.length c0_0,.slice A0_1 l0_1.length c0_1]) (t:=45) ?hr ?_;(case hd=>rfl);(case hg=>rfl);(case hr=>first|(go_simp;done)|(go_simp;rfl));intro gb172 hg w7 hbox hb;have n0_:=Aside0.mk (below_step (by repeat (first|(with_reducible first|exact HB.out|apply below_alloc|apply pw_below_drewN|apply below_drew1)|exact HB.out)) hb);have n1_:=Aside0.mk (hbox);have n2_:=Aside0.mk ((by rw [hg];exact (below_size (by repeat (first|(with_reducible first|exact HB.out|apply below_alloc|apply pw_below_drewN|apply below_drew1)|exact HB.out))):w.heap.size≤gb172));have n3_:=Aside0.mk ((by rw [hg];exact (below_size (by repeat (first|(with_reducible first|exact HB.out|apply below_alloc|apply pw_below_drewN|apply below_drew1)|exact HB.out))):w.heap.size≤gb172));clear HB;have HB:=n0_;have BK172:=n1_;have GW172:=n2_;have GE172:=n3_;clear n0_ n1_ n2_ n3_;clear hb hbox hg;have hcz8_0:w7.cell? ⟨gb172,0,none⟩ = some (.slice A0_0 l0_0.length c0_0):=(blk_cell BK172.out 0).trans rfl;have hcz8_1:w7.cell? ⟨gb172,1,none⟩ = some (.slice A0_1 l0_1.length c0_1):=(blk_cell BK172.out 1).trans rfl;have hfz8_0:=blk_frozen BK172.out 0;have hfz8_1:=blk_frozen BK172.out 1;have p173:0≤(a1:Int):=of_decide_eq_true (by first|(with_reducible assumption)|assumption);have q173:a1 < (l0_0.length:Int):=of_decide_eq_true (by first|(with_reducible assumption)|assumption);obtain ⟨ad173,e173,hx173_0⟩:=Kd.at_bool HR0_0.out a1 p173 q173;cases e173;replace hx173_0:=(HB.out.cell (World.block_lt_of_cell? w _ hx173_0)).trans hx173_0;replace p173:=eq_true p173;replace q173:=eq_true q173)))
    go_ret
    exact ⟨by first|rfl|(simp [errW_none,errW_some] <;> rfl)|(simp [*,errW_none,errW_some] <;> rfl)|(simp [errW_none,errW_some];exact ⟨rfl,rfl⟩),by repeat (first|(with_reducible first|exact HB.out|apply below_alloc|apply pw_below_drewN|apply below_drew1|refine below_set ?_ GE172.out)|exact HB.out)⟩
   ·rw [if_neg c6] at H
    exact absurd H (by simp)
  ·rw [if_neg c5] at H
   have c5b0:decide (a1 < (l0_0.length:Int)) = false:=decide_eq_false c5
   clear c5
   by_cases c9:(l0_1.length:Int) = 0
   ·rw [if_pos c9] at H
    exact absurd H (by simp)
   ·rw [if_neg c9] at H
    have c9b0:((l0_1.length:Int) == 0) = false:=beq_eq_false_iff_ne.mpr c9
    have c9b1:((l0_1.length:Int) != 0) = true:=bne_iff_ne.mpr c9
    have c9b2:¬ (l0_1 = []):=fun h_=>c9 (by rw [h_];rfl)
    obtain ⟨ji10,hji10⟩:∃ j_:Int,(Int.tmod (wrap64 (a1 - (l0_0.length:Int))) (l0_1.length:Int)) = j_:=⟨_,rfl⟩
    replace H:(if 0≤(ji10) then (if (ji10) < (l0_1.length:Int) then (some (rdOf false l0_1 (ji10))) else (none)) else (none)) = some r:=by first|(rw [hji10] at H;exact H)|(simp only [hji10] at H ⊢;exact H)
    by_cases c11:0≤(ji10)
    ·rw [if_pos c11] at H
     have c11b0:decide (0≤(ji10)) = true:=decide_eq_true c11
     clear c11
     by_cases c12:(ji10) < (l0_1.length:Int)
     ·rw [if_pos c12] at H
      have c12b0:decide ((ji10) < (l0_1.length:Int)) = true:=decide_eq_true c12
      clear c12
      obtain rfl:=Option.some.inj H
      go_enter Try.func22,Try.ntmps22
      go_wp2_with (first|((with_reducible refine gate_dst (N:=2) rfl ?_);refine box_event ?hg (N:=2) ?hd (cs:=#[.slice A0_0 l0_0.length c0_0,.slice A0_1 l0_1.length c0_1]) (t:=45) ?hr ?_;(case hd=>rfl);(case hg=>rfl);(case hr=>first|(go_simp;done)|(go_simp;rfl));intro gb172 hg w13 hbox hb;have n0_:=Aside0.mk (below_step (by repeat (first|(with_reducible first|exact HB.out|apply below_alloc|apply pw_below_drewN|apply below_drew1)|exact HB.out)) hb);have n1_:=Aside0.mk (hbox);have n2_:=Aside0.mk ((by rw [hg];exact (below_size (by repeat (first|(with_reducible first|exact HB.out|apply below_alloc|apply pw_below_drewN|apply below_drew1)|exact HB.out))):w.heap.size≤gb172));have n3_:=Aside0.mk ((by rw [hg];exact (below_size (by repeat (first|(with_reducible first|exact HB.out|apply below_alloc|apply pw_below_drewN|apply below_drew1)|exact HB.out))):w.heap.size≤gb172));clear HB;have HB:=n0_;have BK172:=n1_;have GW172:=n2_;have GE172:=n3_;clear n0_ n1_ n2_ n3_;clear hb hbox hg;have hcz14_0:w13.cell? ⟨gb172,0,none⟩ = some (.slice A0_0 l0_0.length c0_0):=(blk_cell BK172.out 0).trans rfl;have hcz14_1:w13.cell? ⟨gb172,1,none⟩ = some (.slice A0_1 l0_1.length c0_1):=(blk_cell BK172.out 1).trans rfl;have hfz14_0:=blk_frozen BK172.out 0;have hfz14_1:=blk_frozen BK172.out 1;have p174:0≤((ji10):Int):=of_decide_eq_true (by first|(with_reducible assumption)|assumption);have q174:(ji10) < (l0_1.length:Int):=of_decide_eq_true (by first|(with_reducible assumption)|assumption);obtain ⟨ad174,e174,hx174_0⟩:=Kd.at_bool HR0_1.out (ji10) p174 q174;cases e174;replace hx174_0:=(HB.out.cell (World.block_lt_of_cell? w _ hx174_0)).trans hx174_0;replace p174:=eq_true p174;replace q174:=eq_true q174))
      repeat (go_quiet (first|((with_reducible refine gate_dst (N:=2) rfl ?_);refine box_event ?hg (N:=2) ?hd (cs:=#[.slice A0_0 l0_0.length c0_0,.slice A0_1 l0_1.length c0_1]) (t:=45) ?hr ?_;(case hd=>rfl);(case hg=>rfl);(case hr=>first|(go_simp;done)|(go_simp;rfl));intro gb172 hg w13 hbox hb;have n0_:=Aside0.mk (below_step (by repeat (first|(with_reducible first|exact HB.out|apply below_alloc|apply pw_below_drewN|apply below_drew1)|exact HB.out)) hb);have n1_:=Aside0.mk (hbox);have n2_:=Aside0.mk ((by rw [hg];exact (below_size (by repeat (first|(with_reducible first|exact HB.out|apply below_alloc|apply pw_below_drewN|apply below_drew1)|exact HB.out))):w.heap.size≤gb172));have n3_:=Aside0.mk ((by rw [hg];exact (below_size (by repeat (first|(with_reducible first|exact HB.out|apply below_alloc|apply pw_below_drewN|apply below_drew1)|exact HB.out))):w.heap.size≤gb172));clear HB;have HB:=n0_;have BK172:=n1_;have GW172:=n2_;have GE172:=n3_;clear n0_ n1_ n2_ n3_;clear hb hbox hg;have hcz14_0:w13.cell? ⟨gb172,0,none⟩ = some (.slice A0_0 l0_0.length c0_0):=(blk_cell BK172.out 0).trans rfl;have hcz14_1:w13.cell? ⟨gb172,1,none⟩ = some (.slice A0_1 l0_1.length c0_1):=(blk_cell BK172.out 1).trans rfl;have hfz14_0:=blk_frozen BK172.out 0;have hfz14_1:=blk_frozen BK172.out 1;have p174:0≤((ji10):Int):=of_decide_eq_true (by first|(with_reducible assumption)|assumption);have q174:(ji10) < (l0_1.length:Int):=of_decide_eq_true (by first|(with_reducible assumption)|assumption);obtain ⟨ad174,e174,hx174_0⟩:=Kd.at_bool HR0_1.out (ji10) p174 q174;cases e174;replace hx174_0:=(HB.out.cell (World.block_lt_of_cell? w _ hx174_0)).trans hx174_0;replace p174:=eq_true p174;replace q174:=eq_true q174));try go_wp2_with (first|((with_reducible refine gate_dst (N:=2) rfl ?_);refine box_event ?hg (N:=2) ?hd (cs:=#[.slice A0_0 l0_0.length c0_0,.slice A0_1 l0_1.length c0_1]) (t:=45) ?hr ?_;(case hd=>rfl);(case hg=>rfl);(case hr=>first|(go_simp;done)|(go_simp;rfl));intro gb172 hg w13 hbox hb;have n0_:=Aside0.mk (below_step (by repeat (first|(with_reducible first|exact HB.out|apply below_alloc|apply pw_below_drewN|apply below_drew1)|exact HB.out)) hb);have n1_:=Aside0.mk (hbox);have n2_:=Aside0.mk ((by rw [hg];exact (below_size (by repeat (first|(with_reducible first|exact HB.out|apply below_alloc|apply pw_below_drewN|apply below_drew1)|exact HB.out))):w.heap.size≤gb172));have n3_:=Aside0.mk ((by rw [hg];exact (below_size (by repeat (first|(with_reducible first|exact HB.out|apply below_alloc|apply pw_below_drewN|apply below_drew1)|exact HB.out))):w.heap.size≤gb172));clear HB;have HB:=n0_;have BK172:=n1_;have GW172:=n2_;have GE172:=n3_;clear n0_ n1_ n2_ n3_;clear hb hbox hg;have hcz14_0:w13.cell? ⟨gb172,0,none⟩ = some (.slice A0_0 l0_0.length c0_0):=(blk_cell BK172.out 0).trans rfl;have hcz14_1:w13.cell? ⟨gb172,1,none⟩ = some (.slice A0_1 l0_1.length c0_1):=(blk_cell BK172.out 1).trans rfl;have hfz14_0:=blk_frozen BK172.out 0;have hfz14_1:=blk_frozen BK172.out 1;have p174:0≤((ji10):Int):=of_decide_eq_true (by first|(with_reducible assumption)|assumption);have q174:(ji10) < (l0_1.length:Int):=of_decide_eq_true (by first|(with_reducible assumption)|assumption);obtain ⟨ad174,e174,hx174_0⟩:=Kd.at_bool HR0_1.out (ji10) p174 q174;cases e174;replace hx174_0:=(HB.out.cell (World.block_lt_of_cell? w _ hx174_0)).trans hx174_0;replace p174:=eq_true p174;replace q174:=eq_true q174)))
      go_ret
      exact ⟨by first|rfl|(simp [errW_none,errW_some] <;> rfl)|(simp only [← hji10];first|rfl|(simp [errW_none,errW_some] <;> rfl))|(simp [*,errW_none,errW_some] <;> rfl),by repeat (first|(with_reducible first|exact HB.out|apply below_alloc|apply pw_below_drewN|apply below_drew1|refine below_set ?_ GE172.out)|exact HB.out)⟩
     ·rw [if_neg c12] at H
      exact absurd H (by simp)
    ·rw [if_neg c11] at H
     exact absurd H (by simp)

end Go.Proofs.Ytmedlhoahddbmaa.P

namespace Go.Proofs.Ytmedlhoahddbmaa.P
open Go.RowKit Go.Proofs.YtmedlhoahddbmaaW.PrintWords Go.Proofs.YtmedlhoahddbmaaW.PrintLast Go.Proofs.YtmedlhoahddbmaaW.PrintMore
attribute [local go_sem] max2_int min2_int max_two min_two max_three min_three max_four min_four   -- for this text's walks alone
set_option linter.unusedVariables false
set_option linter.unusedSimpArgs false

/-! ### impl_set_below: function 21 -/
def impl_set_below.l0:Nat → List Int → Int → Int → List Bool → List Bool → Option (List Int)
 | 0,_,_,_,_,_=>none
 | k + 1,x5,x7,x8,x288000,x288001=>if x8 < x7 then ((impl_set_has.f x288000 x288001 x8).bind fun t288=>(if t288 = true then (if x5.length < 17592186044416 then (impl_set_below.l0 k (x5 ++ [x8]) x7 (wrap64 (x8 + 1)) x288000 x288001) else (none)) else (impl_set_below.l0 k x5 x7 (wrap64 (x8 + 1)) x288000 x288001))) else (some x5)
def impl_set_below.f (k:Nat) (l0_0:List Bool) (l0_1:List Bool) (a1:Int):Option (List Int):=impl_set_below.l0 k ([]:List Int) a1 0 l0_0 l0_1
theorem impl_set_below.mono_l:∀ k,(∀ y0 y1 y2 y3 y4,LeO (impl_set_below.l0 k y0 y1 y2 y3 y4) (impl_set_below.l0 (k + 1) y0 y1 y2 y3 y4))
 | 0=>fun _ _ _ _ _ r h=>by simp [impl_set_below.l0] at h
 | k + 1=>by
  have ih0:=impl_set_below.mono_l k
  ·intro y0 y1 y2 y3 y4
   unfold impl_set_below.l0
   repeat' first
   | (with_reducible exact ih0 _ _ _ _ _)
   | (with_reducible exact LeO.refl _)
   | (with_reducible exact LeO.none _)
   | (with_reducible refine LeO.ite ?_ ?_)
   | (with_reducible refine LeO.bind ?_ (fun _=>?_))
   | exact ih0 _ _ _ _ _
   | exact LeO.none _
   | refine LeO.ite ?_ ?_
   | refine LeO.bind ?_ (fun _=>?_)
theorem impl_set_below.mono:∀ a0 a1 a2 k,LeO (impl_set_below.f k a0 a1 a2) (impl_set_below.f (k + 1) a0 a1 a2):=by
 intro a0 a1 a2 k
 have ih0:=impl_set_below.mono_l k
 unfold impl_set_below.f
 repeat' first
   | (with_reducible exact ih0 _ _ _ _ _)
   | (with_reducible exact LeO.refl _)
   | (with_reducible exact LeO.none _)
   | (with_reducible refine LeO.ite ?_ ?_)
   | (with_reducible refine LeO.bind ?_ (fun _=>?_))
   | exact ih0 _ _ _ _ _
   | exact LeO.none _
   | refine LeO.ite ?_ ?_
   | refine LeO.bind ?_ (fun _=>?_)
set_option maxHeartbeats 8000000 in
set_option maxRecDepth 100000 in
theorem impl_set_below.calls (k:Nat) (A0_0:Option Addr) (c0_0:Nat) (l0_0:List Bool) (A0_1:Option Addr) (c0_1:Nat) (l0_1:List Bool) (a1:Int) (r:List Int) (w:World) (hr0_0:Kd.C Kd.bool w A0_0 l0_0.length l0_0) (hc0_0:l0_0.length≤c0_0) (hr0_1:Kd.C Kd.bool w A0_1 l0_1.length l0_1) (hc0_1:l0_1.length≤c0_1) (h:impl_set_below.f k l0_0 l0_1 a1 = some r) :
  Calls Try.prog 21 #[.agg #[.slice A0_0 l0_0.length c0_0,.slice A0_1 l0_1.length c0_1],.int .i64 a1] w fun e w'=>∃ v0_:Value,e = .returned (v0_)∧Kd.R (Kd.int .i64) 3 w' w.heap.size (fun _=>True) v0_ r∧Below w.heap.size w w':=by
 have hu45:=Try.underlying45
 have HR0_0:=Aside0.mk hr0_0
 have HC0_0:=Aside0.mk hc0_0
 clear hr0_0 hc0_0
 have HR0_1:=Aside0.mk hr0_1
 have HC0_1:=Aside0.mk hc0_1
 clear hr0_1 hc0_1
 have HB:=Aside0.mk (Below.refl w.heap.size w)
 have H:(impl_set_below.l0 k ([]:List Int) a1 0 l0_0 l0_1) = some r:=h
 clear h
 have H':=Aside0.mk H
 clear H
 go_enter Try.func21,Try.ntmps21
 go_wp2_with (first|((with_reducible refine gate_dst (N:=2) rfl ?_);refine box_event ?hg (N:=2) ?hd (cs:=#[.slice A0_0 l0_0.length c0_0,.slice A0_1 l0_1.length c0_1]) (t:=45) ?hr ?_;(case hd=>rfl);(case hg=>rfl);(case hr=>first|(go_simp;done)|(go_simp;rfl));intro gb287 hg w3 hbox hb;have n0_:=Aside0.mk (below_step (by repeat (first|(with_reducible first|exact HB.out|apply below_alloc|apply pw_below_drewN|apply below_drew1)|exact HB.out)) hb);have n1_:=Aside0.mk (hbox);have n2_:=Aside0.mk ((by rw [hg];exact (below_size (by repeat (first|(with_reducible first|exact HB.out|apply below_alloc|apply pw_below_drewN|apply below_drew1)|exact HB.out))):w.heap.size≤gb287));have n3_:=Aside0.mk ((by rw [hg];exact (below_size (by repeat (first|(with_reducible first|exact HB.out|apply below_alloc|apply pw_below_drewN|apply below_drew1)|exact HB.out))):w.heap.size≤gb287));clear HB;have HB:=n0_;have BK287:=n1_;have GW287:=n2_;have GE287:=n3_;clear n0_ n1_ n2_ n3_;clear hb hbox hg))
 go_loopg [5,8] k (fun kq v5 v8 w'=>∃ (x5_1:List Int) (x8_1:Int),v8 = .int .i64 x8_1∧Aside0 (impl_set_below.l0 kq x5_1 a1 x8_1 l0_0 l0_1 = some r)∧Aside0 (kq≤k)∧Aside0 (Kd.R (Kd.int .i64) 3 w' w.heap.size (fun _=>True) v5 x5_1)∧Aside0 (w'.heap[gb287]? = some (.cells #[(.slice A0_0 l0_0.length c0_0),(.slice A0_1 l0_1.length c0_1)] 45 (0,0)))∧Aside0 (Below w.heap.size w w'))
 case atStart=>exact ⟨(([]:List Int)),(0),(by first|rfl|(simp;done)|(simp [*];done)|(simp [Int.tmod_eq_emod_of_nonneg];done)),H',⟨Nat.le_refl _⟩,⟨by first|exact Kd.R_nil _ _ _ _ _|exact Kd.N_nil _ _ _ _ _|exact Kd.V_nil _ _ _ _ _|exact Kd.Q_nil _ _ _ _ _|exact Kd.S_nil _ _ _ _ _⟩,⟨by (with_reducible repeat (first|refine blk_drewN ?_ _|refine blk_drew ?_|refine blk_alloc ?_ _));exact BK287.out⟩,⟨by repeat (first|(with_reducible first|exact HB.out|apply below_alloc|apply pw_below_drewN|apply below_drew1|refine below_set ?_ GE287.out)|exact HB.out)⟩⟩
 case round =>
  clear H'
  try clear c2
  try clear p2
  obtain ⟨x5_1,x8_1,rfl,HA,HK1,HO_5,BK287,HB⟩:=hrel
  cases gk with
  | zero=>exact absurd HA.out (by simp [impl_set_below.l0])
  | succ k1 =>
   have H:=HA.out
   clear HA
   simp only [impl_set_below.l0] at H
   by_cases c4:x8_1 < a1
   ·rw [if_pos c4] at H
    have c4b0:decide (x8_1 < a1) = true:=decide_eq_true c4
    clear c4
    replace H:=Option.bind_eq_some_iff.mp H
    obtain ⟨t288,A50,H⟩:=H
    replace H:(if t288 = true then (if x5_1.length < 17592186044416 then (impl_set_below.l0 k1 (x5_1 ++ [x8_1]) a1 (wrap64 (x8_1 + 1)) l0_0 l0_1) else (none)) else (impl_set_below.l0 k1 x5_1 a1 (wrap64 (x8_1 + 1)) l0_0 l0_1)) = some r:=H
    have A5:=Aside0.mk A50
    clear A50
    by_cases c6:t288 = true
    ·subst c6
     have H1:(if x5_1.length < 17592186044416 then (impl_set_below.l0 k1 (x5_1 ++ [x8_1]) a1 (wrap64 (x8_1 + 1)) l0_0 l0_1) else (none)) = some r:=by rw [if_pos rfl] at H;exact H
     clear H
     have H:=H1
     clear H1
     by_cases c7:x5_1.length < 17592186044416
     ·rw [if_pos c7] at H
      have LMc7:=Aside0.mk c7
      clear c7
      obtain ⟨y289,hy289⟩:∃ y_:List Int,y_ = (x5_1 ++ [x8_1]):=⟨_,rfl⟩
      replace H:(impl_set_below.l0 k1 y289 a1 (wrap64 (x8_1 + 1)) l0_0 l0_1) = some r:=by first|(rw [hy289];with_reducible exact H)|(have H2_:=(Option.bind_some _ _).symm.trans H;rw [hy289];with_reducible exact H2_)|(have H2_:=(Option.bind_some _ _).symm.trans H;with_reducible exact H2_)|with_reducible exact H|(rw [hy289];exact H)|exact H
      have Ny289:=Aside0.mk hy289
      clear hy289
      have H':=Aside0.mk H
      clear H
      have hcz8_0:wr.cell? ⟨gb287,0,none⟩ = some (.slice A0_0 l0_0.length c0_0):=(blk_cell BK287.out 0).trans rfl
      have hcz8_1:wr.cell? ⟨gb287,1,none⟩ = some (.slice A0_1 l0_1.length c0_1):=(blk_cell BK287.out 1).trans rfl
      have hfz8_0:=blk_frozen BK287.out 0
      have hfz8_1:=blk_frozen BK287.out 1
      go_wp2_with (first|((with_reducible refine gate_callee (f:=22) rfl ?_);refine goesL_ (some 13) rfl rfl Try.func22 (by kernel_rfl) rfl #[.agg #[.slice A0_0 l0_0.length c0_0,.slice A0_1 l0_1.length c0_1],.int .i64 x8_1] rfl (by (try simp only [List.map_toArray,List.map_cons,List.map_nil]);first|done|rfl|(simp only [List.length_drop,List.length_take];rfl)) ?_;(with_reducible refine (impl_set_has.calls _ _ l0_0 _ _ l0_1 x8_1 true _ ?side1 ?side2 ?side3 ?side4 A5.out).mono ?_);(case side1=>repeat (first|exact (Kd.C_below HR0_0.out HB.out)|(with_reducible refine Kd.C_alloc ?_ _)|(with_reducible refine Kd.C_drewN ?_ _)|(with_reducible refine Kd.C_drew ?_)));(case side2=>exact HC0_0.out);(case side3=>repeat (first|exact (Kd.C_below HR0_1.out HB.out)|(with_reducible refine Kd.C_alloc ?_ _)|(with_reducible refine Kd.C_drewN ?_ _)|(with_reducible refine Kd.C_drew ?_)));(case side4=>exact HC0_1.out);rintro e w9 ⟨rfl,hb⟩;refine ⟨_,rfl,?_⟩;have n0_:=Aside0.mk (Kd.R_below (by (with_reducible repeat (first|apply Kd.R_alloc|apply Kd.R_drewN|apply Kd.R_drew));exact HO_5.out) hb);have n1_:=Aside0.mk (blk_below (g:=gb287) (o:=.cells #[.slice A0_0 l0_0.length c0_0,.slice A0_1 l0_1.length c0_1] 45 (0,0)) (by (with_reducible repeat (first|refine blk_drewN ?_ _|refine blk_drew ?_|refine blk_alloc ?_ _));exact BK287.out) hb);have n2_:=Aside0.mk (below_step (by repeat (first|(with_reducible first|exact HB.out|apply below_alloc|apply pw_below_drewN|apply below_drew1|refine below_set ?_ GE287.out)|exact HB.out)) hb);clear HO_5;clear BK287;clear HB;have HO_5:=n0_;have BK287:=n1_;have HB:=n2_;clear n0_ n1_ n2_;(try clear hb);(try clear hb2);(try clear hk);(try clear hi))|((with_reducible refine gate_builtin (b:=.append) (xs:=#[.tmp 14,.tmp 16]) rfl ?_);at_builtin;refine Kd.R_append (Kd.int .i64) (w0:=w) w.heap.size rfl (.tmp 14) (.tmp 16) 23 3 (.int .i64 0) 8 rfl Try.underlying23 info3 rfl (by decide) (by omega) u5 x5_1 x8_1 [.int .i64 x8_1] (fun _=>True) (fun _=>False) rfl rfl ?aP (fun _ hk=>hk.elim) ?aF ?aO ?aB ?aS ?aL ?_;(case aP=>exact rfl);(case aB=>exact (by repeat (first|(with_reducible first|exact HB.out|apply below_alloc|apply pw_below_drewN|apply below_drew1|refine below_set ?_ GE287.out)|exact HB.out)));(case aF=>exact (fun _ _=>trivial));(case aO=>exact (by (with_reducible repeat (first|apply Kd.R_alloc|apply Kd.R_drewN|apply Kd.R_drew));exact HO_5.out));(case aS=>exact (below_size (by repeat (first|(with_reducible first|exact HB.out|apply below_alloc|apply pw_below_drewN|apply below_drew1|refine below_set ?_ GE287.out)|exact HB.out))));(case aL=>have:=LMc7.out;omega);intro v290 w10 ho hb hg hat;rw [← Ny289.out] at ho;have n0_:=Aside0.mk (blk_grown (g:=gb287) (o:=.cells #[.slice A0_0 l0_0.length c0_0,.slice A0_1 l0_1.length c0_1] 45 (0,0)) (by (with_reducible repeat (first|refine blk_drewN ?_ _|refine blk_drew ?_|refine blk_alloc ?_ _));exact BK287.out) hg (Kd.R_ne HO_5.out BK287.out (by decide)));have n1_:=Aside0.mk (hb);have n2_:=Aside0.mk (ho);clear BK287;clear HB;clear HO_5;have BK287:=n0_;have HB:=n1_;have HO291:=n2_;clear n0_ n1_ n2_;clear ho hb hg hat))
      go_roundg k1
      case measure=>have:=HK1.out;omega
      case rel=>exact ⟨(y289),(wrap64 (x8_1 + 1)),(by first|rfl|(simp;done)|(simp [*];done)|(simp [Int.tmod_eq_emod_of_nonneg];done)),H',⟨by have:=HK1.out;omega⟩,⟨by (with_reducible repeat (first|apply Kd.R_alloc|apply Kd.R_drewN|apply Kd.R_drew));exact HO291.out⟩,⟨by (with_reducible repeat (first|refine blk_drewN ?_ _|refine blk_drew ?_|refine blk_alloc ?_ _));exact BK287.out⟩,⟨by repeat (first|(with_reducible first|exact HB.out|apply below_alloc|apply pw_below_drewN|apply below_drew1|refine below_set ?_ GE287.out)|exact HB.out)⟩⟩
     ·rw [if_neg c7] at H
      exact absurd H (by simp)
    ·replace c6:=Bool.eq_false_iff.mpr c6
     subst c6
     have H1:(impl_set_below.l0 k1 x5_1 a1 (wrap64 (x8_1 + 1)) l0_0 l0_1) = some r:=by rw [if_neg (show ¬ (false = true) by decide)] at H;exact H
     clear H
     have H:=H1
     clear H1
     have H':=Aside0.mk H
     clear H
     have hcz11_0:wr.cell? ⟨gb287,0,none⟩ = some (.slice A0_0 l0_0.length c0_0):=(blk_cell BK287.out 0).trans rfl
     have hcz11_1:wr.cell? ⟨gb287,1,none⟩ = some (.slice A0_1 l0_1.length c0_1):=(blk_cell BK287.out 1).trans rfl
     have hfz11_0:=blk_frozen BK287.out 0
     have hfz11_1:=blk_frozen BK287.out 1
     go_wp2_with (first|((with_reducible refine gate_callee (f:=22) rfl ?_);refine goesL_ (some 13) rfl rfl Try.func22 (by kernel_rfl) rfl #[.agg #[.slice A0_0 l0_0.length c0_0,.slice A0_1 l0_1.length c0_1],.int .i64 x8_1] rfl (by (try simp only [List.map_toArray,List.map_cons,List.map_nil]);first|done|rfl|(simp only [List.length_drop,List.length_take];rfl)) ?_;(with_reducible refine (impl_set_has.calls _ _ l0_0 _ _ l0_1 x8_1 false _ ?side1 ?side2 ?side3 ?side4 A5.out).mono ?_);(case side1=>repeat (first|exact (Kd.C_below HR0_0.out HB.out)|(with_reducible refine Kd.C_alloc ?_ _)|(with_reducible refine Kd.C_drewN ?_ _)|(with_reducible refine Kd.C_drew ?_)));(case side2=>exact HC0_0.out);(case side3=>repeat (first|exact (Kd.C_below HR0_1.out HB.out)|(with_reducible refine Kd.C_alloc ?_ _)|(with_reducible refine Kd.C_drewN ?_ _)|(with_reducible refine Kd.C_drew ?_)));(case side4=>exact HC0_1.out);rintro e w12 ⟨rfl,hb⟩;refine ⟨_,rfl,?_⟩;have n0_:=Aside0.mk (Kd.R_below (by (with_reducible repeat (first|apply Kd.R_alloc|apply Kd.R_drewN|apply Kd.R_drew));exact HO_5.out) hb);have n1_:=Aside0.mk (blk_below (g:=gb287) (o:=.cells #[.slice A0_0 l0_0.length c0_0,.slice A0_1 l0_1.length c0_1] 45 (0,0)) (by (with_reducible repeat (first|refine blk_drewN ?_ _|refine blk_drew ?_|refine blk_alloc ?_ _));exact BK287.out) hb);have n2_:=Aside0.mk (below_step (by repeat (first|(with_reducible first|exact HB.out|apply below_alloc|apply pw_below_drewN|apply below_drew1|refine below_set ?_ GE287.out)|exact HB.out)) hb);clear HO_5;clear BK287;clear HB;have HO_5:=n0_;have BK287:=n1_;have HB:=n2_;clear n0_ n1_ n2_;(try clear hb);(try clear hb2);(try clear hk);(try clear hi)))
     go_roundg k1
     case measure=>have:=HK1.out;omega
     case rel=>exact ⟨(x5_1),(wrap64 (x8_1 + 1)),(by first|rfl|(simp;done)|(simp [*];done)|(simp [Int.tmod_eq_emod_of_nonneg];done)),H',⟨by have:=HK1.out;omega⟩,⟨by (with_reducible repeat (first|apply Kd.R_alloc|apply Kd.R_drewN|apply Kd.R_drew));exact HO_5.out⟩,⟨by (with_reducible repeat (first|refine blk_drewN ?_ _|refine blk_drew ?_|refine blk_alloc ?_ _));exact BK287.out⟩,⟨by repeat (first|(with_reducible first|exact HB.out|apply below_alloc|apply pw_below_drewN|apply below_drew1|refine below_set ?_ GE287.out)|exact HB.out)⟩⟩
   ·rw [if_neg c4] at H
    have c4b0:decide (x8_1 < a1) = false:=decide_eq_false c4
    clear c4
    obtain rfl:=Option.some.inj H
    go_wp2
    go_ret
    exact ⟨_,by first|rfl|(simp [errW_none,errW_some] <;> rfl)|(simp [*,errW_none,errW_some] <;> rfl)|(simp [errW_none,errW_some];exact ⟨rfl,rfl⟩),by (with_reducible repeat (first|apply Kd.R_alloc|apply Kd.R_drewN|apply Kd.R_drew));exact HO_5.out,by repeat (first|(with_reducible first|exact HB.out|apply below_alloc|apply pw_below_drewN|apply below_drew1|refine below_set ?_ GE287.out)|exact HB.out)⟩

end Go.Proofs.Ytmedlhoahddbmaa.P

namespace Go.Proofs.Ytmedlhoahddbmaa.P
open Go.RowKit Go.Proofs.YtmedlhoahddbmaaW.PrintWords Go.Proofs.YtmedlhoahddbmaaW.PrintLast Go.Proofs.YtmedlhoahddbmaaW.PrintMore
attribute [local go_sem] max2_int min2_int max_two min_two max_three min_three max_four min_four   -- for this text's walks alone
set_option linter.unusedVariables false
set_option linter.unusedSimpArgs false

/-! ### impl_signs: function 32 -/
def impl_signs.l0:Nat → List Bool → List Int → Int → Int → Option (List Bool × Bool)
 | 0,_,_,_,_=>none
 | k + 1,x4,x8,x9,x10=>if x10 < x9 then (if 0≤x10 then (if x10 < (x8.length:Int) then (if (rd x8 x10) = 48 then (if x4.length < 140737488355328 then (impl_signs.l0 k (x4 ++ [((rd x8 x10) == 49)]) x8 x9 (wrap64 (x10 + 1))) else (none)) else (if (rd x8 x10) = 49 then (if x4.length < 140737488355328 then (impl_signs.l0 k (x4 ++ [true]) x8 x9 (wrap64 (x10 + 1))) else (none)) else (some (([]:List Bool),false)))) else (none)) else (none)) else (some (x4,decide ((x4.length:Int)≤60)))
def impl_signs.f (k:Nat) (a0:ByteArray):Option (List Bool × Bool):=(bytesConv.f a0).bind fun t148=>(impl_signs.l0 k ([]:List Bool) t148 (t148.length:Int) 0)
theorem impl_signs.mono_l:∀ k,(∀ y0 y1 y2 y3,LeO (impl_signs.l0 k y0 y1 y2 y3) (impl_signs.l0 (k + 1) y0 y1 y2 y3))
 | 0=>fun _ _ _ _ r h=>by simp [impl_signs.l0] at h
 | k + 1=>by
  have ih0:=impl_signs.mono_l k
  ·intro y0 y1 y2 y3
   unfold impl_signs.l0
   repeat' first
   | (with_reducible exact ih0 _ _ _ _)
   | (with_reducible exact LeO.refl _)
   | (with_reducible exact LeO.none _)
   | (with_reducible refine LeO.ite ?_ ?_)
   | (with_reducible refine LeO.bind ?_ (fun _=>?_))
   | exact ih0 _ _ _ _
   | exact LeO.none _
   | refine LeO.ite ?_ ?_
   | refine LeO.bind ?_ (fun _=>?_)
theorem impl_signs.mono:∀ a0 k,LeO (impl_signs.f k a0) (impl_signs.f (k + 1) a0):=by
 intro a0 k
 have ih0:=impl_signs.mono_l k
 unfold impl_signs.f
 repeat' first
   | (with_reducible exact ih0 _ _ _ _)
   | (with_reducible exact LeO.refl _)
   | (with_reducible exact LeO.none _)
   | (with_reducible refine LeO.ite ?_ ?_)
   | (with_reducible refine LeO.bind ?_ (fun _=>?_))
   | exact ih0 _ _ _ _
   | exact LeO.none _
   | refine LeO.ite ?_ ?_
   | refine LeO.bind ?_ (fun _=>?_)
set_option maxHeartbeats 8000000 in
set_option maxRecDepth 100000 in
theorem impl_signs.calls (k:Nat) (a0:ByteArray) (r1:List Bool) (r2:Bool) (w:World) (h:impl_signs.f k a0 = some (r1,r2)) :
  Calls Try.prog 32 #[.string a0] w fun e w'=>∃ v0_:Value,e = .returned (.tuple #[v0_,.bool r2])∧Kd.R Kd.bool 4 w' w.heap.size (fun _=>True) v0_ r1∧Below w.heap.size w w':=by
 have HB:=Aside0.mk (Below.refl w.heap.size w)
 have H:((bytesConv.f a0).bind fun t148=>(impl_signs.l0 k ([]:List Bool) t148 (t148.length:Int) 0)) = some (r1,r2):=h
 clear h
 replace H:=Option.bind_eq_some_iff.mp H
 obtain ⟨t148,A20,H⟩:=H
 replace H:(impl_signs.l0 k ([]:List Bool) t148 (t148.length:Int) 0) = some (r1,r2):=H
 have A2:=Aside0.mk A20
 clear A20
 have H':=Aside0.mk H
 clear H
 go_enter Try.func32,Try.ntmps32
 go_wp2_with (first|((with_reducible refine gate_dst (N:=8) rfl ?_);refine conv_event (P:=Try.prog) 8 rfl rfl 9 22 5 Try.underlying9 Try.underlying22 Try.underlying5 a0 A2.out ⟨_,rfl,rfl⟩ ?_;intro v149 w3 ho0 hb;have n0_:=Aside0.mk (Kd.V_lower (Kd.V_mono (ok':=fun k_=>True) ho0 (fun k_ hk_=>trivial)) (below_size (by repeat (first|(with_reducible first|exact HB.out|apply below_alloc|apply pw_below_drewN|apply below_drew1)|exact HB.out))));have n1_:=Aside0.mk (below_step (by repeat (first|(with_reducible first|exact HB.out|apply below_alloc|apply pw_below_drewN|apply below_drew1)|exact HB.out)) hb);clear HB;have HO150:=n0_;have HB:=n1_;clear n0_ n1_;(try clear hb);(try clear hb2);(try clear hk);(try clear hi);(try clear ho0);obtain ⟨Ao4,co4,eo4⟩:=Kd.V_slice HO150.out;subst eo4))
 go_loopg [4,10] k (fun kq v4 v10 w'=>∃ (x4_1:List Bool) (x10_1:Int),v10 = .int .i64 x10_1∧Aside0 (impl_signs.l0 kq x4_1 t148 (t148.length:Int) x10_1 = some (r1,r2))∧Aside0 (kq≤k)∧Aside0 (Kd.R Kd.bool 4 w' w.heap.size (fun _=>True) v4 x4_1)∧Aside0 (Kd.V (Kd.int .u8) 5 w' w.heap.size (fun k_=>some k_ ≠ (v4:Value).ownBlock) (.slice Ao4 t148.length co4) t148)∧Aside0 (Below w.heap.size w w'))
 case atStart=>exact ⟨(([]:List Bool)),(0),(by first|rfl|(simp;done)|(simp [*];done)|(simp [Int.tmod_eq_emod_of_nonneg];done)),H',⟨Nat.le_refl _⟩,⟨by first|exact Kd.R_nil _ _ _ _ _|exact Kd.N_nil _ _ _ _ _|exact Kd.V_nil _ _ _ _ _|exact Kd.Q_nil _ _ _ _ _|exact Kd.S_nil _ _ _ _ _⟩,⟨by (with_reducible repeat (first|apply Kd.V_alloc|apply Kd.V_drewN|apply Kd.V_drew));exact Kd.V_mono HO150.out (fun _ hk=>(by simp [Value.ownBlock]))⟩,⟨by repeat (first|(with_reducible first|exact HB.out|apply below_alloc|apply pw_below_drewN|apply below_drew1)|exact HB.out)⟩⟩
 case round =>
  clear H'
  try clear c1
  try clear p2
  try clear c3
  obtain ⟨x4_1,x10_1,rfl,HA,HK1,HO_4,HO_8,HB⟩:=hrel
  cases gk with
  | zero=>exact absurd HA.out (by simp [impl_signs.l0])
  | succ k1 =>
   have H:=HA.out
   clear HA
   simp only [impl_signs.l0] at H
   by_cases c5:x10_1 < (t148.length:Int)
   ·rw [if_pos c5] at H
    have c5b0:decide (x10_1 < (t148.length:Int)) = true:=decide_eq_true c5
    clear c5
    by_cases c6:0≤x10_1
    ·rw [if_pos c6] at H
     have c6b0:decide (0≤x10_1) = true:=decide_eq_true c6
     clear c6
     by_cases c7:x10_1 < (t148.length:Int)
     ·rw [if_pos c7] at H
      have c7b0:decide (x10_1 < (t148.length:Int)) = true:=decide_eq_true c7
      clear c7
      by_cases c8:(rd t148 x10_1) = 48
      ·rw [if_pos c8] at H
       have c8b0:((rd t148 x10_1) == 48) = true:=beq_iff_eq.mpr c8
       have c8b1:((rd t148 x10_1) != 48) = false:=bne_eq_false_iff_eq.mpr c8
       clear c8
       by_cases c9:x4_1.length < 140737488355328
       ·rw [if_pos c9] at H
        have LMc9:=Aside0.mk c9
        clear c9
        obtain ⟨y152,hy152⟩:∃ y_:List Bool,y_ = (x4_1 ++ [((rd t148 x10_1) == 49)]):=⟨_,rfl⟩
        replace H:(impl_signs.l0 k1 y152 t148 (t148.length:Int) (wrap64 (x10_1 + 1))) = some (r1,r2):=by first|(rw [hy152];with_reducible exact H)|(have H2_:=(Option.bind_some _ _).symm.trans H;rw [hy152];with_reducible exact H2_)|(have H2_:=(Option.bind_some _ _).symm.trans H;with_reducible exact H2_)|with_reducible exact H|(rw [hy152];exact H)|exact H
        have Ny152:=Aside0.mk hy152
        clear hy152
        have H':=Aside0.mk H
        clear H
        have p151:0≤(x10_1:Int):=of_decide_eq_true (by first|(with_reducible assumption)|assumption)
        have q151:x10_1 < (t148.length:Int):=of_decide_eq_true (by first|(with_reducible assumption)|assumption)
        obtain ⟨ad151,e151,hx151_0⟩:=Kd.at_int (Kd.V_reads' HO_8.out).2.2 x10_1 p151 q151
        cases e151
        replace p151:=eq_true p151
        replace q151:=eq_true q151
        go_wp2_with (first|((with_reducible refine gate_builtin (b:=.append) (xs:=#[.tmp 20,.tmp 23]) rfl ?_);at_builtin;refine Kd.R_append Kd.bool (w0:=w) w.heap.size rfl (.tmp 20) (.tmp 23) 40 4 (.bool false) 1 rfl Try.underlying40 info4 rfl (by decide) (by omega) u4 x4_1 ((rd t148 x10_1) == 49) [.bool ((rd t148 x10_1) == 49)] (fun _=>True) (fun _=>False) rfl rfl ?aP (fun _ hk=>hk.elim) ?aF ?aO ?aB ?aS ?aL ?_;(case aP=>exact rfl);(case aB=>exact (by repeat (first|(with_reducible first|exact HB.out|apply below_alloc|apply pw_below_drewN|apply below_drew1)|exact HB.out)));(case aF=>exact (fun _ _=>trivial));(case aO=>exact (by (with_reducible repeat (first|apply Kd.R_alloc|apply Kd.R_drewN|apply Kd.R_drew));exact HO_4.out));(case aS=>exact (below_size (by repeat (first|(with_reducible first|exact HB.out|apply below_alloc|apply pw_below_drewN|apply below_drew1)|exact HB.out))));(case aL=>have:=LMc9.out;omega);intro v153 w10 ho hb hg hat;rw [← Ny152.out] at ho;have n0_:=Aside0.mk (Kd.V_afterv (ok:=(fun _=>True)) (by (with_reducible repeat (first|apply Kd.V_alloc|apply Kd.V_drewN|apply Kd.V_drew));exact Kd.V_mono HO_8.out (fun _ hk=>⟨trivial,hk⟩)) hg hat);have n1_:=Aside0.mk (hb);have n2_:=Aside0.mk (ho);clear HO_8;clear HB;clear HO_4;have HO_8:=n0_;have HB:=n1_;have HO154:=n2_;clear n0_ n1_ n2_;clear ho hb hg hat))
        go_roundg k1
        case measure=>have:=HK1.out;omega
        case rel=>exact ⟨(y152),(wrap64 (x10_1 + 1)),(by first|rfl|(simp;done)|(simp [*];done)|(simp [Int.tmod_eq_emod_of_nonneg];done)),H',⟨by have:=HK1.out;omega⟩,⟨by (with_reducible repeat (first|apply Kd.R_alloc|apply Kd.R_drewN|apply Kd.R_drew));exact HO154.out⟩,⟨by (with_reducible repeat (first|apply Kd.V_alloc|apply Kd.V_drewN|apply Kd.V_drew));exact Kd.V_mono HO_8.out (fun _ hk=>hk.2)⟩,⟨by repeat (first|(with_reducible first|exact HB.out|apply below_alloc|apply pw_below_drewN|apply below_drew1)|exact HB.out)⟩⟩
       ·rw [if_neg c9] at H
        exact absurd H (by simp)
      ·rw [if_neg c8] at H
       have c8b0:((rd t148 x10_1) == 48) = false:=beq_eq_false_iff_ne.mpr c8
       have c8b1:((rd t148 x10_1) != 48) = true:=bne_iff_ne.mpr c8
       by_cases c11:(rd t148 x10_1) = 49
       ·rw [if_pos c11] at H
        have c11b0:((rd t148 x10_1) == 49) = true:=beq_iff_eq.mpr c11
        have c11b1:((rd t148 x10_1) != 49) = false:=bne_eq_false_iff_eq.mpr c11
        clear c11
        by_cases c12:x4_1.length < 140737488355328
        ·rw [if_pos c12] at H
         have LMc12:=Aside0.mk c12
         clear c12
         obtain ⟨y155,hy155⟩:∃ y_:List Bool,y_ = (x4_1 ++ [true]):=⟨_,rfl⟩
         replace H:(impl_signs.l0 k1 y155 t148 (t148.length:Int) (wrap64 (x10_1 + 1))) = some (r1,r2):=by first|(rw [hy155];with_reducible exact H)|(have H2_:=(Option.bind_some _ _).symm.trans H;rw [hy155];with_reducible exact H2_)|(have H2_:=(Option.bind_some _ _).symm.trans H;with_reducible exact H2_)|with_reducible exact H|(rw [hy155];exact H)|exact H
         have Ny155:=Aside0.mk hy155
         clear hy155
         have H':=Aside0.mk H
         clear H
         have p151:0≤(x10_1:Int):=of_decide_eq_true (by first|(with_reducible assumption)|assumption)
         have q151:x10_1 < (t148.length:Int):=of_decide_eq_true (by first|(with_reducible assumption)|assumption)
         obtain ⟨ad151,e151,hx151_0⟩:=Kd.at_int (Kd.V_reads' HO_8.out).2.2 x10_1 p151 q151
         cases e151
         replace p151:=eq_true p151
         replace q151:=eq_true q151
         go_wp2_with (first|((with_reducible refine gate_builtin (b:=.append) (xs:=#[.tmp 20,.tmp 23]) rfl ?_);at_builtin;refine Kd.R_append Kd.bool (w0:=w) w.heap.size rfl (.tmp 20) (.tmp 23) 40 4 (.bool false) 1 rfl Try.underlying40 info4 rfl (by decide) (by omega) u4 x4_1 true [.bool true] (fun _=>True) (fun _=>False) rfl rfl ?aP (fun _ hk=>hk.elim) ?aF ?aO ?aB ?aS ?aL ?_;(case aP=>exact rfl);(case aB=>exact (by repeat (first|(with_reducible first|exact HB.out|apply below_alloc|apply pw_below_drewN|apply below_drew1)|exact HB.out)));(case aF=>exact (fun _ _=>trivial));(case aO=>exact (by (with_reducible repeat (first|apply Kd.R_alloc|apply Kd.R_drewN|apply Kd.R_drew));exact HO_4.out));(case aS=>exact (below_size (by repeat (first|(with_reducible first|exact HB.out|apply below_alloc|apply pw_below_drewN|apply below_drew1)|exact HB.out))));(case aL=>have:=LMc12.out;omega);intro v156 w13 ho hb hg hat;rw [← Ny155.out] at ho;have n0_:=Aside0.mk (Kd.V_afterv (ok:=(fun _=>True)) (by (with_reducible repeat (first|apply Kd.V_alloc|apply Kd.V_drewN|apply Kd.V_drew));exact Kd.V_mono HO_8.out (fun _ hk=>⟨trivial,hk⟩)) hg hat);have n1_:=Aside0.mk (hb);have n2_:=Aside0.mk (ho);clear HO_8;clear HB;clear HO_4;have HO_8:=n0_;have HB:=n1_;have HO157:=n2_;clear n0_ n1_ n2_;clear ho hb hg hat))
         go_roundg k1
         case measure=>have:=HK1.out;omega
         case rel=>exact ⟨(y155),(wrap64 (x10_1 + 1)),(by first|rfl|(simp;done)|(simp [*];done)|(simp [Int.tmod_eq_emod_of_nonneg];done)),H',⟨by have:=HK1.out;omega⟩,⟨by (with_reducible repeat (first|apply Kd.R_alloc|apply Kd.R_drewN|apply Kd.R_drew));exact HO157.out⟩,⟨by (with_reducible repeat (first|apply Kd.V_alloc|apply Kd.V_drewN|apply Kd.V_drew));exact Kd.V_mono HO_8.out (fun _ hk=>hk.2)⟩,⟨by repeat (first|(with_reducible first|exact HB.out|apply below_alloc|apply pw_below_drewN|apply below_drew1)|exact HB.out)⟩⟩
        ·rw [if_neg c12] at H
         exact absurd H (by simp)
       ·rw [if_neg c11] at H
        have c11b0:((rd t148 x10_1) == 49) = false:=beq_eq_false_iff_ne.mpr c11
        have c11b1:((rd t148 x10_1) != 49) = true:=bne_iff_ne.mpr c11
        simp only [Option.some.injEq,Prod.mk.injEq] at H
        obtain ⟨rfl,rfl⟩:=H
        have p151:0≤(x10_1:Int):=of_decide_eq_true (by first|(with_reducible assumption)|assumption)
        have q151:x10_1 < (t148.length:Int):=of_decide_eq_true (by first|(with_reducible assumption)|assumption)
        obtain ⟨ad151,e151,hx151_0⟩:=Kd.at_int (Kd.V_reads' HO_8.out).2.2 x10_1 p151 q151
        cases e151
        replace p151:=eq_true p151
        replace q151:=eq_true q151
        go_wp2
        go_ret2
        exact ⟨_,by first|rfl|(simp [errW_none,errW_some] <;> rfl)|(simp [*,errW_none,errW_some] <;> rfl)|(simp [errW_none,errW_some];exact ⟨rfl,rfl⟩),by first|exact Kd.R_nil _ _ _ _ _|exact Kd.N_nil _ _ _ _ _|exact Kd.V_nil _ _ _ _ _|exact Kd.Q_nil _ _ _ _ _|exact Kd.S_nil _ _ _ _ _,by repeat (first|(with_reducible first|exact HB.out|apply below_alloc|apply pw_below_drewN|apply below_drew1)|exact HB.out)⟩
     ·rw [if_neg c7] at H
      exact absurd H (by simp)
    ·rw [if_neg c6] at H
     exact absurd H (by simp)
   ·rw [if_neg c5] at H
    have c5b0:decide (x10_1 < (t148.length:Int)) = false:=decide_eq_false c5
    clear c5
    simp only [Option.some.injEq,Prod.mk.injEq] at H
    obtain ⟨rfl,rfl⟩:=H
    obtain ⟨Ao14,co14,eo14⟩:=Kd.R_slice HO_4.out
    subst eo14
    go_wp2
    go_ret2
    exact ⟨_,by first|rfl|(simp [errW_none,errW_some] <;> rfl)|(simp [*,errW_none,errW_some] <;> rfl)|(simp [errW_none,errW_some];exact ⟨rfl,rfl⟩),by (with_reducible repeat (first|apply Kd.R_alloc|apply Kd.R_drewN|apply Kd.R_drew));exact HO_4.out,by repeat (first|(with_reducible first|exact HB.out|apply below_alloc|apply pw_below_drewN|apply below_drew1)|exact HB.out)⟩

end Go.Proofs.Ytmedlhoahddbmaa.P

namespace Go.Proofs.Ytmedlhoahddbmaa.P
open Go.RowKit Go.Proofs.YtmedlhoahddbmaaW.PrintWords Go.Proofs.YtmedlhoahddbmaaW.PrintLast Go.Proofs.YtmedlhoahddbmaaW.PrintMore
attribute [local go_sem] max2_int min2_int max_two min_two max_three min_three max_four min_four   -- for this text's walks alone
set_option linter.unusedVariables false
set_option linter.unusedSimpArgs false

/-! ### impl_turns: function 34 -/
def impl_turns.l0:Nat → List Bool → Int → Int → Int → Option (Bool)
 | 0,_,_,_,_=>none
 | k + 1,x0,x1,x7,x8=>if x8 < x7 then (if 0≤x8 then (if x8 < (x0.length:Int) then (if x1 = 0 then (none) else (if 0≤(Int.tmod x8 x1) then (if (Int.tmod x8 x1) < (x0.length:Int) then (if ((rdOf false x0 x8) != (rdOf false x0 (Int.tmod x8 x1))) = true then (some false) else (impl_turns.l0 k x0 x1 x7 (wrap64 (x8 + 1)))) else (none)) else (none))) else (none)) else (none)) else (if x1 = 0 then (none) else (some (((x0.length:Int) % x1) == 0)))
def impl_turns.f (k:Nat) (l0:List Bool) (a1:Int):Option (Bool):=impl_turns.l0 k l0 a1 (l0.length:Int) 0
theorem impl_turns.mono_l:∀ k,(∀ y0 y1 y2 y3,LeO (impl_turns.l0 k y0 y1 y2 y3) (impl_turns.l0 (k + 1) y0 y1 y2 y3))
 | 0=>fun _ _ _ _ r h=>by simp [impl_turns.l0] at h
 | k + 1=>by
  have ih0:=impl_turns.mono_l k
  ·intro y0 y1 y2 y3
   unfold impl_turns.l0
   repeat' first
   | (with_reducible exact ih0 _ _ _ _)
   | (with_reducible exact LeO.refl _)
   | (with_reducible exact LeO.none _)
   | (with_reducible refine LeO.ite ?_ ?_)
   | (with_reducible refine LeO.bind ?_ (fun _=>?_))
   | exact ih0 _ _ _ _
   | exact LeO.none _
   | refine LeO.ite ?_ ?_
   | refine LeO.bind ?_ (fun _=>?_)
theorem impl_turns.mono:∀ a0 a1 k,LeO (impl_turns.f k a0 a1) (impl_turns.f (k + 1) a0 a1):=by
 intro a0 a1 k
 have ih0:=impl_turns.mono_l k
 unfold impl_turns.f
 repeat' first
   | (with_reducible exact ih0 _ _ _ _)
   | (with_reducible exact LeO.refl _)
   | (with_reducible exact LeO.none _)
   | (with_reducible refine LeO.ite ?_ ?_)
   | (with_reducible refine LeO.bind ?_ (fun _=>?_))
   | exact ih0 _ _ _ _
   | exact LeO.none _
   | refine LeO.ite ?_ ?_
   | refine LeO.bind ?_ (fun _=>?_)
set_option maxHeartbeats 8000000 in
set_option maxRecDepth 100000 in
theorem impl_turns.calls (k:Nat) (A0:Option Addr) (c0:Nat) (l0:List Bool) (a1:Int) (r:Bool) (w:World) (hr0:Kd.C Kd.bool w A0 l0.length l0) (hc0:l0.length≤c0) (h:impl_turns.f k l0 a1 = some r) :
  Calls Try.prog 34 #[.slice A0 l0.length c0,.int .i64 a1] w fun e w'=>e = .returned (.bool r)∧Drawn0 w w':=by
 have HR0:=Aside0.mk hr0
 have HC0:=Aside0.mk hc0
 clear hr0 hc0
 have H:(impl_turns.l0 k l0 a1 (l0.length:Int) 0) = some r:=h
 clear h
 have H':=Aside0.mk H
 clear H
 go_enter Try.func34,Try.ntmps34
 go_wp2
 repeat (go_quiet (fail);try go_wp2)
 go_loopg [8] k (fun kq v8 w'=>∃ (x8_1:Int),v8 = .int .i64 x8_1∧Aside0 (impl_turns.l0 kq l0 a1 (l0.length:Int) x8_1 = some r)∧Aside0 (kq≤k)∧Drawn0 w w')
 case atStart=>exact ⟨(0),(by first|rfl|(simp;done)|(simp [*];done)|(simp [Int.tmod_eq_emod_of_nonneg];done)),H',⟨Nat.le_refl _⟩,by repeat (first|exact Drawn0.refl _|apply Drawn0.step)⟩
 case round =>
  clear H'
  try clear p2
  obtain ⟨x8_1,rfl,HA,HK1,⟨m1,rfl⟩⟩:=hrel
  cases gk with
  | zero=>exact absurd HA.out (by simp [impl_turns.l0])
  | succ k1 =>
   have H:=HA.out
   clear HA
   simp only [impl_turns.l0] at H
   by_cases c3:x8_1 < (l0.length:Int)
   ·rw [if_pos c3] at H
    have c3b0:decide (x8_1 < (l0.length:Int)) = true:=decide_eq_true c3
    clear c3
    by_cases c4:0≤x8_1
    ·rw [if_pos c4] at H
     have c4b0:decide (0≤x8_1) = true:=decide_eq_true c4
     clear c4
     by_cases c5:x8_1 < (l0.length:Int)
     ·rw [if_pos c5] at H
      have c5b0:decide (x8_1 < (l0.length:Int)) = true:=decide_eq_true c5
      clear c5
      by_cases c6:a1 = 0
      ·rw [if_pos c6] at H
       exact absurd H (by simp)
      ·rw [if_neg c6] at H
       have c6b0:(a1 == 0) = false:=beq_eq_false_iff_ne.mpr c6
       have c6b1:(a1 != 0) = true:=bne_iff_ne.mpr c6
       obtain ⟨ji7,hji7⟩:∃ j_:Int,(Int.tmod x8_1 a1) = j_:=⟨_,rfl⟩
       replace H:(if 0≤(ji7) then (if (ji7) < (l0.length:Int) then (if ((rdOf false l0 x8_1) != (rdOf false l0 (ji7))) = true then (some false) else (impl_turns.l0 k1 l0 a1 (l0.length:Int) (wrap64 (x8_1 + 1)))) else (none)) else (none)) = some r:=by first|(rw [hji7] at H;exact H)|(simp only [hji7] at H ⊢;exact H)
       by_cases c8:0≤(ji7)
       ·rw [if_pos c8] at H
        have c8b0:decide (0≤(ji7)) = true:=decide_eq_true c8
        clear c8
        by_cases c9:(ji7) < (l0.length:Int)
        ·rw [if_pos c9] at H
         have c9b0:decide ((ji7) < (l0.length:Int)) = true:=decide_eq_true c9
         clear c9
         by_cases c10:((rdOf false l0 x8_1) != (rdOf false l0 (ji7))) = true
         ·rw [if_pos c10] at H
          have c10b0:((rdOf false l0 x8_1) != (rdOf false l0 (ji7))) = true:=c10
          (try (have c10b1:decide ((rdOf false l0 x8_1) = (rdOf false l0 (ji7))) = false:=by simpa using c10))
          (try (have c10b2:((rdOf false l0 x8_1) == (rdOf false l0 (ji7))) = false:=by simpa using c10))
          (try (have c10b3:¬ ((rdOf false l0 x8_1) = (rdOf false l0 (ji7))):=by simpa using c10))
          clear c10
          obtain rfl:=Option.some.inj H
          have p175:0≤(x8_1:Int):=of_decide_eq_true (by first|(with_reducible assumption)|assumption)
          have q175:x8_1 < (l0.length:Int):=of_decide_eq_true (by first|(with_reducible assumption)|assumption)
          obtain ⟨ad175,e175,hx175_0⟩:=Kd.at_bool HR0.out x8_1 p175 q175
          cases e175
          replace p175:=eq_true p175
          replace q175:=eq_true q175
          have p176:0≤((ji7):Int):=of_decide_eq_true (by first|(with_reducible assumption)|assumption)
          have q176:(ji7) < (l0.length:Int):=of_decide_eq_true (by first|(with_reducible assumption)|assumption)
          obtain ⟨ad176,e176,hx176_0⟩:=Kd.at_bool HR0.out (ji7) p176 q176
          obtain rfl:ad175 = ad176:=(by injection e176)
          replace p176:=eq_true p176
          replace q176:=eq_true q176
          go_wp2
          repeat (go_quiet (fail);try go_wp2)
          go_ret
          exact ⟨by first|rfl|(simp;done)|(simp only [← hji7] <;> (first|rfl|simp))|(simp [*];done),by repeat (first|exact Drawn0.refl _|apply Drawn0.step)⟩
         ·rw [if_neg c10] at H
          have c10b0:((rdOf false l0 x8_1) != (rdOf false l0 (ji7))) = false:=by simpa using c10
          (try (have c10b1:decide ((rdOf false l0 x8_1) = (rdOf false l0 (ji7))) = true:=by simpa using c10))
          (try (have c10b2:((rdOf false l0 x8_1) == (rdOf false l0 (ji7))) = true:=by simpa using c10))
          clear c10
          have H':=Aside0.mk H
          clear H
          have p175:0≤(x8_1:Int):=of_decide_eq_true (by first|(with_reducible assumption)|assumption)
          have q175:x8_1 < (l0.length:Int):=of_decide_eq_true (by first|(with_reducible assumption)|assumption)
          obtain ⟨ad175,e175,hx175_0⟩:=Kd.at_bool HR0.out x8_1 p175 q175
          cases e175
          replace p175:=eq_true p175
          replace q175:=eq_true q175
          have p176:0≤((ji7):Int):=of_decide_eq_true (by first|(with_reducible assumption)|assumption)
          have q176:(ji7) < (l0.length:Int):=of_decide_eq_true (by first|(with_reducible assumption)|assumption)
          obtain ⟨ad176,e176,hx176_0⟩:=Kd.at_bool HR0.out (ji7) p176 q176
          obtain rfl:ad175 = ad176:=(by injection e176)
          replace p176:=eq_true p176
          replace q176:=eq_true q176
          go_wp2
          repeat (go_quiet (fail);try go_wp2)
          go_roundg k1
          case measure=>have:=HK1.out;omega
          case rel=>exact ⟨(wrap64 (x8_1 + 1)),(by first|rfl|(simp;done)|(simp [*];done)|(simp [Int.tmod_eq_emod_of_nonneg];done)),H',⟨by have:=HK1.out;omega⟩,by repeat (first|exact Drawn0.refl _|apply Drawn0.step)⟩
        ·rw [if_neg c9] at H
         exact absurd H (by simp)
       ·rw [if_neg c8] at H
        exact absurd H (by simp)
     ·rw [if_neg c5] at H
      exact absurd H (by simp)
    ·rw [if_neg c4] at H
     exact absurd H (by simp)
   ·rw [if_neg c3] at H
    have c3b0:decide (x8_1 < (l0.length:Int)) = false:=decide_eq_false c3
    clear c3
    by_cases c11:a1 = 0
    ·rw [if_pos c11] at H
     exact absurd H (by simp)
    ·rw [if_neg c11] at H
     have c11b0:(a1 == 0) = false:=beq_eq_false_iff_ne.mpr c11
     have c11b1:(a1 != 0) = true:=bne_iff_ne.mpr c11
     obtain rfl:=Option.some.inj H
     go_wp2
     repeat (go_quiet (fail);try go_wp2)
     go_ret
     exact ⟨by first|rfl|(simp;done)|(simp [*];done),by repeat (first|exact Drawn0.refl _|apply Drawn0.step)⟩

end Go.Proofs.Ytmedlhoahddbmaa.P

namespace Go.Proofs.Ytmedlhoahddbmaa.P
open Go.RowKit Go.Proofs.YtmedlhoahddbmaaW.PrintWords Go.Proofs.YtmedlhoahddbmaaW.PrintLast Go.Proofs.YtmedlhoahddbmaaW.PrintMore
attribute [local go_sem] max2_int min2_int max_two min_two max_three min_three max_four min_four   -- for this text's walks alone
set_option linter.unusedVariables false
set_option linter.unusedSimpArgs false

/-! ### impl_set_tidy: function 25 -/
mutual
def impl_set_tidy.l0:Nat → Int → List Bool → List Bool → Option (List Bool × List Bool)
 | 0,_,_,_=>none
 | k + 1,x3,x178000,x178001=>(impl_turns.f k x178001 x3).bind fun t179=>(if t179 = true then ((slices_Clone_bool_bool.f x178000).bind fun t180=>(if 0≤x3 then (if x3≤(x178001.length:Int) then ((slices_Clone_bool_bool.f (x178001.take (x3:Int).toNat)).bind fun t184=>(impl_set_tidy.l1 k x3 t180 t184)) else (none)) else (none))) else (impl_set_tidy.l0 k (wrap64 (x3 + 1)) x178000 x178001))
def impl_set_tidy.l1:Nat → Int → List Bool → List Bool → Option (List Bool × List Bool)
 | 0,_,_,_=>none
 | k + 1,x3,x4,x5=>if (x4.length:Int) > 0 then (if 0≤(wrap64 ((x4.length:Int) - 1)) then (if (wrap64 ((x4.length:Int) - 1)) < (x4.length:Int) then (if 0≤(wrap64 (x3 - 1)) then (if (wrap64 (x3 - 1)) < (x5.length:Int) then (if ((rdOf false x4 (wrap64 ((x4.length:Int) - 1))) == (rdOf false x5 (wrap64 (x3 - 1)))) = true then (if (wrap64 ((x4.length:Int) - 1))≤(x4.length:Int) then ((some (([rdOf false x5 (wrap64 (x3 - 1))]:List Bool):List Bool)).bind fun y193=>(if (wrap64 (x3 - 1))≤(x5.length:Int) then ((some (x5.take ((wrap64 (x3 - 1)):Int).toNat:List Bool)).bind fun y196=>(if y193.length + y196.length < 140737488355328 then (impl_set_tidy.l1 k x3 (x4.take ((wrap64 ((x4.length:Int) - 1)):Int).toNat) (y193 ++ y196)) else (none))) else (none))) else (none)) else (some (x4,x5))) else (none)) else (none)) else (none)) else (none)) else (some (x4,x5))
end
def impl_set_tidy.f (k:Nat) (l0_0:List Bool) (l0_1:List Bool):Option (List Bool × List Bool):=impl_set_tidy.l0 k 1 l0_0 l0_1
theorem impl_set_tidy.mono_l:∀ k,(∀ y0 y1 y2,LeO (impl_set_tidy.l0 k y0 y1 y2) (impl_set_tidy.l0 (k + 1) y0 y1 y2))∧(∀ y0 y1 y2,LeO (impl_set_tidy.l1 k y0 y1 y2) (impl_set_tidy.l1 (k + 1) y0 y1 y2))
 | 0=>⟨fun _ _ _ r h=>by simp [impl_set_tidy.l0] at h,fun _ _ _ r h=>by simp [impl_set_tidy.l1] at h⟩
 | k + 1=>by
  obtain ⟨ih0,ih1⟩:=impl_set_tidy.mono_l k
  refine ⟨?_,?_⟩
  ·intro y0 y1 y2
   unfold impl_set_tidy.l0
   repeat' first
   | (with_reducible exact ih0 _ _ _)
   | (with_reducible exact ih1 _ _ _)
   | (with_reducible exact impl_turns.mono _ _ _)
   | (with_reducible exact LeO.refl _)
   | (with_reducible exact LeO.none _)
   | (with_reducible refine LeO.ite ?_ ?_)
   | (with_reducible refine LeO.bind ?_ (fun _=>?_))
   | exact ih0 _ _ _
   | exact ih1 _ _ _
   | exact impl_turns.mono _ _ _
   | exact LeO.none _
   | refine LeO.ite ?_ ?_
   | refine LeO.bind ?_ (fun _=>?_)
  ·intro y0 y1 y2
   unfold impl_set_tidy.l1
   repeat' first
   | (with_reducible exact ih0 _ _ _)
   | (with_reducible exact ih1 _ _ _)
   | (with_reducible exact impl_turns.mono _ _ _)
   | (with_reducible exact LeO.refl _)
   | (with_reducible exact LeO.none _)
   | (with_reducible refine LeO.ite ?_ ?_)
   | (with_reducible refine LeO.bind ?_ (fun _=>?_))
   | exact ih0 _ _ _
   | exact ih1 _ _ _
   | exact impl_turns.mono _ _ _
   | exact LeO.none _
   | refine LeO.ite ?_ ?_
   | refine LeO.bind ?_ (fun _=>?_)
theorem impl_set_tidy.mono:∀ a0 a1 k,LeO (impl_set_tidy.f k a0 a1) (impl_set_tidy.f (k + 1) a0 a1):=by
 intro a0 a1 k
 obtain ⟨ih0,ih1⟩:=impl_set_tidy.mono_l k
 unfold impl_set_tidy.f
 repeat' first
   | (with_reducible exact ih0 _ _ _)
   | (with_reducible exact ih1 _ _ _)
   | (with_reducible exact impl_turns.mono _ _ _)
   | (with_reducible exact LeO.refl _)
   | (with_reducible exact LeO.none _)
   | (with_reducible refine LeO.ite ?_ ?_)
   | (with_reducible refine LeO.bind ?_ (fun _=>?_))
   | exact ih0 _ _ _
   | exact ih1 _ _ _
   | exact impl_turns.mono _ _ _
   | exact LeO.none _
   | refine LeO.ite ?_ ?_
   | refine LeO.bind ?_ (fun _=>?_)
def impl_set_tidy.T4:Bool × List (List Nat × List Nat):=(true,[([],[]),([0],[0]),([1],[1]),([],[]),([3],[3]),([],[]),([4,5],[4,5]),([6,2],[6]),([2,7,0,1,2],[2]),([7,8,0,1,2,3,4,5,6,7,8],[7])])
def impl_set_tidy.B4:List Nat:=[0,1,3,0,8,0,56,127,255,511]
theorem impl_set_tidy.tab4:rtab .any (opsOf Try.f25 4) = impl_set_tidy.T4:=by kernel_rfl
theorem impl_set_tidy.bits4:waitsOk impl_set_tidy.T4.2 impl_set_tidy.B4 = true:=by kernel_rfl
def impl_set_tidy.T5:Bool × List (List Nat × List Nat):=(true,[([],[]),([0],[0]),([1],[1]),([2],[2]),([3],[3]),([3],[3]),([5,3],[3,5]),([6,3],[3,6]),([4,7,3],[3,4,7]),([8,3],[3,8]),([3],[3]),([3],[3]),([11,3],[3,11]),([10,12,3],[3,10,12]),([13,3],[3,13]),([9,14,3],[3,9,14]),([3,15],[3,15])])
def impl_set_tidy.B5:List Nat:=[0,1,3,7,15,15,47,111,255,511,15,15,2063,7183,15375,32767,65535]
theorem impl_set_tidy.tab5:rtab .any (opsOf Try.f25 5) = impl_set_tidy.T5:=by kernel_rfl
theorem impl_set_tidy.bits5:waitsOk impl_set_tidy.T5.2 impl_set_tidy.B5 = true:=by kernel_rfl
def impl_set_tidy.T7:Bool × List (List Nat × List Nat):=(true,[([],[]),([],[]),([1],[1]),([0,2],[0,2]),([3],[3]),([4],[4]),([],[]),([],[]),([7],[7]),([6,8],[6,8]),([5,9],[5,9]),([10,10,0,1,2,3,4,5,6,7,8,9,10],[0,6,10])])
def impl_set_tidy.B7:List Nat:=[0,0,2,7,15,31,0,0,128,448,1023,2047]
theorem impl_set_tidy.tab7:rtab .any (opsOf Try.f25 7) = impl_set_tidy.T7:=by kernel_rfl
theorem impl_set_tidy.bits7:waitsOk impl_set_tidy.T7.2 impl_set_tidy.B7 = true:=by kernel_rfl
set_option maxHeartbeats 8000000 in
set_option maxRecDepth 100000 in
theorem impl_set_tidy.calls (k:Nat) (A0_0:Option Addr) (c0_0:Nat) (l0_0:List Bool) (A0_1:Option Addr) (c0_1:Nat) (l0_1:List Bool) (r1:List Bool) (r2:List Bool) (w:World) (hr0_0:Kd.C Kd.bool w A0_0 l0_0.length l0_0) (hc0_0:l0_0.length≤c0_0) (hr0_1:Kd.C Kd.bool w A0_1 l0_1.length l0_1) (hc0_1:l0_1.length≤c0_1) (h:impl_set_tidy.f k l0_0 l0_1 = some (r1,r2)) :
  Calls Try.prog 25 #[.agg #[.slice A0_0 l0_0.length c0_0,.slice A0_1 l0_1.length c0_1]] w fun e w'=>∃ v0_ v1_:Value,e = .returned (.agg #[v0_,v1_])∧Kd.R Kd.bool 4 w' w.heap.size (fun k_=>some k_ ≠ (v1_:Value).ownBlock) v0_ r1∧Kd.R Kd.bool 4 w' w.heap.size (fun k_=>some k_ ≠ (v0_:Value).ownBlock) v1_ r2∧Below w.heap.size w w':=by
 have hu45:=Try.underlying45
 have HR0_0:=Aside0.mk hr0_0
 have HC0_0:=Aside0.mk hc0_0
 clear hr0_0 hc0_0
 have HR0_1:=Aside0.mk hr0_1
 have HC0_1:=Aside0.mk hc0_1
 clear hr0_1 hc0_1
 have HB:=Aside0.mk (Below.refl w.heap.size w)
 have H:(impl_set_tidy.l0 k 1 l0_0 l0_1) = some (r1,r2):=h
 clear h
 have H':=Aside0.mk H
 clear H
 go_enter Try.func25,Try.ntmps25
 go_wp2_with (first|((with_reducible refine gate_dst (N:=1) rfl ?_);(try (refine gate_guard (by rfl) ?_;dsimp only));refine box_event ?hg (N:=1) ?hd (cs:=#[.slice A0_0 l0_0.length c0_0,.slice A0_1 l0_1.length c0_1]) (t:=45) ?hr ?_;(case hd=>rfl);(case hg=>rfl);(case hr=>first|(go_simp;done)|(go_simp;rfl));intro gb177 hg w2 hbox hb;have n0_:=Aside0.mk (below_step (by repeat (first|(with_reducible first|exact HB.out|apply below_alloc|apply pw_below_drewN|apply below_drew1)|exact HB.out)) hb);have n1_:=Aside0.mk (hbox);have n2_:=Aside0.mk ((by rw [hg];exact (below_size (by repeat (first|(with_reducible first|exact HB.out|apply below_alloc|apply pw_below_drewN|apply below_drew1)|exact HB.out))):w.heap.size≤gb177));have n3_:=Aside0.mk ((by rw [hg];exact (below_size (by repeat (first|(with_reducible first|exact HB.out|apply below_alloc|apply pw_below_drewN|apply below_drew1)|exact HB.out))):w.heap.size≤gb177));clear HB;have HB:=n0_;have BK177:=n1_;have GW177:=n2_;have GE177:=n3_;clear n0_ n1_ n2_ n3_;clear hb hbox hg)|((with_reducible refine gate_dst (N:=2) rfl ?_);(try (refine gate_guard (by rfl) ?_;dsimp only));refine box_event ?hg (N:=2) ?hd (cs:=#[.slice none 0 0,.slice none 0 0]) (t:=45) ?hr ?_;(case hd=>rfl);(case hg=>rfl);(case hr=>first|(go_simp;done)|(go_simp;rfl));intro gb178 hg w3 hbox hb;have n0_:=Aside0.mk (blk_below (g:=gb177) (o:=.cells #[.slice A0_0 l0_0.length c0_0,.slice A0_1 l0_1.length c0_1] 45 (0,0)) (by (with_reducible repeat (first|refine blk_drewN ?_ _|refine blk_drew ?_|refine blk_alloc ?_ _));exact BK177.out) hb);have n1_:=Aside0.mk (below_step (by repeat (first|(with_reducible first|exact HB.out|apply below_alloc|apply pw_below_drewN|apply below_drew1|refine below_set ?_ GE177.out)|exact HB.out)) hb);have n2_:=Aside0.mk (hbox);have n3_:=Aside0.mk ((by rw [hg];exact (below_size (by repeat (first|(with_reducible first|exact HB.out|apply below_alloc|apply pw_below_drewN|apply below_drew1|refine below_set ?_ GE177.out)|exact HB.out))):w.heap.size≤gb178));have n4_:=Aside0.mk ((by rw [hg];exact (below_size (by repeat (first|(with_reducible first|exact HB.out|apply below_alloc|apply pw_below_drewN|apply below_drew1|refine below_set ?_ GE177.out)|exact HB.out))):w.heap.size≤gb178));have n5_:=Aside0.mk ((by rw [hg];exact Nat.ne_of_lt (blk_lt (g:=gb177) (o:=.cells #[.slice A0_0 l0_0.length c0_0,.slice A0_1 l0_1.length c0_1] 45 (0,0)) (by (with_reducible repeat (first|refine blk_drewN ?_ _|refine blk_drew ?_|refine blk_alloc ?_ _));exact BK177.out)):gb177 ≠ gb178));have n6_:=Aside0.mk ((by rw [hg];exact Nat.ne_of_gt (blk_lt (g:=gb177) (o:=.cells #[.slice A0_0 l0_0.length c0_0,.slice A0_1 l0_1.length c0_1] 45 (0,0)) (by (with_reducible repeat (first|refine blk_drewN ?_ _|refine blk_drew ?_|refine blk_alloc ?_ _));exact BK177.out)):gb178 ≠ gb177));clear BK177;clear HB;have BK177:=n0_;have HB:=n1_;have BK178:=n2_;have GW178:=n3_;have GE178:=n4_;have NB177_178:=n5_;have NB178_177:=n6_;clear n0_ n1_ n2_ n3_ n4_ n5_ n6_;clear hb hbox hg))
 go_loopg [3] k (fun kq v3 w'=>∃ (x3_1:Int),v3 = .int .i64 x3_1∧Aside0 (impl_set_tidy.l0 kq x3_1 l0_0 l0_1 = some (r1,r2))∧Aside0 (kq≤k)∧Aside0 (w'.heap[gb177]? = some (.cells #[(.slice A0_0 l0_0.length c0_0),(.slice A0_1 l0_1.length c0_1)] 45 (0,0)))∧Aside0 (w'.heap[gb178]? = some (.cells #[(.slice none 0 0),(.slice none 0 0)] 45 (0,0)))∧Aside0 (Below w.heap.size w w'))
 case atStart=>exact ⟨(1),(by first|rfl|(simp;done)|(simp [*];done)|(simp [Int.tmod_eq_emod_of_nonneg];done)),H',⟨Nat.le_refl _⟩,⟨by (with_reducible repeat (first|refine blk_drewN ?_ _|refine blk_drew ?_|refine blk_alloc ?_ _));exact BK177.out⟩,⟨by (with_reducible repeat (first|refine blk_drewN ?_ _|refine blk_drew ?_|refine blk_alloc ?_ _));exact BK178.out⟩,⟨by repeat (first|(with_reducible first|exact HB.out|apply below_alloc|apply pw_below_drewN|apply below_drew1|refine below_set ?_ GE177.out|refine below_set ?_ GE178.out)|exact HB.out)⟩⟩
 case round =>
  clear H'
  try clear c2
  try clear p2
  obtain ⟨x3_1,rfl,HA,HK1,BK177,BK178,HB⟩:=hrel
  cases gk with
  | zero=>exact absurd HA.out (by simp [impl_set_tidy.l0])
  | succ k1 =>
   have H:=HA.out
   clear HA
   simp only [impl_set_tidy.l0] at H
   replace H:=Option.bind_eq_some_iff.mp H
   obtain ⟨t179,A40,H⟩:=H
   replace H:(if t179 = true then ((slices_Clone_bool_bool.f l0_0).bind fun t180=>(if 0≤x3_1 then (if x3_1≤(l0_1.length:Int) then ((slices_Clone_bool_bool.f (l0_1.take (x3_1:Int).toNat)).bind fun t184=>(impl_set_tidy.l1 k1 x3_1 t180 t184)) else (none)) else (none))) else (impl_set_tidy.l0 k1 (wrap64 (x3_1 + 1)) l0_0 l0_1)) = some (r1,r2):=H
   have A4:=Aside0.mk A40
   clear A40
   by_cases c5:t179 = true
   ·subst c5
    have H1:((slices_Clone_bool_bool.f l0_0).bind fun t180=>(if 0≤x3_1 then (if x3_1≤(l0_1.length:Int) then ((slices_Clone_bool_bool.f (l0_1.take (x3_1:Int).toNat)).bind fun t184=>(impl_set_tidy.l1 k1 x3_1 t180 t184)) else (none)) else (none))) = some (r1,r2):=by rw [if_pos rfl] at H;exact H
    clear H
    have H:=H1
    clear H1
    replace H:=Option.bind_eq_some_iff.mp H
    obtain ⟨t180,A60,H⟩:=H
    replace H:(if 0≤x3_1 then (if x3_1≤(l0_1.length:Int) then ((slices_Clone_bool_bool.f (l0_1.take (x3_1:Int).toNat)).bind fun t184=>(impl_set_tidy.l1 k1 x3_1 t180 t184)) else (none)) else (none)) = some (r1,r2):=H
    have A6:=Aside0.mk A60
    clear A60
    by_cases c7:0≤x3_1
    ·rw [if_pos c7] at H
     have c7b0:=eq_true c7
     have c7b1:decide (0≤x3_1) = true:=decide_eq_true c7
     clear c7
     by_cases c8:x3_1≤(l0_1.length:Int)
     ·rw [if_pos c8] at H
      have c8b0:=eq_true c8
      have c8b1:decide (x3_1≤(l0_1.length:Int)) = true:=decide_eq_true c8
      clear c8
      replace H:=Option.bind_eq_some_iff.mp H
      obtain ⟨t184,A90,H⟩:=H
      replace H:(impl_set_tidy.l1 k1 x3_1 t180 t184) = some (r1,r2):=H
      have A9:=Aside0.mk A90
      clear A90
      have H':=Aside0.mk H
      clear H
      have hnb10:=NB177_178.out
      have hnc10:=NB178_177.out
      have hcz11_0:wr.cell? ⟨gb177,0,none⟩ = some (.slice A0_0 l0_0.length c0_0):=(blk_cell BK177.out 0).trans rfl
      have hcz11_1:wr.cell? ⟨gb177,1,none⟩ = some (.slice A0_1 l0_1.length c0_1):=(blk_cell BK177.out 1).trans rfl
      have hfz11_0:=blk_frozen BK177.out 0
      have hfz11_1:=blk_frozen BK177.out 1
      try go_wp2_with (first|((with_reducible refine gate_callee (f:=34) rfl ?_);refine goesL_ (some 9) rfl rfl Try.func34 (by kernel_rfl) rfl #[.slice A0_1 l0_1.length c0_1,.int .i64 x3_1] rfl (by (try simp only [List.map_toArray,List.map_cons,List.map_nil]);first|done|rfl|(simp only [List.length_drop,List.length_take];rfl)) ?_;(with_reducible refine (impl_turns.calls k1 _ _ l0_1 x3_1 true _ ?side1 ?side2 A4.out).mono ?_);(case side1=>repeat (first|exact (Kd.C_below HR0_1.out HB.out)|(with_reducible refine Kd.C_alloc ?_ _)|(with_reducible refine Kd.C_drewN ?_ _)|(with_reducible refine Kd.C_drew ?_)));(case side2=>exact HC0_1.out);rintro e w' ⟨rfl,⟨nd,rfl⟩⟩;refine ⟨_,rfl,?_⟩))
      (try (rw [drewN_self wr];generalize hq_:World.drewN wr _ = wr;have n0_:Aside0 (wr.heap[gb177]? = some (.cells #[.slice A0_0 l0_0.length c0_0,.slice A0_1 l0_1.length c0_1] 45 (0,0))):=⟨by rw [← hq_];exact (by (with_reducible repeat (first|refine blk_drewN ?_ _|refine blk_drew ?_|refine blk_alloc ?_ _));exact BK177.out)⟩;have n1_:Aside0 (wr.heap[gb178]? = some (.cells #[.slice none 0 0,.slice none 0 0] 45 (0,0))):=⟨by rw [← hq_];exact (by (with_reducible repeat (first|refine blk_drewN ?_ _|refine blk_drew ?_|refine blk_alloc ?_ _));exact BK178.out)⟩;have n2_:Aside0 (Below w.heap.size w wr):=⟨by rw [← hq_];exact (by repeat (first|(with_reducible first|exact HB.out|apply below_alloc|apply pw_below_drewN|apply below_drew1|refine below_set ?_ GE177.out|refine below_set ?_ GE178.out)|exact HB.out))⟩;clear BK177 BK178 HB hq_;have BK177:=n0_;have BK178:=n1_;have HB:=n2_;clear n0_ n1_ n2_))
      have n0_:=Aside0.mk (blk_drew BK177.out)
      have n1_:=Aside0.mk (blk_drew BK178.out)
      have n2_:=Aside0.mk (below_drew1 HB.out)
      clear BK177
      clear BK178
      clear HB
      have BK177:=n0_
      have BK178:=n1_
      have HB:=n2_
      clear n0_ n1_ n2_
      obtain ⟨i013,hi013,_,hsz13,_⟩:=info_parts info4
      obtain ⟨hcut13,hA13,hC13⟩:=print_take_of (P:=Try.prog) Value.bool false 40 4 .i64 Try.underlying40 hi013 hsz13 A0_1 c0_1 l0_1 x3_1 (of_decide_eq_true (by first|(with_reducible assumption)|assumption)) (of_decide_eq_true (by first|(with_reducible assumption)|assumption)) HC0_1.out
      have HR183:=Aside0.mk (Kd.C_of_reads (h1:=fun _=>rfl) (hA13 _ (Kd.reads_of_C HR0_1.out)))
      have HC183:=Aside0.mk hC13
      clear hA13 hC13 hi013 hsz13
      refine start_ (n:=10) (S:=fun w'=>w'.cell? ⟨gb177,0,none⟩ = some (.slice A0_0 l0_0.length c0_0)∧w'.cell? ⟨gb177,1,none⟩ = some (.slice A0_1 l0_1.length c0_1)) (ds:=[]) #[false,false,false,false,false,false,false,false,false,false] (by kernel_rfl) rfl rfl ⟨(blk_cell BK177.out 0).trans rfl,(blk_cell BK177.out 1).trans rfl⟩ (fun hHeld=>?_);refine with_tabW impl_set_tidy.tab4 impl_set_tidy.bits4 (fun HT_ HW_=>?_)
      generalize wr.drew = w12 at BK177 BK178 HB HR183 hHeld ⊢
      refine pure_ (i:=0) (N:=some 13) (v:=?_) (a':=?_) #[true,false,false,false,false,false,false,false,false,false] rfl rfl (any_of HT_.out (by kernel_rfl)) (fun _ _ _ h=>h) (Or.inl ⟨by rfl,?_⟩) ?_ ?_
      rotate_left
      ·intro w'
       go_simp
       with_reducible rfl
      rotate_left
      ·simp only [Act.put,List.setIfInBounds_toArray,List.set_cons_zero,List.set_cons_succ,i64_w,i32_w]
       rfl
      refine pure_ (i:=3) (N:=some 16) (v:=?_) (a':=?_) #[true,false,false,true,false,false,false,false,false,false] rfl rfl (any_of HT_.out (by kernel_rfl)) (fun _ _ _ h=>h) (Or.inl ⟨by rfl,?_⟩) ?_ ?_
      rotate_left
      ·intro w'
       go_simp
       with_reducible rfl
      rotate_left
      ·simp only [Act.put,List.setIfInBounds_toArray,List.set_cons_zero,List.set_cons_succ,i64_w,i32_w]
       rfl
      refine pure_ (i:=5) (N:=some 18) (v:=?_) (a':=?_) #[true,false,false,true,false,true,false,false,false,false] rfl rfl (any_of HT_.out (by kernel_rfl)) (fun _ _ _ h=>h) (Or.inl ⟨by rfl,?_⟩) ?_ ?_
      rotate_left
      ·intro w'
       go_simp
       with_reducible rfl
      rotate_left
      ·simp only [Act.put,List.setIfInBounds_toArray,List.set_cons_zero,List.set_cons_succ,i64_w,i32_w]
       rfl
      refine take_ (i:=1) (N:=some 14) (v:=?_) (a':=?_) #[true,true,false,true,false,true,false,false,false,false] rfl rfl (take_ofW HT_.out HW_.out (by kernel_rfl)) (fun _ _ _ h=>h) (Or.inl ⟨by rfl,?_⟩) hHeld ?_ ?_
      rotate_left
      ·rintro w' ⟨s0,s1⟩
       go_simp
       with_reducible rfl
      rotate_left
      ·simp only [Act.put,List.setIfInBounds_toArray,List.set_cons_zero,List.set_cons_succ,i64_w,i32_w]
       rfl
      refine take_ (i:=4) (N:=some 17) (v:=?_) (a':=?_) #[true,true,false,true,true,true,false,false,false,false] rfl rfl (take_ofW HT_.out HW_.out (by kernel_rfl)) (fun _ _ _ h=>h) (Or.inl ⟨by rfl,?_⟩) hHeld ?_ ?_
      rotate_left
      ·rintro w' ⟨s0,s1⟩
       go_simp
       with_reducible rfl
      rotate_left
      ·simp only [Act.put,List.setIfInBounds_toArray,List.set_cons_zero,List.set_cons_succ,i64_w,i32_w]
       rfl
      refine pure_ (i:=6) (N:=some 19) (v:=?_) (a':=?_) #[true,true,false,true,true,true,true,false,false,false] rfl rfl (any_of HT_.out (by kernel_rfl)) (fun _ _ _ h=>h) (Or.inl ⟨by rfl,?_⟩) ?_ ?_
      rotate_left
      ·intro w'
       go_simp
       with_reducible rfl
      rotate_left
      ·simp only [Act.put,List.setIfInBounds_toArray,List.set_cons_zero,List.set_cons_succ,i64_w,i32_w]
       rfl
      refine one_ (i:=2) (N:=some 15) #[true,true,true,true,true,true,true,false,false,false] rfl rfl (one_of HT_.out (by kernel_rfl)) (by decide) (fun K hK=>?_)
      refine goes_ Try.func35 (by kernel_rfl) rfl #[.slice A0_0 l0_0.length c0_0] (by rfl) rfl rfl (by (try simp only [List.map_toArray,List.map_cons,List.map_nil]);first|done|rfl|(simp only [List.length_drop,List.length_take];rfl)) ?_
      with_reducible refine (slices_Clone_bool_bool.calls _ _ l0_0 t180 _ ?side1 ?side2 A6.out).mono ?_
      (case side1=>repeat (first|exact (Kd.C_below HR0_0.out HB.out)|(with_reducible refine Kd.C_alloc ?_ _)|(with_reducible refine Kd.C_drewN ?_ _)|(with_reducible refine Kd.C_drew ?_)))
      (case side2=>exact HC0_0.out)
      rintro e w14 ⟨v181,rfl,ho0,hb⟩
      refine ⟨_,rfl,?_⟩
      have n0_:=Aside0.mk (Kd.R_lower ho0 (below_size (by repeat (first|(with_reducible first|exact HB.out|apply below_alloc|apply pw_below_drewN|apply below_drew1|refine below_set ?_ GE177.out|refine below_set ?_ GE178.out)|exact HB.out))))
      have n1_:=Aside0.mk (blk_below (g:=gb177) (o:=.cells #[.slice A0_0 l0_0.length c0_0,.slice A0_1 l0_1.length c0_1] 45 (0,0)) (by (with_reducible repeat (first|refine blk_drewN ?_ _|refine blk_drew ?_|refine blk_alloc ?_ _));exact BK177.out) hb)
      have n2_:=Aside0.mk (blk_below (g:=gb178) (o:=.cells #[.slice none 0 0,.slice none 0 0] 45 (0,0)) (by (with_reducible repeat (first|refine blk_drewN ?_ _|refine blk_drew ?_|refine blk_alloc ?_ _));exact BK178.out) hb)
      have n3_:=Aside0.mk (below_step (by repeat (first|(with_reducible first|exact HB.out|apply below_alloc|apply pw_below_drewN|apply below_drew1|refine below_set ?_ GE177.out|refine below_set ?_ GE178.out)|exact HB.out)) hb)
      clear BK177
      clear BK178
      clear HB
      have HO182:=n0_
      have BK177:=n1_
      have BK178:=n2_
      have HB:=n3_
      clear n0_ n1_ n2_ n3_
      (try clear hb)
      (try clear hb2)
      (try clear hk)
      (try clear hi)
      (try clear ho0)
      refine hK.out _ _ ⟨(blk_cell BK177.out 0).trans rfl,(blk_cell BK177.out 1).trans rfl⟩ (fun hHeld=>?_)
      clear hK K
      refine norm_ (a':=?_) ?_ ?_
      rotate_left
      ·show Act.put _ (some 15) _ = _
       simp only [Act.put,List.setIfInBounds_toArray,List.set_cons_zero,List.set_cons_succ,i64_w,i32_w]
       rfl
      refine one_ (i:=7) (N:=some 20) #[true,true,true,true,true,true,true,true,false,false] rfl rfl (one_of HT_.out (by kernel_rfl)) (by decide) (fun K hK=>?_)
      refine goes_ Try.func35 (by kernel_rfl) rfl #[.slice A0_1 (l0_1.take (x3_1:Int).toNat).length c0_1] (by rfl) rfl rfl (by (try simp only [List.map_toArray,List.map_cons,List.map_nil]);first|done|(rw [show (l0_1.take (x3_1:Int).toNat).length = x3_1.toNat from (by rw [List.length_take];have h_:(x3_1:Int)≤(l0_1.length:Int):=of_decide_eq_true (by first|(with_reducible assumption)|assumption);omega)] <;> rfl)|rfl|(simp only [List.length_drop,List.length_take];rfl)) ?_
      with_reducible refine (slices_Clone_bool_bool.calls _ _ (l0_1.take (x3_1:Int).toNat) t184 _ ?side1 ?side2 A9.out).mono ?_
      (case side1=>repeat (first|exact (Kd.C_below HR183.out HB.out)|(with_reducible refine Kd.C_alloc ?_ _)|(with_reducible refine Kd.C_drewN ?_ _)|(with_reducible refine Kd.C_drew ?_)))
      (case side2=>exact HC183.out)
      rintro e w15 ⟨v185,rfl,ho0,hb⟩
      refine ⟨_,rfl,?_⟩
      have n0_:=Aside0.mk (Kd.R_elder' (by (with_reducible repeat (first|apply Kd.R_alloc|apply Kd.R_drewN|apply Kd.R_drew));exact HO182.out) (Kd.R_base ho0) hb)
      have n1_:=Aside0.mk (Kd.R_lower (Kd.R_new' ho0 (Kd.R_lt (by (with_reducible repeat (first|apply Kd.R_alloc|apply Kd.R_drewN|apply Kd.R_drew));exact HO182.out))) (below_size (by repeat (first|(with_reducible first|exact HB.out|apply below_alloc|apply pw_below_drewN|apply below_drew1|refine below_set ?_ GE177.out|refine below_set ?_ GE178.out)|exact HB.out))))
      have n2_:=Aside0.mk (blk_below (g:=gb177) (o:=.cells #[.slice A0_0 l0_0.length c0_0,.slice A0_1 l0_1.length c0_1] 45 (0,0)) (by (with_reducible repeat (first|refine blk_drewN ?_ _|refine blk_drew ?_|refine blk_alloc ?_ _));exact BK177.out) hb)
      have n3_:=Aside0.mk (blk_below (g:=gb178) (o:=.cells #[.slice none 0 0,.slice none 0 0] 45 (0,0)) (by (with_reducible repeat (first|refine blk_drewN ?_ _|refine blk_drew ?_|refine blk_alloc ?_ _));exact BK178.out) hb)
      have n4_:=Aside0.mk (below_step (by repeat (first|(with_reducible first|exact HB.out|apply below_alloc|apply pw_below_drewN|apply below_drew1|refine below_set ?_ GE177.out|refine below_set ?_ GE178.out)|exact HB.out)) hb)
      clear HO182
      clear BK177
      clear BK178
      clear HB
      have HO182:=n0_
      have HO186:=n1_
      have BK177:=n2_
      have BK178:=n3_
      have HB:=n4_
      clear n0_ n1_ n2_ n3_ n4_
      (try clear hb)
      (try clear hb2)
      (try clear hk)
      (try clear hi)
      (try clear ho0)
      refine hK.out _ _ ⟨(blk_cell BK177.out 0).trans rfl,(blk_cell BK177.out 1).trans rfl⟩ (fun hHeld=>?_)
      clear hK K
      refine norm_ (a':=?_) ?_ ?_
      rotate_left
      ·show Act.put _ (some 20) _ = _
       simp only [Act.put,List.setIfInBounds_toArray,List.set_cons_zero,List.set_cons_succ,i64_w,i32_w]
       rfl
      refine pure_ (i:=8) (N:=some 4) (v:=?_) (a':=?_) #[true,true,true,true,true,true,true,true,true,false] rfl rfl (any_of HT_.out (by kernel_rfl)) (fun _ _ _ h=>h) (Or.inl ⟨by rfl,?_⟩) ?_ ?_
      rotate_left
      ·intro w'
       go_simp
       with_reducible rfl
      rotate_left
      ·simp only [Act.put,List.setIfInBounds_toArray,List.set_cons_zero,List.set_cons_succ,i64_w,i32_w]
       rfl
      refine pure_ (i:=9) (N:=some 5) (v:=?_) (a':=?_) #[true,true,true,true,true,true,true,true,true,true] rfl rfl (any_of HT_.out (by kernel_rfl)) (fun _ _ _ h=>h) (Or.inl ⟨by rfl,?_⟩) ?_ ?_
      rotate_left
      ·intro w'
       go_simp
       with_reducible rfl
      rotate_left
      ·simp only [Act.put,List.setIfInBounds_toArray,List.set_cons_zero,List.set_cons_succ,i64_w,i32_w]
       rfl
      refine done_ (done_of HT_.out (by kernel_rfl)) ?_
      try go_wp2
      go_loopg [4,5] k1 (fun kq v4 v5 w'=>∃ (x4_2:List Bool) (x5_2:List Bool),Aside0 (impl_set_tidy.l1 kq x3_1 x4_2 x5_2 = some (r1,r2))∧Aside0 (kq≤k1)∧Aside0 (Kd.R Kd.bool 4 w' w.heap.size (fun k_=>some k_ ≠ (v5:Value).ownBlock) v4 x4_2)∧Aside0 (Kd.R Kd.bool 4 w' w.heap.size (fun k_=>some k_ ≠ (v4:Value).ownBlock) v5 x5_2)∧Aside0 (w'.heap[gb177]? = some (.cells #[(.slice A0_0 l0_0.length c0_0),(.slice A0_1 l0_1.length c0_1)] 45 (0,0)))∧Aside0 (w'.heap[gb178]? = some (.cells #[(.slice none 0 0),(.slice none 0 0)] 45 (0,0)))∧Aside0 (Below w.heap.size w w'))
      case atStart=>exact ⟨(t180),(t184),H',⟨Nat.le_refl _⟩,⟨by (with_reducible repeat (first|apply Kd.R_alloc|apply Kd.R_drewN|apply Kd.R_drew));exact Kd.R_mono HO182.out (fun _ hk=>hk.2)⟩,⟨by (with_reducible repeat (first|apply Kd.R_alloc|apply Kd.R_drewN|apply Kd.R_drew));exact Kd.R_mono HO186.out (fun _ hk=>hk.2)⟩,⟨by (with_reducible repeat (first|refine blk_drewN ?_ _|refine blk_drew ?_|refine blk_alloc ?_ _));exact BK177.out⟩,⟨by (with_reducible repeat (first|refine blk_drewN ?_ _|refine blk_drew ?_|refine blk_alloc ?_ _));exact BK178.out⟩,⟨by repeat (first|(with_reducible first|exact HB.out|apply below_alloc|apply pw_below_drewN|apply below_drew1|refine below_set ?_ GE177.out|refine below_set ?_ GE178.out)|exact HB.out)⟩⟩
      case round =>
       clear H'
       try clear c1
       try clear c2
       try clear p2
       try clear c3
       try clear c5
       try clear p6
       try clear c7
       try clear c7b0
       try clear c7b1
       try clear c8
       try clear c8b0
       try clear c8b1
       try clear c10
       try clear hcz11_0
       try clear hcz11_1
       try clear hfz11_0
       try clear hfz11_1
       try clear p2
       obtain ⟨x4_2,x5_2,HA,HK2,HO_4,HO_5,BK177,BK178,HB⟩:=hrel
       cases gk with
       | zero=>exact absurd HA.out (by simp [impl_set_tidy.l1])
       | succ k2 =>
        have H:=HA.out
        clear HA
        simp only [impl_set_tidy.l1] at H
        by_cases c16:(x4_2.length:Int) > 0
        ·rw [if_pos c16] at H
         have c16b0:decide (0 < (x4_2.length:Int)) = true:=decide_eq_true c16
         have c16b1:decide (0 < x4_2.length) = true:=decide_eq_true (by omega)
         clear c16
         obtain ⟨ji17,hji17⟩:∃ j_:Int,(wrap64 ((x4_2.length:Int) - 1)) = j_:=⟨_,rfl⟩
         replace H:(if 0≤(ji17) then (if (ji17) < (x4_2.length:Int) then (if 0≤(wrap64 (x3_1 - 1)) then (if (wrap64 (x3_1 - 1)) < (x5_2.length:Int) then (if ((rdOf false x4_2 (ji17)) == (rdOf false x5_2 (wrap64 (x3_1 - 1)))) = true then (if (ji17)≤(x4_2.length:Int) then ((some (([rdOf false x5_2 (wrap64 (x3_1 - 1))]:List Bool):List Bool)).bind fun y193=>(if (wrap64 (x3_1 - 1))≤(x5_2.length:Int) then ((some (x5_2.take ((wrap64 (x3_1 - 1)):Int).toNat:List Bool)).bind fun y196=>(if y193.length + y196.length < 140737488355328 then (impl_set_tidy.l1 k2 x3_1 (x4_2.take ((ji17):Int).toNat) (y193 ++ y196)) else (none))) else (none))) else (none)) else (some (x4_2,x5_2))) else (none)) else (none)) else (none)) else (none)) = some (r1,r2):=by first|(rw [hji17] at H;exact H)|(simp only [hji17] at H ⊢;exact H)
         have hji17w:(IntKind.i64.wrap ((x4_2.length:Int) - 1)) = ji17:=(i64_w _).trans hji17
         by_cases c18:0≤(ji17)
         ·rw [if_pos c18] at H
          have c18b0:decide (0≤(ji17)) = true:=decide_eq_true c18
          clear c18
          by_cases c19:(ji17) < (x4_2.length:Int)
          ·rw [if_pos c19] at H
           have c19b0:decide ((ji17) < (x4_2.length:Int)) = true:=decide_eq_true c19
           clear c19
           obtain ⟨ji20,hji20⟩:∃ j_:Int,(wrap64 (x3_1 - 1)) = j_:=⟨_,rfl⟩
           replace H:(if 0≤(ji20) then (if (ji20) < (x5_2.length:Int) then (if ((rdOf false x4_2 (ji17)) == (rdOf false x5_2 (ji20))) = true then (if (ji17)≤(x4_2.length:Int) then ((some (([rdOf false x5_2 (ji20)]:List Bool):List Bool)).bind fun y193=>(if (ji20)≤(x5_2.length:Int) then ((some (x5_2.take ((ji20):Int).toNat:List Bool)).bind fun y196=>(if y193.length + y196.length < 140737488355328 then (impl_set_tidy.l1 k2 x3_1 (x4_2.take ((ji17):Int).toNat) (y193 ++ y196)) else (none))) else (none))) else (none)) else (some (x4_2,x5_2))) else (none)) else (none)) = some (r1,r2):=by first|(rw [hji20] at H;exact H)|(simp only [hji20] at H ⊢;exact H)
           have hji20w:(IntKind.i64.wrap (x3_1 - 1)) = ji20:=(i64_w _).trans hji20
           by_cases c21:0≤(ji20)
           ·rw [if_pos c21] at H
            have c21b0:decide (0≤(ji20)) = true:=decide_eq_true c21
            clear c21
            by_cases c22:(ji20) < (x5_2.length:Int)
            ·rw [if_pos c22] at H
             have c22b0:decide ((ji20) < (x5_2.length:Int)) = true:=decide_eq_true c22
             clear c22
             by_cases c23:((rdOf false x4_2 (ji17)) == (rdOf false x5_2 (ji20))) = true
             ·rw [if_pos c23] at H
              have c23b0:((rdOf false x4_2 (ji17)) == (rdOf false x5_2 (ji20))) = true:=c23
              (try (have c23b1:decide ((rdOf false x4_2 (ji17)) = (rdOf false x5_2 (ji20))) = true:=by simpa using c23))
              (try (have c23b2:((rdOf false x4_2 (ji17)) == (rdOf false x5_2 (ji20))) = true:=by simpa using c23))
              clear c23
              by_cases c24:(ji17)≤(x4_2.length:Int)
              ·rw [if_pos c24] at H
               have c24b0:=eq_true c24
               have c24b1:decide ((ji17)≤(x4_2.length:Int)) = true:=decide_eq_true c24
               clear c24
               obtain ⟨y189,hy189⟩:∃ y_:List Bool,y_ = (x4_2.take ((ji17):Int).toNat):=⟨_,rfl⟩
               replace H:((some (([rdOf false x5_2 (ji20)]:List Bool):List Bool)).bind fun y193=>(if (ji20)≤(x5_2.length:Int) then ((some (x5_2.take ((ji20):Int).toNat:List Bool)).bind fun y196=>(if y193.length + y196.length < 140737488355328 then (impl_set_tidy.l1 k2 x3_1 y189 (y193 ++ y196)) else (none))) else (none))) = some (r1,r2):=by first|(rw [hy189];with_reducible exact H)|(have H2_:=(Option.bind_some _ _).symm.trans H;rw [hy189];with_reducible exact H2_)|(have H2_:=(Option.bind_some _ _).symm.trans H;with_reducible exact H2_)|with_reducible exact H|(rw [hy189];exact H)|exact H
               have Ny189:=Aside0.mk hy189
               clear hy189
               obtain ⟨y193,hy193⟩:∃ y_:List Bool,y_ = (([rdOf false x5_2 (ji20)]:List Bool)):=⟨_,rfl⟩
               replace H:(if (ji20)≤(x5_2.length:Int) then ((some (x5_2.take ((ji20):Int).toNat:List Bool)).bind fun y196=>(if y193.length + y196.length < 140737488355328 then (impl_set_tidy.l1 k2 x3_1 y189 (y193 ++ y196)) else (none))) else (none)) = some (r1,r2):=by first|(rw [hy193];with_reducible exact H)|(have H2_:=(Option.bind_some _ _).symm.trans H;rw [hy193];with_reducible exact H2_)|(have H2_:=(Option.bind_some _ _).symm.trans H;with_reducible exact H2_)|with_reducible exact H|(rw [hy193];exact H)|exact H
               have Ny193:=Aside0.mk hy193
               clear hy193
               have c25b0:=eq_true (of_decide_eq_true (by first|(with_reducible assumption)|assumption):0≤(ji20))
               by_cases c26:(ji20)≤(x5_2.length:Int)
               ·rw [if_pos c26] at H
                have c26b0:=eq_true c26
                have c26b1:decide ((ji20)≤(x5_2.length:Int)) = true:=decide_eq_true c26
                clear c26
                obtain ⟨y196,hy196⟩:∃ y_:List Bool,y_ = (x5_2.take ((ji20):Int).toNat):=⟨_,rfl⟩
                replace H:(if y193.length + y196.length < 140737488355328 then (impl_set_tidy.l1 k2 x3_1 y189 (y193 ++ y196)) else (none)) = some (r1,r2):=by first|(rw [hy196];with_reducible exact H)|(have H2_:=(Option.bind_some _ _).symm.trans H;rw [hy196];with_reducible exact H2_)|(have H2_:=(Option.bind_some _ _).symm.trans H;with_reducible exact H2_)|with_reducible exact H|(rw [hy196];exact H)|exact H
                have Ny196:=Aside0.mk hy196
                clear hy196
                by_cases c27:y193.length + y196.length < 140737488355328
                ·rw [if_pos c27] at H
                 have LMc27:=Aside0.mk c27
                 clear c27
                 obtain ⟨y200,hy200⟩:∃ y_:List Bool,y_ = (y193 ++ y196):=⟨_,rfl⟩
                 replace H:(impl_set_tidy.l1 k2 x3_1 y189 y200) = some (r1,r2):=by first|(rw [hy200];with_reducible exact H)|(have H2_:=(Option.bind_some _ _).symm.trans H;rw [hy200];with_reducible exact H2_)|(have H2_:=(Option.bind_some _ _).symm.trans H;with_reducible exact H2_)|with_reducible exact H|(rw [hy200];exact H)|exact H
                 have Ny200:=Aside0.mk hy200
                 clear hy200
                 have H':=Aside0.mk H
                 clear H
                 try go_wp2
                 have n0_:=Aside0.mk (Kd.R_drew HO_4.out)
                 have n1_:=Aside0.mk (Kd.R_drew HO_5.out)
                 have n2_:=Aside0.mk (blk_drew BK177.out)
                 have n3_:=Aside0.mk (blk_drew BK178.out)
                 have n4_:=Aside0.mk (below_drew1 HB.out)
                 clear HO_4
                 clear HO_5
                 clear BK177
                 clear BK178
                 clear HB
                 have HO_4:=n0_
                 have HO_5:=n1_
                 have BK177:=n2_
                 have BK178:=n3_
                 have HB:=n4_
                 clear n0_ n1_ n2_ n3_ n4_
                 obtain ⟨Ao29,co29,eo29⟩:=Kd.R_slice HO_4.out
                 (first|subst eo29|(injection eo29 with f1_ f2_ f3_;have f4_:=f1_.symm;have f5_:=f3_.symm;clear f1_ f2_ f3_;subst f4_;subst f5_))
                 have p187:0≤((ji17):Int):=of_decide_eq_true (by first|(with_reducible assumption)|assumption)
                 have q187:(ji17) < (x4_2.length:Int):=of_decide_eq_true (by first|(with_reducible assumption)|assumption)
                 obtain ⟨ad187,e187,hx187_0⟩:=Kd.at_bool (Kd.R_reads' HO_4.out).2.2 (ji17) p187 q187
                 cases e187
                 replace p187:=eq_true p187
                 replace q187:=eq_true q187
                 obtain ⟨Ao30,co30,eo30⟩:=Kd.R_slice HO_5.out
                 (first|subst eo30|(injection eo30 with f1_ f2_ f3_;have f4_:=f1_.symm;have f5_:=f3_.symm;clear f1_ f2_ f3_;subst f4_;subst f5_))
                 have p188:0≤((ji20):Int):=of_decide_eq_true (by first|(with_reducible assumption)|assumption)
                 have q188:(ji20) < (x5_2.length:Int):=of_decide_eq_true (by first|(with_reducible assumption)|assumption)
                 obtain ⟨ad188,e188,hx188_0⟩:=Kd.at_bool (Kd.R_reads' HO_5.out).2.2 (ji20) p188 q188
                 cases e188
                 replace p188:=eq_true p188
                 replace q188:=eq_true q188
                 refine start_ (n:=17) (S:=fun w'=>w'.cell? (ad187.add ((ji17)).toNat) = some (.bool (rdOf false x4_2 (ji17)))∧w'.cell? (ad188.add ((ji20)).toNat) = some (.bool (rdOf false x5_2 (ji20)))) (ds:=[]) #[false,false,false,false,false,false,false,false,false,false,false,false,false,false,false,false,false] (by kernel_rfl) rfl rfl ⟨hx187_0,hx188_0⟩ (fun hHeld=>?_);refine with_tabW impl_set_tidy.tab5 impl_set_tidy.bits5 (fun HT_ HW_=>?_)
                 generalize wr.drew = w28 at HO_4 HO_5 BK177 BK178 HB hx187_0 hx188_0 hHeld ⊢
                 refine pure_ (i:=0) (N:=some 21) (v:=?_) (a':=?_) #[true,false,false,false,false,false,false,false,false,false,false,false,false,false,false,false,false] rfl rfl (any_of HT_.out (by kernel_rfl)) (fun _ _ _ h=>h) (Or.inl ⟨by rfl,?_⟩) ?_ ?_
                 rotate_left
                 ·intro w'
                  go_simp
                  with_reducible rfl
                 rotate_left
                 ·simp only [Act.put,List.setIfInBounds_toArray,List.set_cons_zero,List.set_cons_succ,i64_w,i32_w]
                  rfl
                 refine pure_ (i:=1) (N:=some 22) (v:=?_) (a':=?_) #[true,true,false,false,false,false,false,false,false,false,false,false,false,false,false,false,false] rfl rfl (any_of HT_.out (by kernel_rfl)) (fun _ _ _ h=>h) (Or.inl ⟨by rfl,?_⟩) ?_ ?_
                 rotate_left
                 ·intro w'
                  go_simp
                  with_reducible rfl
                 rotate_left
                 ·simp only [Act.put,List.setIfInBounds_toArray,List.set_cons_zero,List.set_cons_succ,i64_w,i32_w]
                  rfl
                 refine pure_ (i:=2) (N:=some 23) (v:=?_) (a':=?_) #[true,true,true,false,false,false,false,false,false,false,false,false,false,false,false,false,false] rfl rfl (any_of HT_.out (by kernel_rfl)) (fun _ _ _ h=>h) (Or.inl ⟨by rfl,?_⟩) ?_ ?_
                 rotate_left
                 ·intro w'
                  go_simp
                  with_reducible rfl
                 rotate_left
                 ·simp only [Act.put,List.setIfInBounds_toArray,List.set_cons_zero,List.set_cons_succ,i64_w,i32_w]
                  rfl
                 refine pure_ (i:=3) (N:=some 24) (v:=?_) (a':=?_) #[true,true,true,true,false,false,false,false,false,false,false,false,false,false,false,false,false] rfl rfl (any_of HT_.out (by kernel_rfl)) (fun _ _ _ h=>h) (Or.inl ⟨by rfl,?_⟩) ?_ ?_
                 rotate_left
                 ·intro w'
                  go_simp
                  with_reducible rfl
                 rotate_left
                 ·simp only [Act.put,List.setIfInBounds_toArray,List.set_cons_zero,List.set_cons_succ,i64_w,i32_w]
                  rfl
                 refine pure_ (i:=4) (N:=some 25) (v:=?_) (a':=?_) #[true,true,true,true,true,false,false,false,false,false,false,false,false,false,false,false,false] rfl rfl (any_of HT_.out (by kernel_rfl)) (fun _ _ _ h=>h) (Or.inl ⟨by rfl,?_⟩) ?_ ?_
                 rotate_left
                 ·intro w'
                  go_simp
                  with_reducible rfl
                 rotate_left
                 ·simp only [Act.put,List.setIfInBounds_toArray,List.set_cons_zero,List.set_cons_succ,i64_w,i32_w]
                  rfl
                 refine pure_ (i:=5) (N:=some 26) (v:=?_) (a':=?_) #[true,true,true,true,true,true,false,false,false,false,false,false,false,false,false,false,false] rfl rfl (any_of HT_.out (by kernel_rfl)) (fun _ _ _ h=>h) (Or.inl ⟨by rfl,?_⟩) ?_ ?_
                 rotate_left
                 ·intro w'
                  go_simp
                  with_reducible rfl
                 rotate_left
                 ·simp only [Act.put,List.setIfInBounds_toArray,List.set_cons_zero,List.set_cons_succ,i64_w,i32_w]
                  rfl
                 refine pure_ (i:=6) (N:=some 27) (v:=?_) (a':=?_) #[true,true,true,true,true,true,true,false,false,false,false,false,false,false,false,false,false] rfl rfl (any_of HT_.out (by kernel_rfl)) (fun _ _ _ h=>h) (Or.inl ⟨by rfl,?_⟩) ?_ ?_
                 rotate_left
                 ·intro w'
                  go_simp
                  with_reducible rfl
                 rotate_left
                 ·simp only [Act.put,List.setIfInBounds_toArray,List.set_cons_zero,List.set_cons_succ,i64_w,i32_w]
                  rfl
                 refine pure_ (i:=7) (N:=some 28) (v:=?_) (a':=?_) #[true,true,true,true,true,true,true,true,false,false,false,false,false,false,false,false,false] rfl rfl (any_of HT_.out (by kernel_rfl)) (fun _ _ _ h=>h) (Or.inl ⟨by rfl,?_⟩) ?_ ?_
                 rotate_left
                 ·intro w'
                  go_simp
                  with_reducible rfl
                 rotate_left
                 ·simp only [Act.put,List.setIfInBounds_toArray,List.set_cons_zero,List.set_cons_succ,i64_w,i32_w]
                  rfl
                 refine pure_ (i:=8) (N:=some 29) (v:=?_) (a':=?_) #[true,true,true,true,true,true,true,true,true,false,false,false,false,false,false,false,false] rfl rfl (any_of HT_.out (by kernel_rfl)) (fun _ _ _ h=>h) (Or.inl ⟨by rfl,?_⟩) ?_ ?_
                 rotate_left
                 ·intro w'
                  go_simp
                  with_reducible rfl
                 rotate_left
                 ·simp only [Act.put,List.setIfInBounds_toArray,List.set_cons_zero,List.set_cons_succ,i64_w,i32_w]
                  rfl
                 refine pure_ (i:=10) (N:=some 31) (v:=?_) (a':=?_) #[true,true,true,true,true,true,true,true,true,false,true,false,false,false,false,false,false] rfl rfl (any_of HT_.out (by kernel_rfl)) (fun _ _ _ h=>h) (Or.inl ⟨by rfl,?_⟩) ?_ ?_
                 rotate_left
                 ·intro w'
                  go_simp
                  with_reducible rfl
                 rotate_left
                 ·simp only [Act.put,List.setIfInBounds_toArray,List.set_cons_zero,List.set_cons_succ,i64_w,i32_w]
                  rfl
                 refine pure_ (i:=11) (N:=some 32) (v:=?_) (a':=?_) #[true,true,true,true,true,true,true,true,true,false,true,true,false,false,false,false,false] rfl rfl (any_of HT_.out (by kernel_rfl)) (fun _ _ _ h=>h) (Or.inl ⟨by rfl,?_⟩) ?_ ?_
                 rotate_left
                 ·intro w'
                  go_simp
                  with_reducible rfl
                 rotate_left
                 ·simp only [Act.put,List.setIfInBounds_toArray,List.set_cons_zero,List.set_cons_succ,i64_w,i32_w]
                  rfl
                 refine pure_ (i:=12) (N:=some 33) (v:=?_) (a':=?_) #[true,true,true,true,true,true,true,true,true,false,true,true,true,false,false,false,false] rfl rfl (any_of HT_.out (by kernel_rfl)) (fun _ _ _ h=>h) (Or.inl ⟨by rfl,?_⟩) ?_ ?_
                 rotate_left
                 ·intro w'
                  go_simp
                  with_reducible rfl
                 rotate_left
                 ·simp only [Act.put,List.setIfInBounds_toArray,List.set_cons_zero,List.set_cons_succ,i64_w,i32_w]
                  rfl
                 refine pure_ (i:=13) (N:=some 34) (v:=?_) (a':=?_) #[true,true,true,true,true,true,true,true,true,false,true,true,true,true,false,false,false] rfl rfl (any_of HT_.out (by kernel_rfl)) (fun _ _ _ h=>h) (Or.inl ⟨by rfl,?_⟩) ?_ ?_
                 rotate_left
                 ·intro w'
                  go_simp
                  with_reducible rfl
                 rotate_left
                 ·simp only [Act.put,List.setIfInBounds_toArray,List.set_cons_zero,List.set_cons_succ,i64_w,i32_w]
                  rfl
                 refine take_ (i:=9) (N:=some 30) (v:=?_) (a':=?_) #[true,true,true,true,true,true,true,true,true,true,true,true,true,true,false,false,false] rfl rfl (take_ofW HT_.out HW_.out (by kernel_rfl)) (fun _ _ _ h=>h) (Or.inl ⟨by rfl,?_⟩) hHeld ?_ ?_
                 rotate_left
                 ·rintro w' ⟨s0,s1⟩
                  go_simp
                  with_reducible rfl
                 rotate_left
                 ·simp only [Act.put,List.setIfInBounds_toArray,List.set_cons_zero,List.set_cons_succ,i64_w,i32_w]
                  rfl
                 refine take_ (i:=14) (N:=some 35) (v:=?_) (a':=?_) #[true,true,true,true,true,true,true,true,true,true,true,true,true,true,true,false,false] rfl rfl (take_ofW HT_.out HW_.out (by kernel_rfl)) (fun _ _ _ h=>h) (Or.inl ⟨by rfl,?_⟩) hHeld ?_ ?_
                 rotate_left
                 ·rintro w' ⟨s0,s1⟩
                  go_simp
                  with_reducible rfl
                 rotate_left
                 ·simp only [Act.put,List.setIfInBounds_toArray,List.set_cons_zero,List.set_cons_succ,i64_w,i32_w]
                  rfl
                 refine pure_ (i:=15) (N:=some 36) (v:=?_) (a':=?_) #[true,true,true,true,true,true,true,true,true,true,true,true,true,true,true,true,false] rfl rfl (any_of HT_.out (by kernel_rfl)) (fun _ _ _ h=>h) (Or.inl ⟨by rfl,?_⟩) ?_ ?_
                 rotate_left
                 ·intro w'
                  go_simp
                  with_reducible rfl
                 rotate_left
                 ·simp only [Act.put,List.setIfInBounds_toArray,List.set_cons_zero,List.set_cons_succ,i64_w,i32_w]
                  rfl
                 refine pure_ (i:=16) (N:=some 37) (v:=?_) (a':=?_) #[true,true,true,true,true,true,true,true,true,true,true,true,true,true,true,true,true] rfl rfl (any_of HT_.out (by kernel_rfl)) (fun _ _ _ h=>h) (Or.inl ⟨by rfl,?_⟩) ?_ ?_
                 rotate_left
                 ·intro w'
                  go_simp
                  with_reducible rfl
                 rotate_left
                 ·simp only [Act.put,List.setIfInBounds_toArray,List.set_cons_zero,List.set_cons_succ,i64_w,i32_w]
                  rfl
                 refine done_ (done_of HT_.out (by kernel_rfl)) ?_
                 have q31:((ji17):Int)≤((x4_2.length:Int):Int):=of_decide_eq_true (by first|(with_reducible assumption)|assumption)
                 obtain ⟨i031,hi031,_,hsz31,_⟩:=info_parts info4
                 have hcut31:=cut_to (P:=Try.prog) 40 4 .i64 Try.underlying40 hi031 (some ad187) x4_2.length co29 (ji17) (of_decide_eq_true (by first|(with_reducible assumption)|assumption)) q31 (Kd.R_reads' HO_4.out).2.1
                 have hr31:=Kd.R_take (m:=((ji17):Int).toNat) HO_4.out (by omega)
                 have hy31:y189.length = ((ji17):Int).toNat:=(by rw [Ny189.out,List.length_take];omega)
                 rw [← Ny189.out] at hr31
                 rw [← hy31] at hr31 hcut31
                 clear hy31 hi031 hsz31 HO_4
                 have HO191:=Aside0.mk hr31
                 clear hr31
                 replace q31:=eq_true q31
                 try go_wp2
                 have n0_:=Aside0.mk (Kd.R_drew HO191.out)
                 have n1_:=Aside0.mk (Kd.R_drew HO_5.out)
                 have n2_:=Aside0.mk (blk_drew BK177.out)
                 have n3_:=Aside0.mk (blk_drew BK178.out)
                 have n4_:=Aside0.mk (below_drew1 HB.out)
                 clear HO191
                 clear HO_5
                 clear BK177
                 clear BK178
                 clear HB
                 have HO191:=n0_
                 have HO_5:=n1_
                 have BK177:=n2_
                 have BK178:=n3_
                 have HB:=n4_
                 clear n0_ n1_ n2_ n3_ n4_
                 have p192:0≤((ji20):Int):=of_decide_eq_true (by first|(with_reducible assumption)|assumption)
                 have q192:(ji20) < (x5_2.length:Int):=of_decide_eq_true (by first|(with_reducible assumption)|assumption)
                 obtain ⟨ad192,e192,hx192_0⟩:=Kd.at_bool (Kd.R_reads' HO_5.out).2.2 (ji20) p192 q192
                 obtain rfl:ad188 = ad192:=(by injection e192)
                 replace p192:=eq_true p192
                 replace q192:=eq_true q192
                 have q33:((ji20):Int)≤((x5_2.length:Int):Int):=of_decide_eq_true (by first|(with_reducible assumption)|assumption)
                 obtain ⟨i033,hi033,_,hsz33,_⟩:=info_parts info4
                 have hroom33:x5_2.length≤co30:=(Kd.R_reads' HO_5.out).2.1
                 have hC33:Kd.C Kd.bool _ (some ad188) x5_2.length x5_2:=(Kd.R_reads' HO_5.out).2.2
                 have hcut33:=cut_to (P:=Try.prog) 40 4 .i64 Try.underlying40 hi033 (some ad188) x5_2.length co30 (ji20) (of_decide_eq_true (by first|(with_reducible assumption)|assumption)) q33 hroom33
                 have hr33:=Kd.C_take (m:=((ji20):Int).toNat) hC33 (by omega)
                 have hy33:y196.length = ((ji20):Int).toNat:=(by rw [Ny196.out,List.length_take];omega)
                 rw [← Ny196.out] at hr33
                 rw [← hy33] at hcut33
                 have HR199:=Aside0.mk hr33
                 have HC199:=Aside0.mk (show y196.length≤co30 from by omega)
                 clear hr33 hC33 hroom33 hi033 hsz33
                 have KY33:=Aside0.mk hy33
                 clear hy33
                 have KL33:=Aside0.mk (show ((ji20):Int).toNat≤x5_2.length from by omega)
                 replace q33:=eq_true q33
                 refine start_ (n:=12) (S:=fun w'=>w'.cell? (ad188.add ((ji20)).toNat) = some (.bool (rdOf false x5_2 (ji20)))) (ds:=[10]) #[false,false,false,false,false,false,false,false,false,false,false,false] (by kernel_rfl) rfl rfl (hx192_0) (fun hHeld=>?_);refine with_tabW impl_set_tidy.tab7 impl_set_tidy.bits7 (fun HT_ HW_=>?_)
                 generalize w28.drew = w32 at HO191 HO_5 BK177 BK178 HB HR199 hx192_0 hHeld ⊢
                 refine pure_ (i:=0) (N:=some 43) (v:=?_) (a':=?_) #[true,false,false,false,false,false,false,false,false,false,false,false] rfl rfl (any_of HT_.out (by kernel_rfl)) (fun _ _ _ h=>h) (Or.inl ⟨by rfl,?_⟩) ?_ ?_
                 rotate_left
                 ·intro w'
                  go_simp
                  with_reducible rfl
                 rotate_left
                 ·simp only [Act.put,List.setIfInBounds_toArray,List.set_cons_zero,List.set_cons_succ,i64_w,i32_w]
                  rfl
                 refine pure_ (i:=1) (N:=some 44) (v:=?_) (a':=?_) #[true,true,false,false,false,false,false,false,false,false,false,false] rfl rfl (any_of HT_.out (by kernel_rfl)) (fun _ _ _ h=>h) (Or.inl ⟨by rfl,?_⟩) ?_ ?_
                 rotate_left
                 ·intro w'
                  go_simp
                  with_reducible rfl
                 rotate_left
                 ·simp only [Act.put,List.setIfInBounds_toArray,List.set_cons_zero,List.set_cons_succ,i64_w,i32_w]
                  rfl
                 refine pure_ (i:=2) (N:=some 45) (v:=?_) (a':=?_) #[true,true,true,false,false,false,false,false,false,false,false,false] rfl rfl (any_of HT_.out (by kernel_rfl)) (fun _ _ _ h=>h) (Or.inl ⟨by rfl,?_⟩) ?_ ?_
                 rotate_left
                 ·intro w'
                  go_simp
                  with_reducible rfl
                 rotate_left
                 ·simp only [Act.put,List.setIfInBounds_toArray,List.set_cons_zero,List.set_cons_succ,i64_w,i32_w]
                  rfl
                 refine pure_ (i:=3) (N:=some 46) (v:=?_) (a':=?_) #[true,true,true,true,false,false,false,false,false,false,false,false] rfl rfl (any_of HT_.out (by kernel_rfl)) (fun _ _ _ h=>h) (Or.inl ⟨by rfl,?_⟩) ?_ ?_
                 rotate_left
                 ·intro w'
                  go_simp
                  with_reducible rfl
                 rotate_left
                 ·simp only [Act.put,List.setIfInBounds_toArray,List.set_cons_zero,List.set_cons_succ,i64_w,i32_w]
                  rfl
                 refine pure_ (i:=6) (N:=some 49) (v:=?_) (a':=?_) #[true,true,true,true,false,false,true,false,false,false,false,false] rfl rfl (any_of HT_.out (by kernel_rfl)) (fun _ _ _ h=>h) (Or.inl ⟨by rfl,?_⟩) ?_ ?_
                 rotate_left
                 ·intro w'
                  go_simp
                  with_reducible rfl
                 rotate_left
                 ·simp only [Act.put,List.setIfInBounds_toArray,List.set_cons_zero,List.set_cons_succ,i64_w,i32_w]
                  rfl
                 refine pure_ (i:=7) (N:=some 50) (v:=?_) (a':=?_) #[true,true,true,true,false,false,true,true,false,false,false,false] rfl rfl (any_of HT_.out (by kernel_rfl)) (fun _ _ _ h=>h) (Or.inl ⟨by rfl,?_⟩) ?_ ?_
                 rotate_left
                 ·intro w'
                  go_simp
                  with_reducible rfl
                 rotate_left
                 ·simp only [Act.put,List.setIfInBounds_toArray,List.set_cons_zero,List.set_cons_succ,i64_w,i32_w]
                  rfl
                 refine pure_ (i:=8) (N:=some 51) (v:=?_) (a':=?_) #[true,true,true,true,false,false,true,true,true,false,false,false] rfl rfl (any_of HT_.out (by kernel_rfl)) (fun _ _ _ h=>h) (Or.inl ⟨by rfl,?_⟩) ?_ ?_
                 rotate_left
                 ·intro w'
                  go_simp
                  with_reducible rfl
                 rotate_left
                 ·simp only [Act.put,List.setIfInBounds_toArray,List.set_cons_zero,List.set_cons_succ,i64_w,i32_w]
                  rfl
                 refine pure_ (i:=9) (N:=some 52) (v:=?_) (a':=?_) #[true,true,true,true,false,false,true,true,true,true,false,false] rfl rfl (any_of HT_.out (by kernel_rfl)) (fun _ _ _ h=>h) (Or.inl ⟨by rfl,?_⟩) ?_ ?_
                 rotate_left
                 ·intro w'
                  go_simp
                  with_reducible rfl
                 rotate_left
                 ·simp only [Act.put,List.setIfInBounds_toArray,List.set_cons_zero,List.set_cons_succ,i64_w,i32_w]
                  rfl
                 refine take_ (i:=4) (N:=some 47) (v:=?_) (a':=?_) #[true,true,true,true,true,false,true,true,true,true,false,false] rfl rfl (take_ofW HT_.out HW_.out (by kernel_rfl)) (fun _ _ _ h=>h) (Or.inl ⟨by rfl,?_⟩) hHeld ?_ ?_
                 rotate_left
                 ·intro w' s0
                  go_simp
                  with_reducible rfl
                 rotate_left
                 ·simp only [Act.put,List.setIfInBounds_toArray,List.set_cons_zero,List.set_cons_succ,i64_w,i32_w]
                  rfl
                 refine one_ (i:=5) (N:=some 48) #[true,true,true,true,true,true,true,true,true,true,false,false] rfl rfl (one_of HT_.out (by kernel_rfl)) (by decide) (fun K hK=>?_)
                 refine Kd.R_lit_step Kd.bool _ 4 ?hg (N:=48) ?hd (xs:=([rdOf false x5_2 (ji20)]:List Bool)) (inner:=[.bool (rdOf false x5_2 (ji20))]) (ok:=fun _=>True) (okp:=fun _=>True) ?hr ?hp (fun _ hk=>hk) trivial (Below.refl _ _) (Nat.le_refl _) (by simp) ?_;(case hd=>rfl);(case hg=>rfl);(case hr=>first|(go_simp;done)|(go_simp;rfl));(case hp=>exact (Reps.one (show Kd.M Kd.bool _ _ _ (rdOf false x5_2 (ji20)) [.bool (rdOf false x5_2 (ji20))] from rfl) (Reps.none _ _)))
                 intro v194 w34 ho35 hb hg_ hnew_
                 have HS0_:=(hb.cell (World.block_lt_of_cell? _ _ (hHeld))).trans (hHeld)
                 clear hg_ hnew_
                 (first|rw [← Ny193.out] at ho35|(simp only [Int.reduceToNat] at ho35;rw [← Ny193.out] at ho35))
                 have n0_:=Aside0.mk (Kd.R_elder' (by (with_reducible repeat (first|apply Kd.R_alloc|apply Kd.R_drewN|apply Kd.R_drew));exact HO191.out) (Kd.R_base ho35) hb)
                 have n1_:=Aside0.mk (Kd.R_elder' (by (with_reducible repeat (first|apply Kd.R_alloc|apply Kd.R_drewN|apply Kd.R_drew));exact HO_5.out) (Kd.R_base ho35) hb)
                 have n2_:=Aside0.mk (Kd.R_lower (Kd.R_new' (Kd.R_new' ho35 (Kd.R_lt (by (with_reducible repeat (first|apply Kd.R_alloc|apply Kd.R_drewN|apply Kd.R_drew));exact HO191.out))) (Kd.R_lt (by (with_reducible repeat (first|apply Kd.R_alloc|apply Kd.R_drewN|apply Kd.R_drew));exact HO_5.out))) (below_size (by repeat (first|(with_reducible first|exact HB.out|apply below_alloc|apply pw_below_drewN|apply below_drew1|refine below_set ?_ GE177.out|refine below_set ?_ GE178.out)|exact HB.out))))
                 have n3_:=Aside0.mk (blk_below (g:=gb177) (o:=.cells #[.slice A0_0 l0_0.length c0_0,.slice A0_1 l0_1.length c0_1] 45 (0,0)) (by (with_reducible repeat (first|refine blk_drewN ?_ _|refine blk_drew ?_|refine blk_alloc ?_ _));exact BK177.out) hb)
                 have n4_:=Aside0.mk (blk_below (g:=gb178) (o:=.cells #[.slice none 0 0,.slice none 0 0] 45 (0,0)) (by (with_reducible repeat (first|refine blk_drewN ?_ _|refine blk_drew ?_|refine blk_alloc ?_ _));exact BK178.out) hb)
                 have n5_:=Aside0.mk (Kd.C_below (by repeat (first|(with_reducible exact HR199.out)|(with_reducible refine Kd.C_alloc ?_ _)|(with_reducible refine Kd.C_drewN ?_ _)|(with_reducible refine Kd.C_drew ?_)|exact HR199.out)) hb)
                 have n6_:=Aside0.mk (below_step (by repeat (first|(with_reducible first|exact HB.out|apply below_alloc|apply pw_below_drewN|apply below_drew1|refine below_set ?_ GE177.out|refine below_set ?_ GE178.out)|exact HB.out)) hb)
                 clear HO191
                 clear HO_5
                 clear BK177
                 clear BK178
                 clear HR199
                 clear HB
                 have HO191:=n0_
                 have HO_5:=n1_
                 have HO195:=n2_
                 have BK177:=n3_
                 have BK178:=n4_
                 have HR199:=n5_
                 have HB:=n6_
                 clear n0_ n1_ n2_ n3_ n4_ n5_ n6_
                 clear hb ho35
                 refine hK.out _ _ (HS0_) (fun hHeld=>?_)
                 clear hK K
                 refine norm_ (a':=?_) ?_ ?_
                 rotate_left
                 ·show Act.put _ (some 48) _ = _
                  simp only [Act.put,List.setIfInBounds_toArray,List.set_cons_zero,List.set_cons_succ,i64_w,i32_w]
                  rfl
                 refine last_ (i:=10) (N:=some 53) #[true,true,true,true,true,true,true,true,true,true,true,false] rfl rfl (one_of HT_.out (by kernel_rfl)) (by decide) (fun K hK=>?_)
                 refine Kd.R_append_rows_step Kd.bool (w0:=w) w.heap.size (by rfl) (.tmp 48) (.tmp 52) 40 4 (.bool false) 1 rfl Try.underlying40 info4 rfl (by decide) (by omega) v194 y193 y196 _ _ _ (fun k_=>some k_ ≠ (.slice (some ad187) y189.length co29:Value).ownBlock∧some k_ ≠ (.slice (some ad188) x5_2.length co30:Value).ownBlock) (fun _=>False) rfl rfl ?aO ?aR (fun _ _ h=>h) (fun _ h=>h.elim) ?aF ?aB ?aS ?aL ?_
                 (case aR=>repeat (first|exact (by repeat (first|(with_reducible exact HR199.out)|(with_reducible refine Kd.C_alloc ?_ _)|(with_reducible refine Kd.C_drewN ?_ _)|(with_reducible refine Kd.C_drew ?_)|exact HR199.out))|(with_reducible refine Kd.C_alloc ?_ _)|(with_reducible refine Kd.C_drewN ?_ _)|(with_reducible refine Kd.C_drew ?_)))
                 (case aB=>exact (by repeat (first|(with_reducible first|exact HB.out|apply below_alloc|apply pw_below_drewN|apply below_drew1|refine below_set ?_ GE177.out|refine below_set ?_ GE178.out)|exact HB.out)))
                 (case aF=>exact (fun k_ hk=>⟨Kd.fresh' (Kd.R_lt (by (with_reducible repeat (first|apply Kd.R_alloc|apply Kd.R_drewN|apply Kd.R_drew));exact HO191.out)) k_ hk,Kd.fresh' (Kd.R_lt (by (with_reducible repeat (first|apply Kd.R_alloc|apply Kd.R_drewN|apply Kd.R_drew));exact HO_5.out)) k_ hk⟩))
                 (case aO=>exact (by (with_reducible repeat (first|apply Kd.R_alloc|apply Kd.R_drewN|apply Kd.R_drew));exact Kd.R_mono HO195.out (fun _ hk=>⟨hk.1.2,hk.2⟩)))
                 (case aS=>exact (below_size (by repeat (first|(with_reducible first|exact HB.out|apply below_alloc|apply pw_below_drewN|apply below_drew1|refine below_set ?_ GE177.out|refine below_set ?_ GE178.out)|exact HB.out))))
                 (case aL=>have:=LMc27.out;omega)
                 intro v201 w36 ho hb hg hat
                 rw [← Ny200.out] at ho
                 have n0_:=Aside0.mk (Kd.R_after (ok:=(fun k_=>some k_ ≠ (.slice (some ad188) x5_2.length co30:Value).ownBlock)) (by (with_reducible repeat (first|apply Kd.R_alloc|apply Kd.R_drewN|apply Kd.R_drew));exact HO191.out) hg hat)
                 have n1_:=Aside0.mk (Kd.R_after (ok:=(fun k_=>some k_ ≠ (.slice (some ad187) y189.length co29:Value).ownBlock)) (by (with_reducible repeat (first|apply Kd.R_alloc|apply Kd.R_drewN|apply Kd.R_drew));exact HO_5.out) hg hat)
                 have n2_:=Aside0.mk (blk_grown (g:=gb177) (o:=.cells #[.slice A0_0 l0_0.length c0_0,.slice A0_1 l0_1.length c0_1] 45 (0,0)) (by (with_reducible repeat (first|refine blk_drewN ?_ _|refine blk_drew ?_|refine blk_alloc ?_ _));exact BK177.out) hg (Kd.R_ne HO195.out BK177.out (by decide)))
                 have n3_:=Aside0.mk (blk_grown (g:=gb178) (o:=.cells #[.slice none 0 0,.slice none 0 0] 45 (0,0)) (by (with_reducible repeat (first|refine blk_drewN ?_ _|refine blk_drew ?_|refine blk_alloc ?_ _));exact BK178.out) hg (Kd.R_ne HO195.out BK178.out (by decide)))
                 have n4_:=Aside0.mk (hb)
                 have n5_:=Aside0.mk ((show Kd.C Kd.bool w36 (some ad188) y196.length y196 from by rw [Ny196.out];exact Kd.C_take (m:=((ji20):Int).toNat) ((Kd.R_reads' (Kd.R_after (ok:=(fun k_=>some k_ ≠ (.slice (some ad187) y189.length co29:Value).ownBlock)) (by (with_reducible repeat (first|apply Kd.R_alloc|apply Kd.R_drewN|apply Kd.R_drew));exact HO_5.out) hg hat)).2.2) KL33.out))
                 have n6_:=Aside0.mk (ho)
                 clear HO191
                 clear HO_5
                 clear BK177
                 clear BK178
                 clear HB
                 clear HR199
                 clear HO195
                 have HO191:=n0_
                 have HO_5:=n1_
                 have BK177:=n2_
                 have BK178:=n3_
                 have HB:=n4_
                 have HR199:=n5_
                 have HO202:=n6_
                 clear n0_ n1_ n2_ n3_ n4_ n5_ n6_
                 clear ho hb hg hat
                 refine hK.out _ _ ?_
                 clear hK K
                 refine norm_ (a':=?_) ?_ ?_
                 rotate_left
                 ·show Act.put _ (some 53) _ = _
                  simp only [Act.put,List.setIfInBounds_toArray,List.set_cons_zero,List.set_cons_succ,i64_w,i32_w]
                  rfl
                 refine pure_ (i:=11) (N:=some 5) (v:=?_) (a':=?_) #[true,true,true,true,true,true,true,true,true,true,true,true] rfl rfl (any_of HT_.out (by kernel_rfl)) (fun _ _ _ h=>h) (Or.inl ⟨by rfl,?_⟩) ?_ ?_
                 rotate_left
                 ·intro w'
                  go_simp
                  with_reducible rfl
                 rotate_left
                 ·simp only [Act.put,List.setIfInBounds_toArray,List.set_cons_zero,List.set_cons_succ,i64_w,i32_w]
                  rfl
                 refine done_ (done_of HT_.out (by kernel_rfl)) ?_
                 try go_wp2
                 go_roundg k2
                 case measure=>have:=HK1.out;have:=HK2.out;omega
                 case rel=>exact ⟨(y189),(y200),H',⟨by have:=HK1.out;have:=HK2.out;omega⟩,⟨by (with_reducible repeat (first|apply Kd.R_alloc|apply Kd.R_drewN|apply Kd.R_drew));exact Kd.R_mono HO191.out (fun _ hk=>hk.2)⟩,⟨by (with_reducible repeat (first|apply Kd.R_alloc|apply Kd.R_drewN|apply Kd.R_drew));exact Kd.R_mono HO202.out (fun _ hk=>hk.1)⟩,⟨by (with_reducible repeat (first|refine blk_drewN ?_ _|refine blk_drew ?_|refine blk_alloc ?_ _));exact BK177.out⟩,⟨by (with_reducible repeat (first|refine blk_drewN ?_ _|refine blk_drew ?_|refine blk_alloc ?_ _));exact BK178.out⟩,⟨by repeat (first|(with_reducible first|exact HB.out|apply below_alloc|apply pw_below_drewN|apply below_drew1|refine below_set ?_ GE177.out|refine below_set ?_ GE178.out)|exact HB.out)⟩⟩
                ·rw [if_neg c27] at H
                 exact absurd H (by simp)
               ·rw [if_neg c26] at H
                exact absurd H (by simp)
              ·rw [if_neg c24] at H
               exact absurd H (by simp)
             ·rw [if_neg c23] at H
              have c23b0:((rdOf false x4_2 (ji17)) == (rdOf false x5_2 (ji20))) = false:=by simpa using c23
              (try (have c23b1:decide ((rdOf false x4_2 (ji17)) = (rdOf false x5_2 (ji20))) = false:=by simpa using c23))
              (try (have c23b2:((rdOf false x4_2 (ji17)) == (rdOf false x5_2 (ji20))) = false:=by simpa using c23))
              (try (have c23b3:¬ ((rdOf false x4_2 (ji17)) = (rdOf false x5_2 (ji20))):=by simpa using c23))
              clear c23
              simp only [Option.some.injEq,Prod.mk.injEq] at H
              obtain ⟨rfl,rfl⟩:=H
              try go_wp2
              have n0_:=Aside0.mk (Kd.R_drew HO_4.out)
              have n1_:=Aside0.mk (Kd.R_drew HO_5.out)
              have n2_:=Aside0.mk (blk_drew BK177.out)
              have n3_:=Aside0.mk (blk_drew BK178.out)
              have n4_:=Aside0.mk (below_drew1 HB.out)
              clear HO_4
              clear HO_5
              clear BK177
              clear BK178
              clear HB
              have HO_4:=n0_
              have HO_5:=n1_
              have BK177:=n2_
              have BK178:=n3_
              have HB:=n4_
              clear n0_ n1_ n2_ n3_ n4_
              obtain ⟨Ao38,co38,eo38⟩:=Kd.R_slice HO_4.out
              (first|subst eo38|(injection eo38 with f1_ f2_ f3_;have f4_:=f1_.symm;have f5_:=f3_.symm;clear f1_ f2_ f3_;subst f4_;subst f5_))
              have p187:0≤((ji17):Int):=of_decide_eq_true (by first|(with_reducible assumption)|assumption)
              have q187:(ji17) < (x4_2.length:Int):=of_decide_eq_true (by first|(with_reducible assumption)|assumption)
              obtain ⟨ad187,e187,hx187_0⟩:=Kd.at_bool (Kd.R_reads' HO_4.out).2.2 (ji17) p187 q187
              cases e187
              replace p187:=eq_true p187
              replace q187:=eq_true q187
              obtain ⟨Ao39,co39,eo39⟩:=Kd.R_slice HO_5.out
              (first|subst eo39|(injection eo39 with f1_ f2_ f3_;have f4_:=f1_.symm;have f5_:=f3_.symm;clear f1_ f2_ f3_;subst f4_;subst f5_))
              have p188:0≤((ji20):Int):=of_decide_eq_true (by first|(with_reducible assumption)|assumption)
              have q188:(ji20) < (x5_2.length:Int):=of_decide_eq_true (by first|(with_reducible assumption)|assumption)
              obtain ⟨ad188,e188,hx188_0⟩:=Kd.at_bool (Kd.R_reads' HO_5.out).2.2 (ji20) p188 q188
              cases e188
              replace p188:=eq_true p188
              replace q188:=eq_true q188
              refine start_ (n:=17) (S:=fun w'=>w'.cell? (ad187.add ((ji17)).toNat) = some (.bool (rdOf false x4_2 (ji17)))∧w'.cell? (ad188.add ((ji20)).toNat) = some (.bool (rdOf false x5_2 (ji20)))) (ds:=[]) #[false,false,false,false,false,false,false,false,false,false,false,false,false,false,false,false,false] (by kernel_rfl) rfl rfl ⟨hx187_0,hx188_0⟩ (fun hHeld=>?_);refine with_tabW impl_set_tidy.tab5 impl_set_tidy.bits5 (fun HT_ HW_=>?_)
              generalize wr.drew = w37 at HO_4 HO_5 BK177 BK178 HB hx187_0 hx188_0 hHeld ⊢
              refine pure_ (i:=0) (N:=some 21) (v:=?_) (a':=?_) #[true,false,false,false,false,false,false,false,false,false,false,false,false,false,false,false,false] rfl rfl (any_of HT_.out (by kernel_rfl)) (fun _ _ _ h=>h) (Or.inl ⟨by rfl,?_⟩) ?_ ?_
              rotate_left
              ·intro w'
               go_simp
               with_reducible rfl
              rotate_left
              ·simp only [Act.put,List.setIfInBounds_toArray,List.set_cons_zero,List.set_cons_succ,i64_w,i32_w]
               rfl
              refine pure_ (i:=1) (N:=some 22) (v:=?_) (a':=?_) #[true,true,false,false,false,false,false,false,false,false,false,false,false,false,false,false,false] rfl rfl (any_of HT_.out (by kernel_rfl)) (fun _ _ _ h=>h) (Or.inl ⟨by rfl,?_⟩) ?_ ?_
              rotate_left
              ·intro w'
               go_simp
               with_reducible rfl
              rotate_left
              ·simp only [Act.put,List.setIfInBounds_toArray,List.set_cons_zero,List.set_cons_succ,i64_w,i32_w]
               rfl
              refine pure_ (i:=2) (N:=some 23) (v:=?_) (a':=?_) #[true,true,true,false,false,false,false,false,false,false,false,false,false,false,false,false,false] rfl rfl (any_of HT_.out (by kernel_rfl)) (fun _ _ _ h=>h) (Or.inl ⟨by rfl,?_⟩) ?_ ?_
              rotate_left
              ·intro w'
               go_simp
               with_reducible rfl
              rotate_left
              ·simp only [Act.put,List.setIfInBounds_toArray,List.set_cons_zero,List.set_cons_succ,i64_w,i32_w]
               rfl
              refine pure_ (i:=3) (N:=some 24) (v:=?_) (a':=?_) #[true,true,true,true,false,false,false,false,false,false,false,false,false,false,false,false,false] rfl rfl (any_of HT_.out (by kernel_rfl)) (fun _ _ _ h=>h) (Or.inl ⟨by rfl,?_⟩) ?_ ?_
              rotate_left
              ·intro w'
               go_simp
               with_reducible rfl
              rotate_left
              ·simp only [Act.put,List.setIfInBounds_toArray,List.set_cons_zero,List.set_cons_succ,i64_w,i32_w]
               rfl
              refine pure_ (i:=4) (N:=some 25) (v:=?_) (a':=?_) #[true,true,true,true,true,false,false,false,false,false,false,false,false,false,false,false,false] rfl rfl (any_of HT_.out (by kernel_rfl)) (fun _ _ _ h=>h) (Or.inl ⟨by rfl,?_⟩) ?_ ?_
              rotate_left
              ·intro w'
               go_simp
               with_reducible rfl
              rotate_left
              ·simp only [Act.put,List.setIfInBounds_toArray,List.set_cons_zero,List.set_cons_succ,i64_w,i32_w]
               rfl
              refine pure_ (i:=5) (N:=some 26) (v:=?_) (a':=?_) #[true,true,true,true,true,true,false,false,false,false,false,false,false,false,false,false,false] rfl rfl (any_of HT_.out (by kernel_rfl)) (fun _ _ _ h=>h) (Or.inl ⟨by rfl,?_⟩) ?_ ?_
              rotate_left
              ·intro w'
               go_simp
               with_reducible rfl
              rotate_left
              ·simp only [Act.put,List.setIfInBounds_toArray,List.set_cons_zero,List.set_cons_succ,i64_w,i32_w]
               rfl
              refine pure_ (i:=6) (N:=some 27) (v:=?_) (a':=?_) #[true,true,true,true,true,true,true,false,false,false,false,false,false,false,false,false,false] rfl rfl (any_of HT_.out (by kernel_rfl)) (fun _ _ _ h=>h) (Or.inl ⟨by rfl,?_⟩) ?_ ?_
              rotate_left
              ·intro w'
               go_simp
               with_reducible rfl
              rotate_left
              ·simp only [Act.put,List.setIfInBounds_toArray,List.set_cons_zero,List.set_cons_succ,i64_w,i32_w]
               rfl
              refine pure_ (i:=7) (N:=some 28) (v:=?_) (a':=?_) #[true,true,true,true,true,true,true,true,false,false,false,false,false,false,false,false,false] rfl rfl (any_of HT_.out (by kernel_rfl)) (fun _ _ _ h=>h) (Or.inl ⟨by rfl,?_⟩) ?_ ?_
              rotate_left
              ·intro w'
               go_simp
               with_reducible rfl
              rotate_left
              ·simp only [Act.put,List.setIfInBounds_toArray,List.set_cons_zero,List.set_cons_succ,i64_w,i32_w]
               rfl
              refine pure_ (i:=8) (N:=some 29) (v:=?_) (a':=?_) #[true,true,true,true,true,true,true,true,true,false,false,false,false,false,false,false,false] rfl rfl (any_of HT_.out (by kernel_rfl)) (fun _ _ _ h=>h) (Or.inl ⟨by rfl,?_⟩) ?_ ?_
              rotate_left
              ·intro w'
               go_simp
               with_reducible rfl
              rotate_left
              ·simp only [Act.put,List.setIfInBounds_toArray,List.set_cons_zero,List.set_cons_succ,i64_w,i32_w]
               rfl
              refine pure_ (i:=10) (N:=some 31) (v:=?_) (a':=?_) #[true,true,true,true,true,true,true,true,true,false,true,false,false,false,false,false,false] rfl rfl (any_of HT_.out (by kernel_rfl)) (fun _ _ _ h=>h) (Or.inl ⟨by rfl,?_⟩) ?_ ?_
              rotate_left
              ·intro w'
               go_simp
               with_reducible rfl
              rotate_left
              ·simp only [Act.put,List.setIfInBounds_toArray,List.set_cons_zero,List.set_cons_succ,i64_w,i32_w]
               rfl
              refine pure_ (i:=11) (N:=some 32) (v:=?_) (a':=?_) #[true,true,true,true,true,true,true,true,true,false,true,true,false,false,false,false,false] rfl rfl (any_of HT_.out (by kernel_rfl)) (fun _ _ _ h=>h) (Or.inl ⟨by rfl,?_⟩) ?_ ?_
              rotate_left
              ·intro w'
               go_simp
               with_reducible rfl
              rotate_left
              ·simp only [Act.put,List.setIfInBounds_toArray,List.set_cons_zero,List.set_cons_succ,i64_w,i32_w]
               rfl
              refine pure_ (i:=12) (N:=some 33) (v:=?_) (a':=?_) #[true,true,true,true,true,true,true,true,true,false,true,true,true,false,false,false,false] rfl rfl (any_of HT_.out (by kernel_rfl)) (fun _ _ _ h=>h) (Or.inl ⟨by rfl,?_⟩) ?_ ?_
              rotate_left
              ·intro w'
               go_simp
               with_reducible rfl
              rotate_left
              ·simp only [Act.put,List.setIfInBounds_toArray,List.set_cons_zero,List.set_cons_succ,i64_w,i32_w]
               rfl
              refine pure_ (i:=13) (N:=some 34) (v:=?_) (a':=?_) #[true,true,true,true,true,true,true,true,true,false,true,true,true,true,false,false,false] rfl rfl (any_of HT_.out (by kernel_rfl)) (fun _ _ _ h=>h) (Or.inl ⟨by rfl,?_⟩) ?_ ?_
              rotate_left
              ·intro w'
               go_simp
               with_reducible rfl
              rotate_left
              ·simp only [Act.put,List.setIfInBounds_toArray,List.set_cons_zero,List.set_cons_succ,i64_w,i32_w]
               rfl
              refine take_ (i:=9) (N:=some 30) (v:=?_) (a':=?_) #[true,true,true,true,true,true,true,true,true,true,true,true,true,true,false,false,false] rfl rfl (take_ofW HT_.out HW_.out (by kernel_rfl)) (fun _ _ _ h=>h) (Or.inl ⟨by rfl,?_⟩) hHeld ?_ ?_
              rotate_left
              ·rintro w' ⟨s0,s1⟩
               go_simp
               with_reducible rfl
              rotate_left
              ·simp only [Act.put,List.setIfInBounds_toArray,List.set_cons_zero,List.set_cons_succ,i64_w,i32_w]
               rfl
              refine take_ (i:=14) (N:=some 35) (v:=?_) (a':=?_) #[true,true,true,true,true,true,true,true,true,true,true,true,true,true,true,false,false] rfl rfl (take_ofW HT_.out HW_.out (by kernel_rfl)) (fun _ _ _ h=>h) (Or.inl ⟨by rfl,?_⟩) hHeld ?_ ?_
              rotate_left
              ·rintro w' ⟨s0,s1⟩
               go_simp
               with_reducible rfl
              rotate_left
              ·simp only [Act.put,List.setIfInBounds_toArray,List.set_cons_zero,List.set_cons_succ,i64_w,i32_w]
               rfl
              refine pure_ (i:=15) (N:=some 36) (v:=?_) (a':=?_) #[true,true,true,true,true,true,true,true,true,true,true,true,true,true,true,true,false] rfl rfl (any_of HT_.out (by kernel_rfl)) (fun _ _ _ h=>h) (Or.inl ⟨by rfl,?_⟩) ?_ ?_
              rotate_left
              ·intro w'
               go_simp
               with_reducible rfl
              rotate_left
              ·simp only [Act.put,List.setIfInBounds_toArray,List.set_cons_zero,List.set_cons_succ,i64_w,i32_w]
               rfl
              refine pure_ (i:=16) (N:=some 37) (v:=?_) (a':=?_) #[true,true,true,true,true,true,true,true,true,true,true,true,true,true,true,true,true] rfl rfl (any_of HT_.out (by kernel_rfl)) (fun _ _ _ h=>h) (Or.inl ⟨by rfl,?_⟩) ?_ ?_
              rotate_left
              ·intro w'
               go_simp
               with_reducible rfl
              rotate_left
              ·simp only [Act.put,List.setIfInBounds_toArray,List.set_cons_zero,List.set_cons_succ,i64_w,i32_w]
               rfl
              refine done_ (done_of HT_.out (by kernel_rfl)) ?_
              have hnb40:=NB178_177.out
              have hnc40:=NB177_178.out
              have hcz41_0:w37.cell? ⟨gb178,0,none⟩ = some (.slice none 0 0):=(blk_cell BK178.out 0).trans rfl
              have hcz41_1:w37.cell? ⟨gb178,1,none⟩ = some (.slice none 0 0):=(blk_cell BK178.out 1).trans rfl
              have hfz41_0:=blk_frozen BK178.out 0
              have hfz41_1:=blk_frozen BK178.out 1
              try go_wp2
              refine bodyPost_ret (results_cell_row rfl _ _ gb178 45 #[.slice (some ad187) x4_2.length co38,.slice (some ad188) x5_2.length co39] (0,0) _ rfl (by (with_reducible repeat (first|refine blk_drewN ?_ _|refine blk_drew ?_|refine blk_alloc ?_ _));refine blk_put (cs:=#[.slice (some ad187) x4_2.length co38,.slice none 0 0]) ?_ 1 _ rfl;(with_reducible repeat (first|refine blk_drewN ?_ _|refine blk_drew ?_|refine blk_alloc ?_ _));refine blk_put (cs:=#[.slice none 0 0,.slice none 0 0]) ?_ 0 _ rfl;(with_reducible repeat (first|refine blk_drewN ?_ _|refine blk_drew ?_|refine blk_alloc ?_ _));exact BK178.out) Try.underlying45 rfl (by kernel_rfl)) rfl ?_
              exact ⟨_,_,by first|rfl|(simp [errW_none,errW_some] <;> rfl)|(simp only [← hji17,← hji20];first|rfl|(simp [errW_none,errW_some] <;> rfl))|(simp [*,errW_none,errW_some] <;> rfl),by (with_reducible repeat (first|apply Kd.R_alloc|apply Kd.R_drewN|apply Kd.R_drew));exact Kd.R_mono (Kd.R_far (p:=⟨gb178,1,none⟩) (Kd.R_far (p:=⟨gb178,0,none⟩) (Kd.R_types HO_4.out BK178.out (by decide)) (fun _ hk=>hk.2) (.slice (some ad187) x4_2.length co38)) (fun _ hk=>hk.2) (.slice (some ad188) x5_2.length co39)) (fun _ hk=>hk.1),by (with_reducible repeat (first|apply Kd.R_alloc|apply Kd.R_drewN|apply Kd.R_drew));exact Kd.R_mono (Kd.R_far (p:=⟨gb178,1,none⟩) (Kd.R_far (p:=⟨gb178,0,none⟩) (Kd.R_types HO_5.out BK178.out (by decide)) (fun _ hk=>hk.2) (.slice (some ad187) x4_2.length co38)) (fun _ hk=>hk.2) (.slice (some ad188) x5_2.length co39)) (fun _ hk=>hk.1),by repeat (first|(with_reducible first|exact HB.out|apply below_alloc|apply pw_below_drewN|apply below_drew1|refine below_set ?_ GE177.out|refine below_set ?_ GE178.out)|exact HB.out)⟩
            ·rw [if_neg c22] at H
             exact absurd H (by simp)
           ·rw [if_neg c21] at H
            exact absurd H (by simp)
          ·rw [if_neg c19] at H
           exact absurd H (by simp)
         ·rw [if_neg c18] at H
          exact absurd H (by simp)
        ·rw [if_neg c16] at H
         have c16b0:decide (0 < (x4_2.length:Int)) = false:=decide_eq_false c16
         have c16b1:decide (0 < x4_2.length) = false:=decide_eq_false (by omega)
         clear c16
         simp only [Option.some.injEq,Prod.mk.injEq] at H
         obtain ⟨rfl,rfl⟩:=H
         try go_wp2
         have n0_:=Aside0.mk (Kd.R_drew HO_4.out)
         have n1_:=Aside0.mk (Kd.R_drew HO_5.out)
         have n2_:=Aside0.mk (blk_drew BK177.out)
         have n3_:=Aside0.mk (blk_drew BK178.out)
         have n4_:=Aside0.mk (below_drew1 HB.out)
         clear HO_4
         clear HO_5
         clear BK177
         clear BK178
         clear HB
         have HO_4:=n0_
         have HO_5:=n1_
         have BK177:=n2_
         have BK178:=n3_
         have HB:=n4_
         clear n0_ n1_ n2_ n3_ n4_
         obtain ⟨Ao43,co43,eo43⟩:=Kd.R_slice HO_4.out
         (first|subst eo43|(injection eo43 with f1_ f2_ f3_;have f4_:=f1_.symm;have f5_:=f3_.symm;clear f1_ f2_ f3_;subst f4_;subst f5_))
         refine start_ (n:=17) (S:=fun w'=>True) (ds:=[]) #[false,false,false,false,false,false,false,false,false,false,false,false,false,false,false,false,false] (by kernel_rfl) rfl rfl trivial (fun hHeld=>?_);refine with_tabW impl_set_tidy.tab5 impl_set_tidy.bits5 (fun HT_ HW_=>?_)
         generalize wr.drew = w42 at HO_4 HO_5 BK177 BK178 HB hHeld ⊢
         refine pure_ (i:=0) (N:=some 21) (v:=?_) (a':=?_) #[true,false,false,false,false,false,false,false,false,false,false,false,false,false,false,false,false] rfl rfl (any_of HT_.out (by kernel_rfl)) (fun _ _ _ h=>h) (Or.inl ⟨by rfl,?_⟩) ?_ ?_
         rotate_left
         ·intro w'
          go_simp
          with_reducible rfl
         rotate_left
         ·simp only [Act.put,List.setIfInBounds_toArray,List.set_cons_zero,List.set_cons_succ,i64_w,i32_w]
          rfl
         refine pure_ (i:=1) (N:=some 22) (v:=?_) (a':=?_) #[true,true,false,false,false,false,false,false,false,false,false,false,false,false,false,false,false] rfl rfl (any_of HT_.out (by kernel_rfl)) (fun _ _ _ h=>h) (Or.inl ⟨by rfl,?_⟩) ?_ ?_
         rotate_left
         ·intro w'
          go_simp
          with_reducible rfl
         rotate_left
         ·simp only [Act.put,List.setIfInBounds_toArray,List.set_cons_zero,List.set_cons_succ,i64_w,i32_w]
          rfl
         refine pure_ (i:=2) (N:=some 23) (v:=?_) (a':=?_) #[true,true,true,false,false,false,false,false,false,false,false,false,false,false,false,false,false] rfl rfl (any_of HT_.out (by kernel_rfl)) (fun _ _ _ h=>h) (Or.inl ⟨by rfl,?_⟩) ?_ ?_
         rotate_left
         ·intro w'
          go_simp
          with_reducible rfl
         rotate_left
         ·simp only [Act.put,List.setIfInBounds_toArray,List.set_cons_zero,List.set_cons_succ,i64_w,i32_w]
          rfl
         refine pure_ (i:=3) (N:=some 24) (v:=?_) (a':=?_) #[true,true,true,true,false,false,false,false,false,false,false,false,false,false,false,false,false] rfl rfl (any_of HT_.out (by kernel_rfl)) (fun _ _ _ h=>h) (Or.inl ⟨by rfl,?_⟩) ?_ ?_
         rotate_left
         ·intro w'
          go_simp
          with_reducible rfl
         rotate_left
         ·simp only [Act.put,List.setIfInBounds_toArray,List.set_cons_zero,List.set_cons_succ,i64_w,i32_w]
          rfl
         refine pure_ (i:=4) (N:=some 25) (v:=undef) (a':=?_) #[true,true,true,true,true,false,false,false,false,false,false,false,false,false,false,false,false] rfl rfl (any_of HT_.out (by kernel_rfl)) (fun _ _ _ h=>h) (Or.inr ⟨by rfl,rfl⟩) ?_ ?_
         rotate_left
         ·simp only [Act.put,List.setIfInBounds_toArray,List.set_cons_zero,List.set_cons_succ,i64_w,i32_w]
          rfl
         refine pure_ (i:=5) (N:=some 26) (v:=undef) (a':=?_) #[true,true,true,true,true,true,false,false,false,false,false,false,false,false,false,false,false] rfl rfl (any_of HT_.out (by kernel_rfl)) (fun _ _ _ h=>h) (Or.inr ⟨by rfl,rfl⟩) ?_ ?_
         rotate_left
         ·simp only [Act.put,List.setIfInBounds_toArray,List.set_cons_zero,List.set_cons_succ,i64_w,i32_w]
          rfl
         refine pure_ (i:=6) (N:=some 27) (v:=undef) (a':=?_) #[true,true,true,true,true,true,true,false,false,false,false,false,false,false,false,false,false] rfl rfl (any_of HT_.out (by kernel_rfl)) (fun _ _ _ h=>h) (Or.inr ⟨by rfl,rfl⟩) ?_ ?_
         rotate_left
         ·simp only [Act.put,List.setIfInBounds_toArray,List.set_cons_zero,List.set_cons_succ,i64_w,i32_w]
          rfl
         refine pure_ (i:=7) (N:=some 28) (v:=undef) (a':=?_) #[true,true,true,true,true,true,true,true,false,false,false,false,false,false,false,false,false] rfl rfl (any_of HT_.out (by kernel_rfl)) (fun _ _ _ h=>h) (Or.inr ⟨by rfl,rfl⟩) ?_ ?_
         rotate_left
         ·simp only [Act.put,List.setIfInBounds_toArray,List.set_cons_zero,List.set_cons_succ,i64_w,i32_w]
          rfl
         refine pure_ (i:=8) (N:=some 29) (v:=undef) (a':=?_) #[true,true,true,true,true,true,true,true,true,false,false,false,false,false,false,false,false] rfl rfl (any_of HT_.out (by kernel_rfl)) (fun _ _ _ h=>h) (Or.inr ⟨by rfl,rfl⟩) ?_ ?_
         rotate_left
         ·simp only [Act.put,List.setIfInBounds_toArray,List.set_cons_zero,List.set_cons_succ,i64_w,i32_w]
          rfl
         refine pure_ (i:=9) (N:=some 30) (v:=undef) (a':=?_) #[true,true,true,true,true,true,true,true,true,true,false,false,false,false,false,false,false] rfl rfl (any_of HT_.out (by kernel_rfl)) (fun _ _ _ h=>h) (Or.inr ⟨by rfl,rfl⟩) ?_ ?_
         rotate_left
         ·simp only [Act.put,List.setIfInBounds_toArray,List.set_cons_zero,List.set_cons_succ,i64_w,i32_w]
          rfl
         refine pure_ (i:=10) (N:=some 31) (v:=undef) (a':=?_) #[true,true,true,true,true,true,true,true,true,true,true,false,false,false,false,false,false] rfl rfl (any_of HT_.out (by kernel_rfl)) (fun _ _ _ h=>h) (Or.inr ⟨by rfl,rfl⟩) ?_ ?_
         rotate_left
         ·simp only [Act.put,List.setIfInBounds_toArray,List.set_cons_zero,List.set_cons_succ,i64_w,i32_w]
          rfl
         refine pure_ (i:=11) (N:=some 32) (v:=undef) (a':=?_) #[true,true,true,true,true,true,true,true,true,true,true,true,false,false,false,false,false] rfl rfl (any_of HT_.out (by kernel_rfl)) (fun _ _ _ h=>h) (Or.inr ⟨by rfl,rfl⟩) ?_ ?_
         rotate_left
         ·simp only [Act.put,List.setIfInBounds_toArray,List.set_cons_zero,List.set_cons_succ,i64_w,i32_w]
          rfl
         refine pure_ (i:=12) (N:=some 33) (v:=undef) (a':=?_) #[true,true,true,true,true,true,true,true,true,true,true,true,true,false,false,false,false] rfl rfl (any_of HT_.out (by kernel_rfl)) (fun _ _ _ h=>h) (Or.inr ⟨by rfl,rfl⟩) ?_ ?_
         rotate_left
         ·simp only [Act.put,List.setIfInBounds_toArray,List.set_cons_zero,List.set_cons_succ,i64_w,i32_w]
          rfl
         refine pure_ (i:=13) (N:=some 34) (v:=undef) (a':=?_) #[true,true,true,true,true,true,true,true,true,true,true,true,true,true,false,false,false] rfl rfl (any_of HT_.out (by kernel_rfl)) (fun _ _ _ h=>h) (Or.inr ⟨by rfl,rfl⟩) ?_ ?_
         rotate_left
         ·simp only [Act.put,List.setIfInBounds_toArray,List.set_cons_zero,List.set_cons_succ,i64_w,i32_w]
          rfl
         refine pure_ (i:=14) (N:=some 35) (v:=undef) (a':=?_) #[true,true,true,true,true,true,true,true,true,true,true,true,true,true,true,false,false] rfl rfl (any_of HT_.out (by kernel_rfl)) (fun _ _ _ h=>h) (Or.inr ⟨by rfl,rfl⟩) ?_ ?_
         rotate_left
         ·simp only [Act.put,List.setIfInBounds_toArray,List.set_cons_zero,List.set_cons_succ,i64_w,i32_w]
          rfl
         refine pure_ (i:=15) (N:=some 36) (v:=undef) (a':=?_) #[true,true,true,true,true,true,true,true,true,true,true,true,true,true,true,true,false] rfl rfl (any_of HT_.out (by kernel_rfl)) (fun _ _ _ h=>h) (Or.inr ⟨by rfl,rfl⟩) ?_ ?_
         rotate_left
         ·simp only [Act.put,List.setIfInBounds_toArray,List.set_cons_zero,List.set_cons_succ,i64_w,i32_w]
          rfl
         refine pure_ (i:=16) (N:=some 37) (v:=?_) (a':=?_) #[true,true,true,true,true,true,true,true,true,true,true,true,true,true,true,true,true] rfl rfl (any_of HT_.out (by kernel_rfl)) (fun _ _ _ h=>h) (Or.inl ⟨by rfl,?_⟩) ?_ ?_
         rotate_left
         ·intro w'
          go_simp
          with_reducible rfl
         rotate_left
         ·simp only [Act.put,List.setIfInBounds_toArray,List.set_cons_zero,List.set_cons_succ,i64_w,i32_w]
          rfl
         refine done_ (done_of HT_.out (by kernel_rfl)) ?_
         obtain ⟨Ao44,co44,eo44⟩:=Kd.R_slice HO_5.out
         subst eo44
         have hnb45:=NB178_177.out
         have hnc45:=NB177_178.out
         have hcz46_0:w42.cell? ⟨gb178,0,none⟩ = some (.slice none 0 0):=(blk_cell BK178.out 0).trans rfl
         have hcz46_1:w42.cell? ⟨gb178,1,none⟩ = some (.slice none 0 0):=(blk_cell BK178.out 1).trans rfl
         have hfz46_0:=blk_frozen BK178.out 0
         have hfz46_1:=blk_frozen BK178.out 1
         try go_wp2
         refine bodyPost_ret (results_cell_row rfl _ _ gb178 45 #[.slice Ao43 x4_2.length co43,.slice Ao44 x5_2.length co44] (0,0) _ rfl (by (with_reducible repeat (first|refine blk_drewN ?_ _|refine blk_drew ?_|refine blk_alloc ?_ _));refine blk_put (cs:=#[.slice Ao43 x4_2.length co43,.slice none 0 0]) ?_ 1 _ rfl;(with_reducible repeat (first|refine blk_drewN ?_ _|refine blk_drew ?_|refine blk_alloc ?_ _));refine blk_put (cs:=#[.slice none 0 0,.slice none 0 0]) ?_ 0 _ rfl;(with_reducible repeat (first|refine blk_drewN ?_ _|refine blk_drew ?_|refine blk_alloc ?_ _));exact BK178.out) Try.underlying45 rfl (by kernel_rfl)) rfl ?_
         exact ⟨_,_,by first|rfl|(simp [errW_none,errW_some] <;> rfl)|(simp [*,errW_none,errW_some] <;> rfl)|(simp [errW_none,errW_some];exact ⟨rfl,rfl⟩),by (with_reducible repeat (first|apply Kd.R_alloc|apply Kd.R_drewN|apply Kd.R_drew));exact Kd.R_mono (Kd.R_far (p:=⟨gb178,1,none⟩) (Kd.R_far (p:=⟨gb178,0,none⟩) (Kd.R_types HO_4.out BK178.out (by decide)) (fun _ hk=>hk.2) (.slice Ao43 x4_2.length co43)) (fun _ hk=>hk.2) (.slice Ao44 x5_2.length co44)) (fun _ hk=>hk.1),by (with_reducible repeat (first|apply Kd.R_alloc|apply Kd.R_drewN|apply Kd.R_drew));exact Kd.R_mono (Kd.R_far (p:=⟨gb178,1,none⟩) (Kd.R_far (p:=⟨gb178,0,none⟩) (Kd.R_types HO_5.out BK178.out (by decide)) (fun _ hk=>hk.2) (.slice Ao43 x4_2.length co43)) (fun _ hk=>hk.2) (.slice Ao44 x5_2.length co44)) (fun _ hk=>hk.1),by repeat (first|(with_reducible first|exact HB.out|apply below_alloc|apply pw_below_drewN|apply below_drew1|refine below_set ?_ GE177.out|refine below_set ?_ GE178.out)|exact HB.out)⟩
     ·rw [if_neg c8] at H
      exact absurd H (by simp)
    ·rw [if_neg c7] at H
     exact absurd H (by simp)
   ·replace c5:=Bool.eq_false_iff.mpr c5
    subst c5
    have H1:(impl_set_tidy.l0 k1 (wrap64 (x3_1 + 1)) l0_0 l0_1) = some (r1,r2):=by rw [if_neg (show ¬ (false = true) by decide)] at H;exact H
    clear H
    have H:=H1
    clear H1
    have H':=Aside0.mk H
    clear H
    have hnb47:=NB177_178.out
    have hnc47:=NB178_177.out
    have hcz48_0:wr.cell? ⟨gb177,0,none⟩ = some (.slice A0_0 l0_0.length c0_0):=(blk_cell BK177.out 0).trans rfl
    have hcz48_1:wr.cell? ⟨gb177,1,none⟩ = some (.slice A0_1 l0_1.length c0_1):=(blk_cell BK177.out 1).trans rfl
    have hfz48_0:=blk_frozen BK177.out 0
    have hfz48_1:=blk_frozen BK177.out 1
    go_wp2_with (first|((with_reducible refine gate_callee (f:=34) rfl ?_);refine goesL_ (some 9) rfl rfl Try.func34 (by kernel_rfl) rfl #[.slice A0_1 l0_1.length c0_1,.int .i64 x3_1] rfl (by (try simp only [List.map_toArray,List.map_cons,List.map_nil]);first|done|rfl|(simp only [List.length_drop,List.length_take];rfl)) ?_;(with_reducible refine (impl_turns.calls k1 _ _ l0_1 x3_1 false _ ?side1 ?side2 A4.out).mono ?_);(case side1=>repeat (first|exact (Kd.C_below HR0_1.out HB.out)|(with_reducible refine Kd.C_alloc ?_ _)|(with_reducible refine Kd.C_drewN ?_ _)|(with_reducible refine Kd.C_drew ?_)));(case side2=>exact HC0_1.out);rintro e w' ⟨rfl,⟨nd,rfl⟩⟩;refine ⟨_,rfl,?_⟩))
    go_roundg k1
    case measure=>have:=HK1.out;omega
    case rel=>exact ⟨(wrap64 (x3_1 + 1)),(by first|rfl|(simp;done)|(simp [*];done)|(simp [Int.tmod_eq_emod_of_nonneg];done)),H',⟨by have:=HK1.out;omega⟩,⟨by (with_reducible repeat (first|refine blk_drewN ?_ _|refine blk_drew ?_|refine blk_alloc ?_ _));exact BK177.out⟩,⟨by (with_reducible repeat (first|refine blk_drewN ?_ _|refine blk_drew ?_|refine blk_alloc ?_ _));exact BK178.out⟩,⟨by repeat (first|(with_reducible first|exact HB.out|apply below_alloc|apply pw_below_drewN|apply below_drew1|refine below_set ?_ GE177.out|refine below_set ?_ GE178.out)|exact HB.out)⟩⟩

end Go.Proofs.Ytmedlhoahddbmaa.P

namespace Go.Proofs.Ytmedlhoahddbmaa.P
open Go.RowKit Go.Proofs.YtmedlhoahddbmaaW.PrintWords Go.Proofs.YtmedlhoahddbmaaW.PrintLast Go.Proofs.YtmedlhoahddbmaaW.PrintMore
attribute [local go_sem] max2_int min2_int max_two min_two max_three min_three max_four min_four   -- for this text's walks alone
set_option linter.unusedVariables false
set_option linter.unusedSimpArgs false

/-! ### slices_Index_bool_bool: function 33 -/
def slices_Index_bool_bool.l0:Nat → List Bool → Bool → Int → Int → Option (Int)
 | 0,_,_,_,_=>none
 | k + 1,x0,x1,x7,x8=>if x8 < x7 then (if 0≤x8 then (if x8 < (x0.length:Int) then (if (x1 == (rdOf false x0 x8)) = true then (some x8) else (slices_Index_bool_bool.l0 k x0 x1 x7 (wrap64 (x8 + 1)))) else (none)) else (none)) else (some (-1))
def slices_Index_bool_bool.f (k:Nat) (l0:List Bool) (a1:Bool):Option (Int):=slices_Index_bool_bool.l0 k l0 a1 (l0.length:Int) 0
theorem slices_Index_bool_bool.mono_l:∀ k,(∀ y0 y1 y2 y3,LeO (slices_Index_bool_bool.l0 k y0 y1 y2 y3) (slices_Index_bool_bool.l0 (k + 1) y0 y1 y2 y3))
 | 0=>fun _ _ _ _ r h=>by simp [slices_Index_bool_bool.l0] at h
 | k + 1=>by
  have ih0:=slices_Index_bool_bool.mono_l k
  ·intro y0 y1 y2 y3
   unfold slices_Index_bool_bool.l0
   repeat' first
   | (with_reducible exact ih0 _ _ _ _)
   | (with_reducible exact LeO.refl _)
   | (with_reducible exact LeO.none _)
   | (with_reducible refine LeO.ite ?_ ?_)
   | (with_reducible refine LeO.bind ?_ (fun _=>?_))
   | exact ih0 _ _ _ _
   | exact LeO.none _
   | refine LeO.ite ?_ ?_
   | refine LeO.bind ?_ (fun _=>?_)
theorem slices_Index_bool_bool.mono:∀ a0 a1 k,LeO (slices_Index_bool_bool.f k a0 a1) (slices_Index_bool_bool.f (k + 1) a0 a1):=by
 intro a0 a1 k
 have ih0:=slices_Index_bool_bool.mono_l k
 unfold slices_Index_bool_bool.f
 repeat' first
   | (with_reducible exact ih0 _ _ _ _)
   | (with_reducible exact LeO.refl _)
   | (with_reducible exact LeO.none _)
   | (with_reducible refine LeO.ite ?_ ?_)
   | (with_reducible refine LeO.bind ?_ (fun _=>?_))
   | exact ih0 _ _ _ _
   | exact LeO.none _
   | refine LeO.ite ?_ ?_
   | refine LeO.bind ?_ (fun _=>?_)
set_option maxHeartbeats 8000000 in
set_option maxRecDepth 100000 in
theorem slices_Index_bool_bool.calls (k:Nat) (A0:Option Addr) (c0:Nat) (l0:List Bool) (a1:Bool) (r:Int) (w:World) (hr0:Kd.C Kd.bool w A0 l0.length l0) (hc0:l0.length≤c0) (h:slices_Index_bool_bool.f k l0 a1 = some r) :
  Calls Try.prog 33 #[.slice A0 l0.length c0,.bool a1] w fun e w'=>e = .returned (.int .i64 r)∧Drawn0 w w':=by
 have HR0:=Aside0.mk hr0
 have HC0:=Aside0.mk hc0
 clear hr0 hc0
 have H:(slices_Index_bool_bool.l0 k l0 a1 (l0.length:Int) 0) = some r:=h
 clear h
 have H':=Aside0.mk H
 clear H
 go_enter Try.func33,Try.ntmps33
 go_wp2
 go_loopg [8] k (fun kq v8 w'=>∃ (x8_1:Int),v8 = .int .i64 x8_1∧Aside0 (slices_Index_bool_bool.l0 kq l0 a1 (l0.length:Int) x8_1 = some r)∧Aside0 (kq≤k)∧Drawn0 w w')
 case atStart=>exact ⟨(0),(by first|rfl|(simp;done)|(simp [*];done)|(simp [Int.tmod_eq_emod_of_nonneg];done)),H',⟨Nat.le_refl _⟩,by repeat (first|exact Drawn0.refl _|apply Drawn0.step)⟩
 case round =>
  clear H'
  try clear p2
  obtain ⟨x8_1,rfl,HA,HK1,⟨m1,rfl⟩⟩:=hrel
  cases gk with
  | zero=>exact absurd HA.out (by simp [slices_Index_bool_bool.l0])
  | succ k1 =>
   have H:=HA.out
   clear HA
   simp only [slices_Index_bool_bool.l0] at H
   by_cases c3:x8_1 < (l0.length:Int)
   ·rw [if_pos c3] at H
    have c3b0:decide (x8_1 < (l0.length:Int)) = true:=decide_eq_true c3
    clear c3
    by_cases c4:0≤x8_1
    ·rw [if_pos c4] at H
     have c4b0:decide (0≤x8_1) = true:=decide_eq_true c4
     clear c4
     by_cases c5:x8_1 < (l0.length:Int)
     ·rw [if_pos c5] at H
      have c5b0:decide (x8_1 < (l0.length:Int)) = true:=decide_eq_true c5
      clear c5
      by_cases c6:(a1 == (rdOf false l0 x8_1)) = true
      ·rw [if_pos c6] at H
       have c6b0:(a1 == (rdOf false l0 x8_1)) = true:=c6
       (try (have c6b1:decide (a1 = (rdOf false l0 x8_1)) = true:=by simpa using c6))
       (try (have c6b2:(a1 == (rdOf false l0 x8_1)) = true:=by simpa using c6))
       clear c6
       obtain rfl:=Option.some.inj H
       have p313:0≤(x8_1:Int):=of_decide_eq_true (by first|(with_reducible assumption)|assumption)
       have q313:x8_1 < (l0.length:Int):=of_decide_eq_true (by first|(with_reducible assumption)|assumption)
       obtain ⟨ad313,e313,hx313_0⟩:=Kd.at_bool HR0.out x8_1 p313 q313
       cases e313
       replace p313:=eq_true p313
       replace q313:=eq_true q313
       go_wp2
       go_ret
       exact ⟨by first|rfl|(simp;done)|(simp [*];done),by repeat (first|exact Drawn0.refl _|apply Drawn0.step)⟩
      ·rw [if_neg c6] at H
       have c6b0:(a1 == (rdOf false l0 x8_1)) = false:=by simpa using c6
       (try (have c6b1:decide (a1 = (rdOf false l0 x8_1)) = false:=by simpa using c6))
       (try (have c6b2:(a1 == (rdOf false l0 x8_1)) = false:=by simpa using c6))
       (try (have c6b3:¬ (a1 = (rdOf false l0 x8_1)):=by simpa using c6))
       clear c6
       have H':=Aside0.mk H
       clear H
       have p313:0≤(x8_1:Int):=of_decide_eq_true (by first|(with_reducible assumption)|assumption)
       have q313:x8_1 < (l0.length:Int):=of_decide_eq_true (by first|(with_reducible assumption)|assumption)
       obtain ⟨ad313,e313,hx313_0⟩:=Kd.at_bool HR0.out x8_1 p313 q313
       cases e313
       replace p313:=eq_true p313
       replace q313:=eq_true q313
       go_wp2
       go_roundg k1
       case measure=>have:=HK1.out;omega
       case rel=>exact ⟨(wrap64 (x8_1 + 1)),(by first|rfl|(simp;done)|(simp [*];done)|(simp [Int.tmod_eq_emod_of_nonneg];done)),H',⟨by have:=HK1.out;omega⟩,by repeat (first|exact Drawn0.refl _|apply Drawn0.step)⟩
     ·rw [if_neg c5] at H
      exact absurd H (by simp)
    ·rw [if_neg c4] at H
     exact absurd H (by simp)
   ·rw [if_neg c3] at H
    have c3b0:decide (x8_1 < (l0.length:Int)) = false:=decide_eq_false c3
    clear c3
    obtain rfl:=Option.some.inj H
    go_wp2
    go_ret
    exact ⟨by first|rfl|(simp;done)|(simp [*];done),by repeat (first|exact Drawn0.refl _|apply Drawn0.step)⟩

end Go.Proofs.Ytmedlhoahddbmaa.P

namespace Go.Proofs.Ytmedlhoahddbmaa.P
open Go.RowKit Go.Proofs.YtmedlhoahddbmaaW.PrintWords Go.Proofs.YtmedlhoahddbmaaW.PrintLast Go.Proofs.YtmedlhoahddbmaaW.PrintMore
attribute [local go_sem] max2_int min2_int max_two min_two max_three min_three max_four min_four   -- for this text's walks alone
set_option linter.unusedVariables false
set_option linter.unusedSimpArgs false

/-! ### slices_Contains_bool_bool: function 23 -/
def slices_Contains_bool_bool.f (k:Nat) (l0:List Bool) (a1:Bool):Option (Bool):=(slices_Index_bool_bool.f k l0 a1).bind fun t314=>(some (decide (t314 ≥ 0)))
theorem slices_Contains_bool_bool.mono:∀ a0 a1 k,LeO (slices_Contains_bool_bool.f k a0 a1) (slices_Contains_bool_bool.f (k + 1) a0 a1):=by
 intro a0 a1 k
 unfold slices_Contains_bool_bool.f
 repeat' first
   | (with_reducible exact slices_Index_bool_bool.mono _ _ _)
   | (with_reducible exact LeO.refl _)
   | (with_reducible exact LeO.none _)
   | (with_reducible refine LeO.ite ?_ ?_)
   | (with_reducible refine LeO.bind ?_ (fun _=>?_))
   | exact slices_Index_bool_bool.mono _ _ _
   | exact LeO.none _
   | refine LeO.ite ?_ ?_
   | refine LeO.bind ?_ (fun _=>?_)
set_option maxHeartbeats 8000000 in
set_option maxRecDepth 100000 in
theorem slices_Contains_bool_bool.calls (k:Nat) (A0:Option Addr) (c0:Nat) (l0:List Bool) (a1:Bool) (r:Bool) (w:World) (hr0:Kd.C Kd.bool w A0 l0.length l0) (hc0:l0.length≤c0) (h:slices_Contains_bool_bool.f k l0 a1 = some r) :
  Calls Try.prog 23 #[.slice A0 l0.length c0,.bool a1] w fun e w'=>e = .returned (.bool r)∧Drawn0 w w':=by
 have HR0:=Aside0.mk hr0
 have HC0:=Aside0.mk hc0
 clear hr0 hc0
 have H:((slices_Index_bool_bool.f k l0 a1).bind fun t314=>(some (decide (t314 ≥ 0)))) = some r:=h
 clear h
 replace H:=Option.bind_eq_some_iff.mp H
 obtain ⟨t314,A30,H⟩:=H
 replace H:(some (decide (t314 ≥ 0))) = some r:=H
 have A3:=Aside0.mk A30
 clear A30
 obtain rfl:=Option.some.inj H
 go_enter Try.func23,Try.ntmps23
 go_wp2_with (first|((with_reducible refine gate_callee (f:=33) rfl ?_);refine goesL_ (some 7) rfl rfl Try.func33 (by kernel_rfl) rfl #[.slice A0 l0.length c0,.bool a1] rfl (by (try simp only [List.map_toArray,List.map_cons,List.map_nil]);first|done|rfl|(simp only [List.length_drop,List.length_take];rfl)) ?_;(with_reducible refine (slices_Index_bool_bool.calls k _ _ l0 a1 t314 _ ?side1 ?side2 A3.out).mono ?_);(case side1=>repeat (first|exact HR0.out|(with_reducible refine Kd.C_alloc ?_ _)|(with_reducible refine Kd.C_drewN ?_ _)|(with_reducible refine Kd.C_drew ?_)));(case side2=>exact HC0.out);rintro e w' ⟨rfl,⟨nd,rfl⟩⟩;refine ⟨_,rfl,?_⟩))
 go_ret
 exact ⟨by first|rfl|(simp;done)|(simp [*];done),by repeat (first|exact Drawn0.refl _|apply Drawn0.step)⟩

end Go.Proofs.Ytmedlhoahddbmaa.P

namespace Go.Proofs.Ytmedlhoahddbmaa.P
open Go.RowKit Go.Proofs.YtmedlhoahddbmaaW.PrintWords Go.Proofs.YtmedlhoahddbmaaW.PrintLast Go.Proofs.YtmedlhoahddbmaaW.PrintMore
attribute [local go_sem] max2_int min2_int max_two min_two max_three min_three max_four min_four   -- for this text's walks alone
set_option linter.unusedVariables false
set_option linter.unusedSimpArgs false

/-! ### slices_Index_int_int: function 27 -/
def slices_Index_int_int.l0:Nat → List Int → Int → Int → Int → Option (Int)
 | 0,_,_,_,_=>none
 | k + 1,x0,x1,x7,x8=>if x8 < x7 then (if 0≤x8 then (if x8 < (x0.length:Int) then (if x1 = (rd x0 x8) then (some x8) else (slices_Index_int_int.l0 k x0 x1 x7 (wrap64 (x8 + 1)))) else (none)) else (none)) else (some (-1))
def slices_Index_int_int.f (k:Nat) (l0:List Int) (a1:Int):Option (Int):=slices_Index_int_int.l0 k l0 a1 (l0.length:Int) 0
theorem slices_Index_int_int.mono_l:∀ k,(∀ y0 y1 y2 y3,LeO (slices_Index_int_int.l0 k y0 y1 y2 y3) (slices_Index_int_int.l0 (k + 1) y0 y1 y2 y3))
 | 0=>fun _ _ _ _ r h=>by simp [slices_Index_int_int.l0] at h
 | k + 1=>by
  have ih0:=slices_Index_int_int.mono_l k
  ·intro y0 y1 y2 y3
   unfold slices_Index_int_int.l0
   repeat' first
   | (with_reducible exact ih0 _ _ _ _)
   | (with_reducible exact LeO.refl _)
   | (with_reducible exact LeO.none _)
   | (with_reducible refine LeO.ite ?_ ?_)
   | (with_reducible refine LeO.bind ?_ (fun _=>?_))
   | exact ih0 _ _ _ _
   | exact LeO.none _
   | refine LeO.ite ?_ ?_
   | refine LeO.bind ?_ (fun _=>?_)
theorem slices_Index_int_int.mono:∀ a0 a1 k,LeO (slices_Index_int_int.f k a0 a1) (slices_Index_int_int.f (k + 1) a0 a1):=by
 intro a0 a1 k
 have ih0:=slices_Index_int_int.mono_l k
 unfold slices_Index_int_int.f
 repeat' first
   | (with_reducible exact ih0 _ _ _ _)
   | (with_reducible exact LeO.refl _)
   | (with_reducible exact LeO.none _)
   | (with_reducible refine LeO.ite ?_ ?_)
   | (with_reducible refine LeO.bind ?_ (fun _=>?_))
   | exact ih0 _ _ _ _
   | exact LeO.none _
   | refine LeO.ite ?_ ?_
   | refine LeO.bind ?_ (fun _=>?_)
set_option maxHeartbeats 8000000 in
set_option maxRecDepth 100000 in
theorem slices_Index_int_int.calls (k:Nat) (A0:Option Addr) (c0:Nat) (l0:List Int) (a1:Int) (r:Int) (w:World) (hr0:Kd.C (Kd.int .i64) w A0 l0.length l0) (hc0:l0.length≤c0) (h:slices_Index_int_int.f k l0 a1 = some r) :
  Calls Try.prog 27 #[.slice A0 l0.length c0,.int .i64 a1] w fun e w'=>e = .returned (.int .i64 r)∧Drawn0 w w':=by
 have HR0:=Aside0.mk hr0
 have HC0:=Aside0.mk hc0
 clear hr0 hc0
 have H:(slices_Index_int_int.l0 k l0 a1 (l0.length:Int) 0) = some r:=h
 clear h
 have H':=Aside0.mk H
 clear H
 go_enter Try.func27,Try.ntmps27
 go_wp2
 go_loopg [8] k (fun kq v8 w'=>∃ (x8_1:Int),v8 = .int .i64 x8_1∧Aside0 (slices_Index_int_int.l0 kq l0 a1 (l0.length:Int) x8_1 = some r)∧Aside0 (kq≤k)∧Drawn0 w w')
 case atStart=>exact ⟨(0),(by first|rfl|(simp;done)|(simp [*];done)|(simp [Int.tmod_eq_emod_of_nonneg];done)),H',⟨Nat.le_refl _⟩,by repeat (first|exact Drawn0.refl _|apply Drawn0.step)⟩
 case round =>
  clear H'
  try clear c2
  try clear p2
  obtain ⟨x8_1,rfl,HA,HK1,⟨m1,rfl⟩⟩:=hrel
  cases gk with
  | zero=>exact absurd HA.out (by simp [slices_Index_int_int.l0])
  | succ k1 =>
   have H:=HA.out
   clear HA
   simp only [slices_Index_int_int.l0] at H
   by_cases c3:x8_1 < (l0.length:Int)
   ·rw [if_pos c3] at H
    have c3b0:decide (x8_1 < (l0.length:Int)) = true:=decide_eq_true c3
    clear c3
    by_cases c4:0≤x8_1
    ·rw [if_pos c4] at H
     have c4b0:decide (0≤x8_1) = true:=decide_eq_true c4
     clear c4
     by_cases c5:x8_1 < (l0.length:Int)
     ·rw [if_pos c5] at H
      have c5b0:decide (x8_1 < (l0.length:Int)) = true:=decide_eq_true c5
      clear c5
      by_cases c6:a1 = (rd l0 x8_1)
      ·rw [if_pos c6] at H
       have c6b0:(a1 == (rd l0 x8_1)) = true:=beq_iff_eq.mpr c6
       have c6b1:(a1 != (rd l0 x8_1)) = false:=bne_eq_false_iff_eq.mpr c6
       clear c6
       obtain rfl:=Option.some.inj H
       have p139:0≤(x8_1:Int):=of_decide_eq_true (by first|(with_reducible assumption)|assumption)
       have q139:x8_1 < (l0.length:Int):=of_decide_eq_true (by first|(with_reducible assumption)|assumption)
       obtain ⟨ad139,e139,hx139_0⟩:=Kd.at_int HR0.out x8_1 p139 q139
       cases e139
       replace p139:=eq_true p139
       replace q139:=eq_true q139
       go_wp2
       go_ret
       exact ⟨by first|rfl|(simp;done)|(simp [*];done),by repeat (first|exact Drawn0.refl _|apply Drawn0.step)⟩
      ·rw [if_neg c6] at H
       have c6b0:(a1 == (rd l0 x8_1)) = false:=beq_eq_false_iff_ne.mpr c6
       have c6b1:(a1 != (rd l0 x8_1)) = true:=bne_iff_ne.mpr c6
       have H':=Aside0.mk H
       clear H
       have p139:0≤(x8_1:Int):=of_decide_eq_true (by first|(with_reducible assumption)|assumption)
       have q139:x8_1 < (l0.length:Int):=of_decide_eq_true (by first|(with_reducible assumption)|assumption)
       obtain ⟨ad139,e139,hx139_0⟩:=Kd.at_int HR0.out x8_1 p139 q139
       cases e139
       replace p139:=eq_true p139
       replace q139:=eq_true q139
       go_wp2
       go_roundg k1
       case measure=>have:=HK1.out;omega
       case rel=>exact ⟨(wrap64 (x8_1 + 1)),(by first|rfl|(simp;done)|(simp [*];done)|(simp [Int.tmod_eq_emod_of_nonneg];done)),H',⟨by have:=HK1.out;omega⟩,by repeat (first|exact Drawn0.refl _|apply Drawn0.step)⟩
     ·rw [if_neg c5] at H
      exact absurd H (by simp)
    ·rw [if_neg c4] at H
     exact absurd H (by simp)
   ·rw [if_neg c3] at H
    have c3b0:decide (x8_1 < (l0.length:Int)) = false:=decide_eq_false c3
    clear c3
    obtain rfl:=Option.some.inj H
    go_wp2
    go_ret
    exact ⟨by first|rfl|(simp;done)|(simp [*];done),by repeat (first|exact Drawn0.refl _|apply Drawn0.step)⟩

end Go.Proofs.Ytmedlhoahddbmaa.P

namespace Go.Proofs.Ytmedlhoahddbmaa.P
open Go.RowKit Go.Proofs.YtmedlhoahddbmaaW.PrintWords Go.Proofs.YtmedlhoahddbmaaW.PrintLast Go.Proofs.YtmedlhoahddbmaaW.PrintMore
attribute [local go_sem] max2_int min2_int max_two min_two max_three min_three max_four min_four   -- for this text's walks alone
set_option linter.unusedVariables false
set_option linter.unusedSimpArgs false

/-! ### slices_Contains_int_int: function 17 -/
def slices_Contains_int_int.f (k:Nat) (l0:List Int) (a1:Int):Option (Bool):=(slices_Index_int_int.f k l0 a1).bind fun t140=>(some (decide (t140 ≥ 0)))
theorem slices_Contains_int_int.mono:∀ a0 a1 k,LeO (slices_Contains_int_int.f k a0 a1) (slices_Contains_int_int.f (k + 1) a0 a1):=by
 intro a0 a1 k
 unfold slices_Contains_int_int.f
 repeat' first
   | (with_reducible exact slices_Index_int_int.mono _ _ _)
   | (with_reducible exact LeO.refl _)
   | (with_reducible exact LeO.none _)
   | (with_reducible refine LeO.ite ?_ ?_)
   | (with_reducible refine LeO.bind ?_ (fun _=>?_))
   | exact slices_Index_int_int.mono _ _ _
   | exact LeO.none _
   | refine LeO.ite ?_ ?_
   | refine LeO.bind ?_ (fun _=>?_)
set_option maxHeartbeats 8000000 in
set_option maxRecDepth 100000 in
theorem slices_Contains_int_int.calls (k:Nat) (A0:Option Addr) (c0:Nat) (l0:List Int) (a1:Int) (r:Bool) (w:World) (hr0:Kd.C (Kd.int .i64) w A0 l0.length l0) (hc0:l0.length≤c0) (h:slices_Contains_int_int.f k l0 a1 = some r) :
  Calls Try.prog 17 #[.slice A0 l0.length c0,.int .i64 a1] w fun e w'=>e = .returned (.bool r)∧Drawn0 w w':=by
 have HR0:=Aside0.mk hr0
 have HC0:=Aside0.mk hc0
 clear hr0 hc0
 have H:((slices_Index_int_int.f k l0 a1).bind fun t140=>(some (decide (t140 ≥ 0)))) = some r:=h
 clear h
 replace H:=Option.bind_eq_some_iff.mp H
 obtain ⟨t140,A30,H⟩:=H
 replace H:(some (decide (t140 ≥ 0))) = some r:=H
 have A3:=Aside0.mk A30
 clear A30
 obtain rfl:=Option.some.inj H
 go_enter Try.func17,Try.ntmps17
 go_wp2_with (first|((with_reducible refine gate_callee (f:=27) rfl ?_);refine goesL_ (some 7) rfl rfl Try.func27 (by kernel_rfl) rfl #[.slice A0 l0.length c0,.int .i64 a1] rfl (by (try simp only [List.map_toArray,List.map_cons,List.map_nil]);first|done|rfl|(simp only [List.length_drop,List.length_take];rfl)) ?_;(with_reducible refine (slices_Index_int_int.calls k _ _ l0 a1 t140 _ ?side1 ?side2 A3.out).mono ?_);(case side1=>repeat (first|exact HR0.out|(with_reducible refine Kd.C_alloc ?_ _)|(with_reducible refine Kd.C_drewN ?_ _)|(with_reducible refine Kd.C_drew ?_)));(case side2=>exact HC0.out);rintro e w' ⟨rfl,⟨nd,rfl⟩⟩;refine ⟨_,rfl,?_⟩))
 go_ret
 exact ⟨by first|rfl|(simp;done)|(simp [*];done),by repeat (first|exact Drawn0.refl _|apply Drawn0.step)⟩

end Go.Proofs.Ytmedlhoahddbmaa.P

namespace Go.Proofs.Ytmedlhoahddbmaa.P
open Go.RowKit Go.Proofs.YtmedlhoahddbmaaW.PrintWords Go.Proofs.YtmedlhoahddbmaaW.PrintLast Go.Proofs.YtmedlhoahddbmaaW.PrintMore
attribute [local go_sem] max2_int min2_int max_two min_two max_three min_three max_four min_four   -- for this text's walks alone
set_option linter.unusedVariables false
set_option linter.unusedSimpArgs false

/-! ### spec_l1Bit: function 37 -/
def spec_l1Bit.f (a0:Bool):Option (Int):=if a0 = true then (some 1) else (some 0)
set_option maxHeartbeats 8000000 in
set_option maxRecDepth 100000 in
theorem spec_l1Bit.calls (a0:Bool) (r:Int) (w:World) (h:spec_l1Bit.f a0 = some r) :
  Calls Try.prog 37 #[.bool a0] w fun e w'=>e = .returned (.int .i64 r)∧Drawn0 w w':=by
 have H:(if a0 = true then (some 1) else (some 0)) = some r:=h
 clear h
 by_cases c2:a0 = true
 ·subst c2
  have H1:(some 1) = some r:=by rw [if_pos rfl] at H;exact H
  clear H
  have H:=H1
  clear H1
  obtain rfl:=Option.some.inj H
  go_enter Try.func37,Try.ntmps37
  go_wp2
  go_ret
  exact ⟨by first|rfl|(simp;done)|(simp [*];done),by repeat (first|exact Drawn0.refl _|apply Drawn0.step)⟩
 ·replace c2:=Bool.eq_false_iff.mpr c2
  subst c2
  have H1:(some 0) = some r:=by rw [if_neg (show ¬ (false = true) by decide)] at H;exact H
  clear H
  have H:=H1
  clear H1
  obtain rfl:=Option.some.inj H
  go_enter Try.func37,Try.ntmps37
  go_wp2
  go_ret
  exact ⟨by first|rfl|(simp;done)|(simp [*];done),by repeat (first|exact Drawn0.refl _|apply Drawn0.step)⟩

end Go.Proofs.Ytmedlhoahddbmaa.P
