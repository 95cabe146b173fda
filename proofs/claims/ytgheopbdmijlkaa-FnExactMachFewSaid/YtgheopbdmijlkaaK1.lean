/- What these laws reach, joined by a program of this session: contracts (written by that program over the kit's print, or by hand) and plain lemmas. -/
import Derived.Shelf.Strings.Builder1
import Derived.Test.YtgheopbdmijlkaaProg
import Derived.Below
import Derived.Deep.Draws
import Derived.Deep.AppendLies
import Derived.Maps.AppendAt
import Derived.OwnWalk
import Derived.Laws.BytesArg
import Derived.Laws.MakeOwn
import Derived.Laws.OwnMore
import Derived.Deep.OwnRows
import Derived.Tactics
import Derived.Lib.ConvBytes
import Derived.Laws.Slices
import Derived.WalkKit
import Derived.KernelRfl
import Derived.RowKit3
import Derived.Deep.LoopGhost
import Derived.Deep.QuietTactic
import Derived.BigQuiet
import Derived.WideLaws
import Derived.Deep.DeepCutAuto
import Derived.Deep.CutBlock
import Derived.Deep.RegionHeld3
import Derived.Laws.Rows
import Derived.Lib.AppendStr
import Derived.ArgAppend
import Derived.Laws.IdiomCopy
import Derived.OrdersHeld
import Derived.Laws.BitsLemmas
import Derived.RowKit
import Derived.Test.YtgheopbdmijlkaaV
import Derived.Lib.SliceRun
import Derived.WalkSpells
open Go.Proofs.YtgheopbdmijlkaaW.PrintWords renaming below_alloc → yA, pw_below_drewN → yB, below_drew1 → yC, below_set → yD, blk_drewN → yE, blk_drew → yF, blk_alloc → yG, below_step → yP, below_size → yQ
open Go.Proofs.YtgheopbdmijlkaaW.PrintWords.Kd renaming R_alloc → yH, R_drewN → yI, R_drew → yJ
open List renaming setIfInBounds_toArray → yK, set_cons_zero → yL, set_cons_succ → yM
/-
  DERIVED: THE SHELF's CONTRACTS AT THIS DUMP, IN PLAIN WORDS (tools/lay-plain.mjs out of 'TryShelf.lean', which tools/lay-shelf.mjs wrote): THE SAME DECLARATIONS UNDER THE SAME NAMES: 'import', 'namespace', 'open', 'def', 'theorem' AND NOTHING ELSE: no command of the shelf's: FOR A HAND-IN. Each laying: the table of numbers ('.._ren') and one theorem, a field a fact of the dump's own or the kernel's comparison; each contract: ONE APPLICATION.
-/
namespace Go.Proofs
open Go.Shelf
def Try.lays169_ren : Go.Shelf.Ren := ⟨fun | 169 => 86 | n => n, fun | 70 => 91 | 9 => 9 | 0 => 0 | 72 => 93 | 37 => 83 | 127 => 100 | 3 => 3 | 5 => 5 | n => n, fun | n => n⟩
theorem Try.lays169 : Go.Proofs.Lays.n169 Try.prog Try.lays169_ren := {
  mixed := by kernel_rfl
  f169 := Try.func86.trans (congrArg some (by kernel_rfl))
  t0 := Try.underlying0
  a0 := Try.isAgg0
  z0 := Try.sizeOf0
  v0 := Try.zeroValue0
  t3 := Try.underlying3
  a3 := Try.isAgg3
  z3 := Try.sizeOf3
  v3 := Try.zeroValue3
  t9 := Try.underlying9
  a9 := Try.isAgg9
  z9 := Try.sizeOf9
  v9 := Try.zeroValue9
  t37 := Try.underlying83
  a37 := Try.isAgg83
  z37 := Try.sizeOf83
  v37 := Try.zeroValue83
  t70 := Try.underlying91
  a70 := Try.isAgg91
  z70 := Try.sizeOf91
  v70 := Try.zeroValue91
  t72 := Try.underlying93
  a72 := Try.isAgg93
  z72 := Try.sizeOf93
  v72 := Try.zeroValue93
  t127 := Try.underlying100
  a127 := Try.isAgg100
  z127 := Try.sizeOf100
  v127 := Try.zeroValue100 }
theorem Try.Builder_Extra_169 : Builder.Extra Try.prog Try.lays169_ren := {
  sizeBuilder := by kernel_rfl
  liesBuilder := by kernel_rfl
  t5 := Try.underlying5
  a5 := Try.isAgg5
  z5 := Try.sizeOf5
  v5 := Try.zeroValue5
  infoByte := by kernel_rfl
  cellsByte := by kernel_rfl
  sizeByte := by kernel_rfl
  neB5 := by decide }
open Go.RowKit in
/-- (*strings.Builder).String: "String returns the accumulated string.": OF A BUILDER THAT HOLDS AT LEAST ONE BYTE. ✋ THE MODEL FREEZES THOSE BYTES IN THE BUFFER (unsafe.String): a later write INTO them ends the model's run without an answer; a later append BEHIND them goes on. The statement's order of evaluation is drawn: one draw. (LAID: no walk: one application.) -/
theorem Try.Builder_String (B b : Nat) (l : List UInt8) (w : World) (h : Lib.IsBuilder 93 5 B b (Lib.byteCells l) w) (h0 : l ≠ []) :
    Calls Try.prog 86 #[.pointer (some ⟨b, 0, none⟩)] w fun e w' => e = .returned (.string ⟨l.toArray⟩) ∧ Below B w w' := Any.Builder_String Try.lays169 Try.Builder_Extra_169 B b l w h h0
open Go.RowKit in
/-- (*strings.Builder).String OF A BUILDER THAT HOLDS NO BYTE: the empty string. (Its buffer is nil, or a row of which it has taken nothing yet; where that row has NO capacity the model lays one new block for unsafe.SliceData's 'some address'.) One draw. (LAID: no walk: one application.) -/
theorem Try.Builder_String_empty (B b : Nat) (w : World) (h : Lib.IsBuilder 93 5 B b [] w) (hBw : B ≤ w.heap.size) :
    Calls Try.prog 86 #[.pointer (some ⟨b, 0, none⟩)] w fun e w' => e = .returned (.string ⟨#[]⟩) ∧ Below B w w' := Any.Builder_String_empty Try.lays169 Try.Builder_Extra_169 B b w h hBw
open Go.RowKit in
/-- (*strings.Builder).String: "String returns the accumulated string.": WHATEVER THE BUILDER HOLDS. (LAID: no walk: one application.) -/
theorem Try.Builder_String_any (B b : Nat) (l : List UInt8) (w : World) (h : Lib.IsBuilder 93 5 B b (Lib.byteCells l) w) (hBw : B ≤ w.heap.size) :
    Calls Try.prog 86 #[.pointer (some ⟨b, 0, none⟩)] w fun e w' => e = .returned (.string ⟨l.toArray⟩) ∧ Below B w w' := Any.Builder_String_any Try.lays169 Try.Builder_Extra_169 B b l w h hBw
end Go.Proofs

namespace Go.Proofs.Ytgheopbdmijlkaa.P
open Go.RowKit Go.Proofs.YtgheopbdmijlkaaW.PrintWords Go.Proofs.YtgheopbdmijlkaaW.PrintLast Go.Proofs.YtgheopbdmijlkaaW.PrintMore
attribute [local go_sem] max2_int min2_int max_two min_two max_three min_three max_four min_four   -- for this text's walks alone
set_option linter.unusedVariables false
set_option linter.unusedSimpArgs false

def errW : Option Int → Value
  | none => .nilIface
  | some c => .iface 0 (.int .i64 c)
theorem errW_none : errW none = .nilIface := rfl
theorem errW_some (c : Int) : errW (some c) = .iface 0 (.int .i64 c) := rfl

theorem bne_f {a b : Bool} (h : ¬ (a != b) = true) : (a == b) = true := by cases a <;> cases b <;> simp_all
theorem bne_t {a b : Bool} (h : (a != b) = true) : (a == b) = false := by cases a <;> cases b <;> simp_all
theorem bne_ft {a : Bool} (h : ¬ (a != (!false)) = true) : (!a) = false := by cases a <;> simp_all
theorem bne_tt {a : Bool} (h : (a != (!false)) = true) : (!a) = true := by cases a <;> simp_all

theorem info3 : (Try.prog.info? 3).map (fun i => (i.zero, i.size, i.bytes)) = some (some (.int .i64 0), 1, 8) := by kernel_rfl
theorem info4 : (Try.prog.info? 4).map (fun i => (i.zero, i.size, i.bytes)) = some (some (.bool false), 1, 1) := by kernel_rfl
theorem info5 : (Try.prog.info? 5).map (fun i => (i.zero, i.size, i.bytes)) = some (some (.int .u8 0), 1, 1) := by kernel_rfl
-- the values' own types

end Go.Proofs.Ytgheopbdmijlkaa.P

-- '[]byte(s)': a new row of bytes, which is only read.
namespace Go.Proofs.Ytgheopbdmijlkaa.P
open Go.RowKit Go.Proofs.YtgheopbdmijlkaaW.PrintWords Go.Proofs.YtgheopbdmijlkaaW.PrintLast Go.Proofs.YtgheopbdmijlkaaW.PrintMore
set_option linter.unusedVariables false
set_option linter.unusedSimpArgs false

def bytesConv.f (a0 : ByteArray) : Option (List Int) := if a0.size ≤ 70368744177664 then some (bytesOf a0) else none

theorem conv_event {P : Program} {ops : Array Oper} {rest : List Oper} {o : Oper} {a : Act} {Q : Exit → Act → World → Prop} {W : World} (N : Tmp) (hd : o.dst = some N) (hg : o.guard = none) (T t e : TypeId) {u : TypeDesc}
    (hs : P.underlying T = some u) (ht : P.underlying t = some (.slice e)) (he : P.underlying e = some (.int .u8)) (s : ByteArray) {r : List Int} (hr : bytesConv.f s = some r) (ho : ∃ x, o.op = .convert T t x ∧ a.eval x = .string s)
    (h : ∀ v w1, Kd.V (Kd.int .u8) e w1 W.heap.size (fun k_ => W.heap.size ≤ k_) v r → Below W.heap.size W w1 → wpList P ops Q rest (a.put (some N) v) w1) : wpList P ops Q (o :: rest) a W := by
  obtain ⟨x, hx, hv⟩ := ho
  unfold bytesConv.f at hr
  by_cases hsz : s.size ≤ 70368744177664
  · rw [if_pos hsz] at hr
    injection hr with hr
    subst hr
    have hrun : (execOp a.eval o).run P W = .ok (.value (.slice (some ⟨W.heap.size, 0, none⟩) s.size (grownCap W s.size 0 e))) (Lib.bytesWorld W e s) := by
      have hp := print_bytes T t e hs ht he s W
      unfold execOp
      simp only [hx, hv, Sem.run_bind, Sem.run_pure, hp, Result.andThen_ok]
    rw [← hd] at h
    refine Kd.event_run hg hrun (h _ _ ?_ ?_)
    · refine ⟨_, _, by rw [bytesOf_length], ?_, ?_⟩
      · rw [bytesOf_length]; exact grownCap_ge _ _ _ _
      · rw [bytesOf_length]
        intro W' hW
        have h1 := bytes_reads W e s (by omega)
        have hb : W'.heap[W.heap.size]? = (Lib.bytesWorld W e s).heap[W.heap.size]? := hW _ (Nat.le_refl _) (by rw [Lib.bytesWorld_size]; omega)
        refine Kd.C_of_reads (d := (0 : Int)) (h1 := fun _ => rfl) ?_
        obtain ⟨g1, g2, g3⟩ := h1
        refine ⟨g1, g2, fun hp => ?_⟩
        obtain ⟨ad, had, hc⟩ := g3 hp
        refine ⟨ad, had, fun j hj => ?_⟩
        rw [← hc j hj]
        injection had with had
        subst had
        have hbk : ((⟨W.heap.size, 0, none⟩ : Addr).add j).block = W.heap.size := by unfold Addr.add; split <;> rfl
        unfold World.cell?
        rw [hbk, hb]
    · exact bytes_below (Below.refl _ _) (Nat.le_refl _) e s
  · rw [if_neg hsz] at hr; cases hr
end Go.Proofs.Ytgheopbdmijlkaa.P

-- slices.Clone at []bool: a new row of the same elements.
namespace Go.Proofs.Ytgheopbdmijlkaa.P
open Go.RowKit Go.Proofs.YtgheopbdmijlkaaW.PrintWords Go.Proofs.YtgheopbdmijlkaaW.PrintLast Go.Proofs.YtgheopbdmijlkaaW.PrintMore
set_option linter.unusedVariables false
set_option linter.unusedSimpArgs false

def slices_Clone_bool_bool.f (l0 : List Bool) : Option (List Bool) := if l0.length ≤ 70368744177664 then some l0 else none

set_option maxHeartbeats 4000000 in
set_option maxRecDepth 100000 in
theorem slices_Clone_bool_bool.calls (A0 : Option Addr) (c0 : Nat) (l0 : List Bool) (r : List Bool) (w : World) (hr0 : Kd.C Kd.bool w A0 l0.length l0) (hc0 : l0.length ≤ c0) (h : slices_Clone_bool_bool.f l0 = some r) :
    Calls Try.prog 80 #[.slice A0 l0.length c0] w fun e w' => ∃ v0_ : Value, e = .returned (v0_) ∧ Kd.R Kd.bool 4 w' w.heap.size (fun _ => True) v0_ r ∧ Below w.heap.size w w' := by
  have hlen : l0.length ≤ 70368744177664 := by
    unfold slices_Clone_bool_bool.f at h
    split at h
    · assumption
    · cases h
  obtain rfl : l0 = r := by
    unfold slices_Clone_bool_bool.f at h
    rw [if_pos hlen] at h
    injection h
  have hq : ∀ (w : World) (a : Option Addr) (n c n' c' : Nat), (binOp .eql 39 (.slice a n c) (.slice none n' c')).run Try.prog w = .ok (.bool a.isNone) w := fun w a n c n' c' => Lib.run_eql_slice_nil w _ _ a n c n' c' Try.underlying39
  have HR := Aside0.mk hr0
  clear hr0 h
  cases A0 with
  | none =>
    have h0 : l0 = [] := by
      rcases Nat.eq_zero_or_pos l0.length with h | h
      · exact List.eq_nil_of_length_eq_zero h
      · obtain ⟨ad, e, _⟩ := HR.out.2.2 h
        cases e
    subst h0
    go_enter Try.func80, Try.ntmps80
    go_wp2
    go_ret
    exact ⟨_, rfl, Kd.R_nil _ _ _ _ _, Below.refl _ _⟩
  | some ad =>
    have HL := Aside0.mk hlen
    clear hlen hc0
    go_enter Try.func80, Try.ntmps80
    go_wp2_with (first | ((with_reducible refine gate_dst (N := 5) rfl ?_); refine Kd.R_lit Kd.bool w.heap.size 4 ?hg (N := 5) ?hd (xs := ([] : List Bool)) (inner := []) (ok := fun _ => True) (okp := fun _ => True) ?hr ?hp (fun _ hk => hk) trivial (Below.refl _ _) (Nat.le_refl _) (by simp) ?_; (case hd => rfl); (case hg => rfl); (case hr => first | (go_simp; done) | (go_simp; rfl)); (case hp => exact (Reps.none _ _)); intro v1 w1 ho1 hb1 hg1 hn1; have HO := Aside0.mk ho1; have HB := Aside0.mk hb1; clear ho1 hb1 hg1 hn1) | ((with_reducible refine gate_builtin (b := .append) (xs := #[.tmp 5, .tmp 6]) rfl ?_); refine Kd.R_append_row Value.bool false (h1 := fun _ => rfl) (w0 := w) w.heap.size rfl (.tmp 5) (.tmp 6) 39 4 (.bool false) 1 rfl Try.underlying39 info4 rfl (by decide) v1 [] l0 (some ad) l0.length c0 (fun _ => True) rfl rfl (fun _ _ => trivial) HO.out (Kd.C_below HR.out HB.out) HB.out HB.out.size (by have := HL.out; simp; omega) ?_; intro v2 w2 ho2 hb2 hg2 hat2; have HO2 := Aside0.mk ho2; have HB2 := Aside0.mk hb2; clear ho2 hb2 hg2 hat2))
    go_ret
    exact ⟨_, rfl, by have h := HO2.out; rw [List.nil_append] at h; exact h, HB2.out⟩
end Go.Proofs.Ytgheopbdmijlkaa.P

namespace Go.Proofs.Ytgheopbdmijlkaa.P
open Go.RowKit Go.Proofs.YtgheopbdmijlkaaW.PrintWords Go.Proofs.YtgheopbdmijlkaaW.PrintLast Go.Proofs.YtgheopbdmijlkaaW.PrintMore
attribute [local go_sem] max2_int min2_int max_two min_two max_three min_three max_four min_four   -- for this text's walks alone
set_option linter.unusedVariables false
set_option linter.unusedSimpArgs false

/-! ### impl_in: function 75 -/
def impl_in.f (a0:Int) (a1:Int) (a2:Int):Option (Bool):=if a0 ≥ a1 then (some (decide (a0≤a2))) else (some false)
set_option maxHeartbeats 8000000 in
set_option maxRecDepth 100000 in
theorem impl_in.calls (a0:Int) (a1:Int) (a2:Int) (r:Bool) (w:World) (h:impl_in.f a0 a1 a2=some r) :
  Calls Try.prog 75 #[.int .i64 a0,.int .i64 a1,.int .i64 a2] w fun e w'=>e=.returned (.bool r)∧Drawn0 w w':=by
 have H:(if a0 ≥ a1 then (some (decide (a0≤a2))) else (some false))=some r:=h
 clear h
 by_cases c4:a0 ≥ a1
 ·rw [if_pos c4] at H
  have c4b0:decide (a1≤a0)=true:=decide_eq_true c4
  clear c4
  obtain rfl:=Option.some.inj H
  go_enter Try.func75,Try.ntmps75
  go_wp2
  go_ret
  exact ⟨by first|rfl|(simp;done)|(simp [*];done),by repeat (first|exact Drawn0.refl _|apply Drawn0.step)⟩
 ·rw [if_neg c4] at H
  have c4b0:decide (a1≤a0)=false:=decide_eq_false c4
  clear c4
  obtain rfl:=Option.some.inj H
  go_enter Try.func75,Try.ntmps75
  go_wp2
  go_ret
  exact ⟨by first|rfl|(simp;done)|(simp [*];done),by repeat (first|exact Drawn0.refl _|apply Drawn0.step)⟩

end Go.Proofs.Ytgheopbdmijlkaa.P

namespace Go.Proofs.Ytgheopbdmijlkaa.P
open Go.RowKit Go.Proofs.YtgheopbdmijlkaaW.PrintWords Go.Proofs.YtgheopbdmijlkaaW.PrintLast Go.Proofs.YtgheopbdmijlkaaW.PrintMore
attribute [local go_sem] max2_int min2_int max_two min_two max_three min_three max_four min_four   -- for this text's walks alone
set_option linter.unusedVariables false
set_option linter.unusedSimpArgs false

/-! ### impl_Machine_next: function 61 -/
def impl_Machine_next.l0:Nat→Int→Int→List Int→Int→Int→Option (Int)
 | 0,_,_,_,_,_=>none
 | k+1,x1,x5,x9,x10,x11=>if x11<x10 then (if 0≤x11 then (if x11<(x9.length:Int) then (if (Go.bits .and .i64 (shr .i64 x1 x11) 1)=1 then (impl_Machine_next.l0 k x1 (Go.bits .or .i64 x5 (rd x9 x11)) x9 x10 (wrap64 (x11+1))) else (impl_Machine_next.l0 k x1 x5 x9 x10 (wrap64 (x11+1)))) else (none)) else (none)) else (some x5)
def impl_Machine_next.f (k:Nat) (l0_0:List Int) (a0_1:Int) (a0_2:Int) (a1:Int):Option (Int):=impl_Machine_next.l0 k a1 0 l0_0 (l0_0.length:Int) 0
theorem impl_Machine_next.mono_l:∀ k,(∀ y0 y1 y2 y3 y4,LeO (impl_Machine_next.l0 k y0 y1 y2 y3 y4) (impl_Machine_next.l0 (k+1) y0 y1 y2 y3 y4))
 | 0=>fun _ _ _ _ _ r h=>by simp [impl_Machine_next.l0] at h
 | k+1=>by
  have ih0:=impl_Machine_next.mono_l k
  ·intro y0 y1 y2 y3 y4
   unfold impl_Machine_next.l0
   repeat' first
   | (with_reducible exact ih0 _ _ _ _ _)
   | (with_reducible exact LeO.refl _)
   | (with_reducible exact LeO.none _)
   | (with_reducible refine LeO.ite ?_ ?_)
   | (with_reducible refine LeO.bind ?_ (fun _=>?_))
   | exact ih0 _ _ _ _ _
   | exact LeO.none _
   | refine LeO.ite ?_ ?_
   | refine LeO.bind ?_ (fun _=>?_)
theorem impl_Machine_next.mono:∀ a0 a1 a2 a3 k,LeO (impl_Machine_next.f k a0 a1 a2 a3) (impl_Machine_next.f (k+1) a0 a1 a2 a3):=by
 intro a0 a1 a2 a3 k
 have ih0:=impl_Machine_next.mono_l k
 unfold impl_Machine_next.f
 repeat' first
   | (with_reducible exact ih0 _ _ _ _ _)
   | (with_reducible exact LeO.refl _)
   | (with_reducible exact LeO.none _)
   | (with_reducible refine LeO.ite ?_ ?_)
   | (with_reducible refine LeO.bind ?_ (fun _=>?_))
   | exact ih0 _ _ _ _ _
   | exact LeO.none _
   | refine LeO.ite ?_ ?_
   | refine LeO.bind ?_ (fun _=>?_)
set_option maxHeartbeats 8000000 in
set_option maxRecDepth 100000 in
theorem impl_Machine_next.calls (k:Nat) (A0_0:Option Addr) (c0_0:Nat) (l0_0:List Int) (a0_1:Int) (a0_2:Int) (a1:Int) (r:Int) (w:World) (hr0_0:Kd.C (Kd.int .i64) w A0_0 l0_0.length l0_0) (hc0_0:l0_0.length≤c0_0) (h:impl_Machine_next.f k l0_0 a0_1 a0_2 a1=some r) :
  Calls Try.prog 61 #[.agg #[.slice A0_0 l0_0.length c0_0,.int .i64 a0_1,.int .i64 a0_2],.int .i64 a1] w fun e w'=>e=.returned (.int .i64 r)∧Below w.heap.size w w':=by
 have hu31:=Try.underlying31
 have HR0_0:=Aside0.mk hr0_0
 have HC0_0:=Aside0.mk hc0_0
 clear hr0_0 hc0_0
 have HB:=Aside0.mk (Below.refl w.heap.size w)
 have H:(impl_Machine_next.l0 k a1 0 l0_0 (l0_0.length:Int) 0)=some r:=h
 clear h
 have H':=Aside0.mk H
 clear H
 go_enter Try.func61,Try.ntmps61
 go_wp2_with (first|((with_reducible refine gate_dst (N:=2) rfl ?_);refine box_event ?hg (N:=2) ?hd (cs:=#[.slice A0_0 l0_0.length c0_0,.int .i64 a0_1,.int .i64 a0_2]) (t:=31) ?hr ?_;(case hd=>rfl);(case hg=>rfl);(case hr=>first|(go_simp;done)|(go_simp;rfl));intro gb465 hg w3 hbox hb;have n0_:=Aside0.mk (yP (by repeat (first|(with_reducible first|exact HB.out|apply yA|apply yB|apply yC)|exact HB.out)) hb);have n1_:=Aside0.mk (hbox);have n2_:=Aside0.mk ((by rw [hg];exact (yQ (by repeat (first|(with_reducible first|exact HB.out|apply yA|apply yB|apply yC)|exact HB.out))):w.heap.size≤gb465));have n3_:=Aside0.mk ((by rw [hg];exact (yQ (by repeat (first|(with_reducible first|exact HB.out|apply yA|apply yB|apply yC)|exact HB.out))):w.heap.size≤gb465));clear HB;have HB:=n0_;have BK465:=n1_;have GW465:=n2_;have GE465:=n3_;clear n0_ n1_ n2_ n3_;clear hb hbox hg;have hcz4_0:w3.cell? ⟨gb465,0,none⟩=some (.slice A0_0 l0_0.length c0_0):=(blk_cell BK465.out 0).trans rfl;have hcz4_1:w3.cell? ⟨gb465,1,none⟩=some (.int .i64 a0_1):=(blk_cell BK465.out 1).trans rfl;have hcz4_2:w3.cell? ⟨gb465,2,none⟩=some (.int .i64 a0_2):=(blk_cell BK465.out 2).trans rfl;have hfz4_0:=blk_frozen BK465.out 0;have hfz4_1:=blk_frozen BK465.out 1;have hfz4_2:=blk_frozen BK465.out 2))
 go_loopg [5,11] k (fun kq v5 v11 w'=>∃ (x5_1:Int) (x11_1:Int),v5=.int .i64 x5_1∧v11=.int .i64 x11_1∧Aside0 (impl_Machine_next.l0 kq a1 x5_1 l0_0 (l0_0.length:Int) x11_1=some r)∧Aside0 (kq≤k)∧Aside0 (w'.heap[gb465]?=some (.cells #[(.slice A0_0 l0_0.length c0_0),.int .i64 a0_1,.int .i64 a0_2] 31 (0,0)))∧Aside0 (Below w.heap.size w w'))
 case atStart=>exact ⟨(0),(0),(by first|rfl|(simp;done)|(simp [*];done)|(simp [Int.tmod_eq_emod_of_nonneg];done)),(by first|rfl|(simp;done)|(simp [*];done)|(simp [Int.tmod_eq_emod_of_nonneg];done)),H',⟨Nat.le_refl _⟩,⟨by (with_reducible repeat (first|refine yE ?_ _|refine yF ?_|refine yG ?_ _));exact BK465.out⟩,⟨by repeat (first|(with_reducible first|exact HB.out|apply yA|apply yB|apply yC|refine yD ?_ GE465.out)|exact HB.out)⟩⟩
 case round =>
  clear H'
  try clear p2
  try clear hcz4_0
  try clear hcz4_1
  try clear hcz4_2
  try clear hfz4_0
  try clear hfz4_1
  try clear hfz4_2
  obtain ⟨x5_1,x11_1,rfl,rfl,HA,HK1,BK465,HB⟩:=hrel
  cases gk with
  | zero=>exact absurd HA.out (by simp [impl_Machine_next.l0])
  | succ k1 =>
   have H:=HA.out
   clear HA
   simp only [impl_Machine_next.l0] at H
   by_cases c5:x11_1<(l0_0.length:Int)
   ·rw [if_pos c5] at H
    have c5b0:decide (x11_1<(l0_0.length:Int))=true:=decide_eq_true c5
    clear c5
    by_cases c6:0≤x11_1
    ·rw [if_pos c6] at H
     have c6b0:decide (0≤x11_1)=true:=decide_eq_true c6
     clear c6
     by_cases c7:x11_1<(l0_0.length:Int)
     ·rw [if_pos c7] at H
      have c7b0:decide (x11_1<(l0_0.length:Int))=true:=decide_eq_true c7
      clear c7
      have c8b0:=eq_true (of_decide_eq_true (by first|(with_reducible assumption)|assumption):0≤x11_1)
      obtain ⟨ji9,hji9⟩:∃ j_:Int,(shr .i64 a1 x11_1)=j_:=⟨_,rfl⟩
      replace H:(if (Go.bits .and .i64 (ji9) 1)=1 then (impl_Machine_next.l0 k1 a1 (Go.bits .or .i64 x5_1 (rd l0_0 x11_1)) l0_0 (l0_0.length:Int) (wrap64 (x11_1+1))) else (impl_Machine_next.l0 k1 a1 x5_1 l0_0 (l0_0.length:Int) (wrap64 (x11_1+1))))=some r:=by first|(rw [hji9] at H;exact H)|(simp only [hji9] at H ⊢;exact H)
      have hji9_:(a1 / 2 ^ min x11_1.toNat 64)=ji9:=hji9
      have hji9z:x11_1≤64→(a1 / 2 ^ x11_1.toNat)=ji9:=shr_small hji9
      by_cases c10:(Go.bits .and .i64 (ji9) 1)=1
      ·rw [if_pos c10] at H
       have c10b0:((Go.bits .and .i64 (ji9) 1) == 1)=true:=beq_iff_eq.mpr c10
       have c10b1:((Go.bits .and .i64 (ji9) 1) != 1)=false:=bne_eq_false_iff_eq.mpr c10
       clear c10
       have H':=Aside0.mk H
       clear H
       have p466:0≤(x11_1:Int):=of_decide_eq_true (by first|(with_reducible assumption)|assumption)
       have q466:x11_1<(l0_0.length:Int):=of_decide_eq_true (by first|(with_reducible assumption)|assumption)
       obtain ⟨ad466,e466,hx466_0⟩:=Kd.at_int HR0_0.out x11_1 p466 q466
       cases e466
       replace hx466_0:=(HB.out.cell (World.block_lt_of_cell? w _ hx466_0)).trans hx466_0
       replace p466:=eq_true p466
       replace q466:=eq_true q466
       go_wp2
       go_roundg k1
       case measure=>have:=HK1.out;omega
       case rel=>exact ⟨(Go.bits .or .i64 x5_1 (rd l0_0 x11_1)),(wrap64 (x11_1+1)),(by first|rfl|(simp;done)|(simp [*];done)|(simp [Int.tmod_eq_emod_of_nonneg];done)),(by first|rfl|(simp;done)|(simp [*];done)|(simp [Int.tmod_eq_emod_of_nonneg];done)),H',⟨by have:=HK1.out;omega⟩,⟨by (with_reducible repeat (first|refine yE ?_ _|refine yF ?_|refine yG ?_ _));exact BK465.out⟩,⟨by repeat (first|(with_reducible first|exact HB.out|apply yA|apply yB|apply yC|refine yD ?_ GE465.out)|exact HB.out)⟩⟩
      ·rw [if_neg c10] at H
       have c10b0:((Go.bits .and .i64 (ji9) 1) == 1)=false:=beq_eq_false_iff_ne.mpr c10
       have c10b1:((Go.bits .and .i64 (ji9) 1) != 1)=true:=bne_iff_ne.mpr c10
       have H':=Aside0.mk H
       clear H
       have p466:0≤(x11_1:Int):=of_decide_eq_true (by first|(with_reducible assumption)|assumption)
       have q466:x11_1<(l0_0.length:Int):=of_decide_eq_true (by first|(with_reducible assumption)|assumption)
       obtain ⟨ad466,e466,hx466_0⟩:=Kd.at_int HR0_0.out x11_1 p466 q466
       cases e466
       replace hx466_0:=(HB.out.cell (World.block_lt_of_cell? w _ hx466_0)).trans hx466_0
       replace p466:=eq_true p466
       replace q466:=eq_true q466
       go_wp2
       go_roundg k1
       case measure=>have:=HK1.out;omega
       case rel=>exact ⟨(x5_1),(wrap64 (x11_1+1)),(by first|rfl|(simp;done)|(simp [*];done)|(simp [Int.tmod_eq_emod_of_nonneg];done)),(by first|rfl|(simp;done)|(simp [*];done)|(simp [Int.tmod_eq_emod_of_nonneg];done)),H',⟨by have:=HK1.out;omega⟩,⟨by (with_reducible repeat (first|refine yE ?_ _|refine yF ?_|refine yG ?_ _));exact BK465.out⟩,⟨by repeat (first|(with_reducible first|exact HB.out|apply yA|apply yB|apply yC|refine yD ?_ GE465.out)|exact HB.out)⟩⟩
     ·rw [if_neg c7] at H
      exact absurd H (by simp)
    ·rw [if_neg c6] at H
     exact absurd H (by simp)
   ·rw [if_neg c5] at H
    have c5b0:decide (x11_1<(l0_0.length:Int))=false:=decide_eq_false c5
    clear c5
    obtain rfl:=Option.some.inj H
    go_wp2
    go_ret
    exact ⟨by first|rfl|(simp [errW_none,errW_some]<;>rfl)|(simp [*,errW_none,errW_some]<;>rfl)|(simp [errW_none,errW_some];exact ⟨rfl,rfl⟩),by repeat (first|(with_reducible first|exact HB.out|apply yA|apply yB|apply yC|refine yD ?_ GE465.out)|exact HB.out)⟩

end Go.Proofs.Ytgheopbdmijlkaa.P

namespace Go.Proofs.Ytgheopbdmijlkaa.P
open Go.RowKit Go.Proofs.YtgheopbdmijlkaaW.PrintWords Go.Proofs.YtgheopbdmijlkaaW.PrintLast Go.Proofs.YtgheopbdmijlkaaW.PrintMore
attribute [local go_sem] max2_int min2_int max_two min_two max_three min_three max_four min_four   -- for this text's walks alone
set_option linter.unusedVariables false
set_option linter.unusedSimpArgs false

/-! ### impl_signs: function 55 -/
def impl_signs.l0:Nat→List Bool→List Int→Int→Int→Option (List Bool × Bool)
 | 0,_,_,_,_=>none
 | k+1,x4,x8,x9,x10=>if x10<x9 then (if 0≤x10 then (if x10<(x8.length:Int) then (if (rd x8 x10)=48 then (if x4.length<140737488355328 then (impl_signs.l0 k (x4++[((rd x8 x10) == 49)]) x8 x9 (wrap64 (x10+1))) else (none)) else (if (rd x8 x10)=49 then (if x4.length<140737488355328 then (impl_signs.l0 k (x4++[true]) x8 x9 (wrap64 (x10+1))) else (none)) else (some (([]:List Bool),false)))) else (none)) else (none)) else (some (x4,decide ((x4.length:Int)≤60)))
def impl_signs.f (k:Nat) (a0:ByteArray):Option (List Bool × Bool):=(bytesConv.f a0).bind fun t250=>(impl_signs.l0 k ([]:List Bool) t250 (t250.length:Int) 0)
theorem impl_signs.mono_l:∀ k,(∀ y0 y1 y2 y3,LeO (impl_signs.l0 k y0 y1 y2 y3) (impl_signs.l0 (k+1) y0 y1 y2 y3))
 | 0=>fun _ _ _ _ r h=>by simp [impl_signs.l0] at h
 | k+1=>by
  have ih0:=impl_signs.mono_l k
  ·intro y0 y1 y2 y3
   unfold impl_signs.l0
   repeat' first
   | (with_reducible exact ih0 _ _ _ _)
   | (with_reducible exact LeO.refl _)
   | (with_reducible exact LeO.none _)
   | (with_reducible refine LeO.ite ?_ ?_)
   | (with_reducible refine LeO.bind ?_ (fun _=>?_))
   | exact ih0 _ _ _ _
   | exact LeO.none _
   | refine LeO.ite ?_ ?_
   | refine LeO.bind ?_ (fun _=>?_)
theorem impl_signs.mono:∀ a0 k,LeO (impl_signs.f k a0) (impl_signs.f (k+1) a0):=by
 intro a0 k
 have ih0:=impl_signs.mono_l k
 unfold impl_signs.f
 repeat' first
   | (with_reducible exact ih0 _ _ _ _)
   | (with_reducible exact LeO.refl _)
   | (with_reducible exact LeO.none _)
   | (with_reducible refine LeO.ite ?_ ?_)
   | (with_reducible refine LeO.bind ?_ (fun _=>?_))
   | exact ih0 _ _ _ _
   | exact LeO.none _
   | refine LeO.ite ?_ ?_
   | refine LeO.bind ?_ (fun _=>?_)
set_option maxHeartbeats 8000000 in
set_option maxRecDepth 100000 in
theorem impl_signs.calls (k:Nat) (a0:ByteArray) (r1:List Bool) (r2:Bool) (w:World) (h:impl_signs.f k a0=some (r1,r2)) :
  Calls Try.prog 55 #[.string a0] w fun e w'=>∃ v0_:Value,e=.returned (.tuple #[v0_,.bool r2])∧Kd.R Kd.bool 4 w' w.heap.size (fun _=>True) v0_ r1∧Below w.heap.size w w':=by
 have HB:=Aside0.mk (Below.refl w.heap.size w)
 have H:((bytesConv.f a0).bind fun t250=>(impl_signs.l0 k ([]:List Bool) t250 (t250.length:Int) 0))=some (r1,r2):=h
 clear h
 replace H:=Option.bind_eq_some_iff.mp H
 obtain ⟨t250,A20,H⟩:=H
 replace H:(impl_signs.l0 k ([]:List Bool) t250 (t250.length:Int) 0)=some (r1,r2):=H
 have A2:=Aside0.mk A20
 clear A20
 have H':=Aside0.mk H
 clear H
 go_enter Try.func55,Try.ntmps55
 go_wp2_with (first|((with_reducible refine gate_dst (N:=8) rfl ?_);refine conv_event (P:=Try.prog) 8 rfl rfl 9 83 5 Try.underlying9 Try.underlying83 Try.underlying5 a0 A2.out ⟨_,rfl,rfl⟩ ?_;intro v251 w3 ho0 hb;have n0_:=Aside0.mk (Kd.V_lower (Kd.V_mono (ok':=fun k_=>True) ho0 (fun k_ hk_=>trivial)) (yQ (by repeat (first|(with_reducible first|exact HB.out|apply yA|apply yB|apply yC)|exact HB.out))));have n1_:=Aside0.mk (yP (by repeat (first|(with_reducible first|exact HB.out|apply yA|apply yB|apply yC)|exact HB.out)) hb);clear HB;have HO252:=n0_;have HB:=n1_;clear n0_ n1_;(try clear hb);(try clear hb2);(try clear hk);(try clear hi);(try clear ho0);obtain ⟨Ao4,co4,eo4⟩:=Kd.V_slice HO252.out;subst eo4))
 go_loopg [4,10] k (fun kq v4 v10 w'=>∃ (x4_1:List Bool) (x10_1:Int),v10=.int .i64 x10_1∧Aside0 (impl_signs.l0 kq x4_1 t250 (t250.length:Int) x10_1=some (r1,r2))∧Aside0 (kq≤k)∧Aside0 (Kd.R Kd.bool 4 w' w.heap.size (fun _=>True) v4 x4_1)∧Aside0 (Kd.V (Kd.int .u8) 5 w' w.heap.size (fun k_=>some k_≠(v4:Value).ownBlock) (.slice Ao4 t250.length co4) t250)∧Aside0 (Below w.heap.size w w'))
 case atStart=>exact ⟨(([]:List Bool)),(0),(by first|rfl|(simp;done)|(simp [*];done)|(simp [Int.tmod_eq_emod_of_nonneg];done)),H',⟨Nat.le_refl _⟩,⟨by first|exact Kd.R_nil _ _ _ _ _|exact Kd.N_nil _ _ _ _ _|exact Kd.V_nil _ _ _ _ _|exact Kd.Q_nil _ _ _ _ _|exact Kd.S_nil _ _ _ _ _⟩,⟨by (with_reducible repeat (first|apply Kd.V_alloc|apply Kd.V_drewN|apply Kd.V_drew));exact Kd.V_mono HO252.out (fun _ hk=>(by simp [Value.ownBlock]))⟩,⟨by repeat (first|(with_reducible first|exact HB.out|apply yA|apply yB|apply yC)|exact HB.out)⟩⟩
 case round =>
  clear H'
  try clear c1
  try clear p2
  obtain ⟨x4_1,x10_1,rfl,HA,HK1,HO_4,HO_8,HB⟩:=hrel
  cases gk with
  | zero=>exact absurd HA.out (by simp [impl_signs.l0])
  | succ k1 =>
   have H:=HA.out
   clear HA
   simp only [impl_signs.l0] at H
   by_cases c5:x10_1<(t250.length:Int)
   ·rw [if_pos c5] at H
    have c5b0:decide (x10_1<(t250.length:Int))=true:=decide_eq_true c5
    clear c5
    by_cases c6:0≤x10_1
    ·rw [if_pos c6] at H
     have c6b0:decide (0≤x10_1)=true:=decide_eq_true c6
     clear c6
     by_cases c7:x10_1<(t250.length:Int)
     ·rw [if_pos c7] at H
      have c7b0:decide (x10_1<(t250.length:Int))=true:=decide_eq_true c7
      clear c7
      by_cases c8:(rd t250 x10_1)=48
      ·rw [if_pos c8] at H
       have c8b0:((rd t250 x10_1) == 48)=true:=beq_iff_eq.mpr c8
       have c8b1:((rd t250 x10_1) != 48)=false:=bne_eq_false_iff_eq.mpr c8
       clear c8
       by_cases c9:x4_1.length<140737488355328
       ·rw [if_pos c9] at H
        have LMc9:=Aside0.mk c9
        clear c9
        obtain ⟨y254,hy254⟩:∃ y_:List Bool,y_=(x4_1++[((rd t250 x10_1) == 49)]):=⟨_,rfl⟩
        replace H:(impl_signs.l0 k1 y254 t250 (t250.length:Int) (wrap64 (x10_1+1)))=some (r1,r2):=by first|(rw [hy254];with_reducible exact H)|(have H2_:=(Option.bind_some _ _).symm.trans H;rw [hy254];with_reducible exact H2_)|(have H2_:=(Option.bind_some _ _).symm.trans H;with_reducible exact H2_)|with_reducible exact H|(rw [hy254];exact H)|exact H
        have Ny254:=Aside0.mk hy254
        clear hy254
        have H':=Aside0.mk H
        clear H
        have p253:0≤(x10_1:Int):=of_decide_eq_true (by first|(with_reducible assumption)|assumption)
        have q253:x10_1<(t250.length:Int):=of_decide_eq_true (by first|(with_reducible assumption)|assumption)
        obtain ⟨ad253,e253,hx253_0⟩:=Kd.at_int (Kd.V_reads' HO_8.out).2.2 x10_1 p253 q253
        cases e253
        replace p253:=eq_true p253
        replace q253:=eq_true q253
        go_wp2_with (first|((with_reducible refine gate_builtin (b:=.append) (xs:=#[.tmp 20,.tmp 23]) rfl ?_);at_builtin;refine Kd.R_append Kd.bool (w0:=w) w.heap.size rfl (.tmp 20) (.tmp 23) 39 4 (.bool false) 1 rfl Try.underlying39 info4 rfl (by decide) (by omega) u4 x4_1 ((rd t250 x10_1) == 49) [.bool ((rd t250 x10_1) == 49)] (fun _=>True) (fun _=>False) rfl rfl ?aP (fun _ hk=>hk.elim) ?aF ?aO ?aB ?aS ?aL ?_;(case aP=>exact rfl);(case aB=>exact (by repeat (first|(with_reducible first|exact HB.out|apply yA|apply yB|apply yC)|exact HB.out)));(case aF=>exact (fun _ _=>trivial));(case aO=>exact (by (with_reducible repeat (first|apply yH|apply yI|apply yJ));exact HO_4.out));(case aS=>exact (yQ (by repeat (first|(with_reducible first|exact HB.out|apply yA|apply yB|apply yC)|exact HB.out))));(case aL=>have:=LMc9.out;omega);intro v255 w10 ho hb hg hat;rw [← Ny254.out] at ho;have n0_:=Aside0.mk (Kd.V_afterv (ok:=(fun _=>True)) (by (with_reducible repeat (first|apply Kd.V_alloc|apply Kd.V_drewN|apply Kd.V_drew));exact Kd.V_mono HO_8.out (fun _ hk=>⟨trivial,hk⟩)) hg hat);have n1_:=Aside0.mk (hb);have n2_:=Aside0.mk (ho);clear HO_8;clear HB;clear HO_4;have HO_8:=n0_;have HB:=n1_;have HO256:=n2_;clear n0_ n1_ n2_;clear ho hb hg hat))
        go_roundg k1
        case measure=>have:=HK1.out;omega
        case rel=>exact ⟨(y254),(wrap64 (x10_1+1)),(by first|rfl|(simp;done)|(simp [*];done)|(simp [Int.tmod_eq_emod_of_nonneg];done)),H',⟨by have:=HK1.out;omega⟩,⟨by (with_reducible repeat (first|apply yH|apply yI|apply yJ));exact HO256.out⟩,⟨by (with_reducible repeat (first|apply Kd.V_alloc|apply Kd.V_drewN|apply Kd.V_drew));exact Kd.V_mono HO_8.out (fun _ hk=>hk.2)⟩,⟨by repeat (first|(with_reducible first|exact HB.out|apply yA|apply yB|apply yC)|exact HB.out)⟩⟩
       ·rw [if_neg c9] at H
        exact absurd H (by simp)
      ·rw [if_neg c8] at H
       have c8b0:((rd t250 x10_1) == 48)=false:=beq_eq_false_iff_ne.mpr c8
       have c8b1:((rd t250 x10_1) != 48)=true:=bne_iff_ne.mpr c8
       by_cases c11:(rd t250 x10_1)=49
       ·rw [if_pos c11] at H
        have c11b0:((rd t250 x10_1) == 49)=true:=beq_iff_eq.mpr c11
        have c11b1:((rd t250 x10_1) != 49)=false:=bne_eq_false_iff_eq.mpr c11
        clear c11
        by_cases c12:x4_1.length<140737488355328
        ·rw [if_pos c12] at H
         have LMc12:=Aside0.mk c12
         clear c12
         obtain ⟨y257,hy257⟩:∃ y_:List Bool,y_=(x4_1++[true]):=⟨_,rfl⟩
         replace H:(impl_signs.l0 k1 y257 t250 (t250.length:Int) (wrap64 (x10_1+1)))=some (r1,r2):=by first|(rw [hy257];with_reducible exact H)|(have H2_:=(Option.bind_some _ _).symm.trans H;rw [hy257];with_reducible exact H2_)|(have H2_:=(Option.bind_some _ _).symm.trans H;with_reducible exact H2_)|with_reducible exact H|(rw [hy257];exact H)|exact H
         have Ny257:=Aside0.mk hy257
         clear hy257
         have H':=Aside0.mk H
         clear H
         have p253:0≤(x10_1:Int):=of_decide_eq_true (by first|(with_reducible assumption)|assumption)
         have q253:x10_1<(t250.length:Int):=of_decide_eq_true (by first|(with_reducible assumption)|assumption)
         obtain ⟨ad253,e253,hx253_0⟩:=Kd.at_int (Kd.V_reads' HO_8.out).2.2 x10_1 p253 q253
         cases e253
         replace p253:=eq_true p253
         replace q253:=eq_true q253
         go_wp2_with (first|((with_reducible refine gate_builtin (b:=.append) (xs:=#[.tmp 20,.tmp 23]) rfl ?_);at_builtin;refine Kd.R_append Kd.bool (w0:=w) w.heap.size rfl (.tmp 20) (.tmp 23) 39 4 (.bool false) 1 rfl Try.underlying39 info4 rfl (by decide) (by omega) u4 x4_1 true [.bool true] (fun _=>True) (fun _=>False) rfl rfl ?aP (fun _ hk=>hk.elim) ?aF ?aO ?aB ?aS ?aL ?_;(case aP=>exact rfl);(case aB=>exact (by repeat (first|(with_reducible first|exact HB.out|apply yA|apply yB|apply yC)|exact HB.out)));(case aF=>exact (fun _ _=>trivial));(case aO=>exact (by (with_reducible repeat (first|apply yH|apply yI|apply yJ));exact HO_4.out));(case aS=>exact (yQ (by repeat (first|(with_reducible first|exact HB.out|apply yA|apply yB|apply yC)|exact HB.out))));(case aL=>have:=LMc12.out;omega);intro v258 w13 ho hb hg hat;rw [← Ny257.out] at ho;have n0_:=Aside0.mk (Kd.V_afterv (ok:=(fun _=>True)) (by (with_reducible repeat (first|apply Kd.V_alloc|apply Kd.V_drewN|apply Kd.V_drew));exact Kd.V_mono HO_8.out (fun _ hk=>⟨trivial,hk⟩)) hg hat);have n1_:=Aside0.mk (hb);have n2_:=Aside0.mk (ho);clear HO_8;clear HB;clear HO_4;have HO_8:=n0_;have HB:=n1_;have HO259:=n2_;clear n0_ n1_ n2_;clear ho hb hg hat))
         go_roundg k1
         case measure=>have:=HK1.out;omega
         case rel=>exact ⟨(y257),(wrap64 (x10_1+1)),(by first|rfl|(simp;done)|(simp [*];done)|(simp [Int.tmod_eq_emod_of_nonneg];done)),H',⟨by have:=HK1.out;omega⟩,⟨by (with_reducible repeat (first|apply yH|apply yI|apply yJ));exact HO259.out⟩,⟨by (with_reducible repeat (first|apply Kd.V_alloc|apply Kd.V_drewN|apply Kd.V_drew));exact Kd.V_mono HO_8.out (fun _ hk=>hk.2)⟩,⟨by repeat (first|(with_reducible first|exact HB.out|apply yA|apply yB|apply yC)|exact HB.out)⟩⟩
        ·rw [if_neg c12] at H
         exact absurd H (by simp)
       ·rw [if_neg c11] at H
        have c11b0:((rd t250 x10_1) == 49)=false:=beq_eq_false_iff_ne.mpr c11
        have c11b1:((rd t250 x10_1) != 49)=true:=bne_iff_ne.mpr c11
        simp only [Option.some.injEq,Prod.mk.injEq] at H
        obtain ⟨rfl,rfl⟩:=H
        have p253:0≤(x10_1:Int):=of_decide_eq_true (by first|(with_reducible assumption)|assumption)
        have q253:x10_1<(t250.length:Int):=of_decide_eq_true (by first|(with_reducible assumption)|assumption)
        obtain ⟨ad253,e253,hx253_0⟩:=Kd.at_int (Kd.V_reads' HO_8.out).2.2 x10_1 p253 q253
        cases e253
        replace p253:=eq_true p253
        replace q253:=eq_true q253
        go_wp2
        go_ret2
        exact ⟨_,by first|rfl|(simp [errW_none,errW_some]<;>rfl)|(simp [*,errW_none,errW_some]<;>rfl)|(simp [errW_none,errW_some];exact ⟨rfl,rfl⟩),by first|exact Kd.R_nil _ _ _ _ _|exact Kd.N_nil _ _ _ _ _|exact Kd.V_nil _ _ _ _ _|exact Kd.Q_nil _ _ _ _ _|exact Kd.S_nil _ _ _ _ _,by repeat (first|(with_reducible first|exact HB.out|apply yA|apply yB|apply yC)|exact HB.out)⟩
     ·rw [if_neg c7] at H
      exact absurd H (by simp)
    ·rw [if_neg c6] at H
     exact absurd H (by simp)
   ·rw [if_neg c5] at H
    have c5b0:decide (x10_1<(t250.length:Int))=false:=decide_eq_false c5
    clear c5
    simp only [Option.some.injEq,Prod.mk.injEq] at H
    obtain ⟨rfl,rfl⟩:=H
    obtain ⟨Ao14,co14,eo14⟩:=Kd.R_slice HO_4.out
    subst eo14
    go_wp2
    go_ret2
    exact ⟨_,by first|rfl|(simp [errW_none,errW_some]<;>rfl)|(simp [*,errW_none,errW_some]<;>rfl)|(simp [errW_none,errW_some];exact ⟨rfl,rfl⟩),by (with_reducible repeat (first|apply yH|apply yI|apply yJ));exact HO_4.out,by repeat (first|(with_reducible first|exact HB.out|apply yA|apply yB|apply yC)|exact HB.out)⟩

end Go.Proofs.Ytgheopbdmijlkaa.P

namespace Go.Proofs.Ytgheopbdmijlkaa.P
open Go.RowKit Go.Proofs.YtgheopbdmijlkaaW.PrintWords Go.Proofs.YtgheopbdmijlkaaW.PrintLast Go.Proofs.YtgheopbdmijlkaaW.PrintMore
attribute [local go_sem] max2_int min2_int max_two min_two max_three min_three max_four min_four   -- for this text's walks alone
set_option linter.unusedVariables false
set_option linter.unusedSimpArgs false

/-! ### impl_turns: function 79 -/
def impl_turns.l0:Nat→List Bool→Int→Int→Int→Option (Bool)
 | 0,_,_,_,_=>none
 | k+1,x0,x1,x7,x8=>if x8<x7 then (if 0≤x8 then (if x8<(x0.length:Int) then (if x1=0 then (none) else (if 0≤(Int.tmod x8 x1) then (if (Int.tmod x8 x1)<(x0.length:Int) then (if ((rdOf false x0 x8) != (rdOf false x0 (Int.tmod x8 x1)))=true then (some false) else (impl_turns.l0 k x0 x1 x7 (wrap64 (x8+1)))) else (none)) else (none))) else (none)) else (none)) else (if x1=0 then (none) else (some (((x0.length:Int) % x1) == 0)))
def impl_turns.f (k:Nat) (l0:List Bool) (a1:Int):Option (Bool):=impl_turns.l0 k l0 a1 (l0.length:Int) 0
theorem impl_turns.mono_l:∀ k,(∀ y0 y1 y2 y3,LeO (impl_turns.l0 k y0 y1 y2 y3) (impl_turns.l0 (k+1) y0 y1 y2 y3))
 | 0=>fun _ _ _ _ r h=>by simp [impl_turns.l0] at h
 | k+1=>by
  have ih0:=impl_turns.mono_l k
  ·intro y0 y1 y2 y3
   unfold impl_turns.l0
   repeat' first
   | (with_reducible exact ih0 _ _ _ _)
   | (with_reducible exact LeO.refl _)
   | (with_reducible exact LeO.none _)
   | (with_reducible refine LeO.ite ?_ ?_)
   | (with_reducible refine LeO.bind ?_ (fun _=>?_))
   | exact ih0 _ _ _ _
   | exact LeO.none _
   | refine LeO.ite ?_ ?_
   | refine LeO.bind ?_ (fun _=>?_)
theorem impl_turns.mono:∀ a0 a1 k,LeO (impl_turns.f k a0 a1) (impl_turns.f (k+1) a0 a1):=by
 intro a0 a1 k
 have ih0:=impl_turns.mono_l k
 unfold impl_turns.f
 repeat' first
   | (with_reducible exact ih0 _ _ _ _)
   | (with_reducible exact LeO.refl _)
   | (with_reducible exact LeO.none _)
   | (with_reducible refine LeO.ite ?_ ?_)
   | (with_reducible refine LeO.bind ?_ (fun _=>?_))
   | exact ih0 _ _ _ _
   | exact LeO.none _
   | refine LeO.ite ?_ ?_
   | refine LeO.bind ?_ (fun _=>?_)
set_option maxHeartbeats 8000000 in
set_option maxRecDepth 100000 in
theorem impl_turns.calls (k:Nat) (A0:Option Addr) (c0:Nat) (l0:List Bool) (a1:Int) (r:Bool) (w:World) (hr0:Kd.C Kd.bool w A0 l0.length l0) (hc0:l0.length≤c0) (h:impl_turns.f k l0 a1=some r) :
  Calls Try.prog 79 #[.slice A0 l0.length c0,.int .i64 a1] w fun e w'=>e=.returned (.bool r)∧Drawn0 w w':=by
 have HR0:=Aside0.mk hr0
 have HC0:=Aside0.mk hc0
 clear hr0 hc0
 have H:(impl_turns.l0 k l0 a1 (l0.length:Int) 0)=some r:=h
 clear h
 have H':=Aside0.mk H
 clear H
 go_enter Try.func79,Try.ntmps79
 go_wp2
 repeat (go_quiet (fail);try go_wp2)
 go_loopg [8] k (fun kq v8 w'=>∃ (x8_1:Int),v8=.int .i64 x8_1∧Aside0 (impl_turns.l0 kq l0 a1 (l0.length:Int) x8_1=some r)∧Aside0 (kq≤k)∧Drawn0 w w')
 case atStart=>exact ⟨(0),(by first|rfl|(simp;done)|(simp [*];done)|(simp [Int.tmod_eq_emod_of_nonneg];done)),H',⟨Nat.le_refl _⟩,by repeat (first|exact Drawn0.refl _|apply Drawn0.step)⟩
 case round =>
  clear H'
  try clear p2
  obtain ⟨x8_1,rfl,HA,HK1,⟨m1,rfl⟩⟩:=hrel
  cases gk with
  | zero=>exact absurd HA.out (by simp [impl_turns.l0])
  | succ k1 =>
   have H:=HA.out
   clear HA
   simp only [impl_turns.l0] at H
   by_cases c3:x8_1<(l0.length:Int)
   ·rw [if_pos c3] at H
    have c3b0:decide (x8_1<(l0.length:Int))=true:=decide_eq_true c3
    clear c3
    by_cases c4:0≤x8_1
    ·rw [if_pos c4] at H
     have c4b0:decide (0≤x8_1)=true:=decide_eq_true c4
     clear c4
     by_cases c5:x8_1<(l0.length:Int)
     ·rw [if_pos c5] at H
      have c5b0:decide (x8_1<(l0.length:Int))=true:=decide_eq_true c5
      clear c5
      by_cases c6:a1=0
      ·rw [if_pos c6] at H
       exact absurd H (by simp)
      ·rw [if_neg c6] at H
       have c6b0:(a1 == 0)=false:=beq_eq_false_iff_ne.mpr c6
       have c6b1:(a1 != 0)=true:=bne_iff_ne.mpr c6
       obtain ⟨ji7,hji7⟩:∃ j_:Int,(Int.tmod x8_1 a1)=j_:=⟨_,rfl⟩
       replace H:(if 0≤(ji7) then (if (ji7)<(l0.length:Int) then (if ((rdOf false l0 x8_1) != (rdOf false l0 (ji7)))=true then (some false) else (impl_turns.l0 k1 l0 a1 (l0.length:Int) (wrap64 (x8_1+1)))) else (none)) else (none))=some r:=by first|(rw [hji7] at H;exact H)|(simp only [hji7] at H ⊢;exact H)
       by_cases c8:0≤(ji7)
       ·rw [if_pos c8] at H
        have c8b0:decide (0≤(ji7))=true:=decide_eq_true c8
        clear c8
        by_cases c9:(ji7)<(l0.length:Int)
        ·rw [if_pos c9] at H
         have c9b0:decide ((ji7)<(l0.length:Int))=true:=decide_eq_true c9
         clear c9
         by_cases c10:((rdOf false l0 x8_1) != (rdOf false l0 (ji7)))=true
         ·rw [if_pos c10] at H
          have c10b0:((rdOf false l0 x8_1) != (rdOf false l0 (ji7)))=true:=c10
          (try (have c10b1:decide ((rdOf false l0 x8_1)=(rdOf false l0 (ji7)))=false:=by simpa using c10))
          (try (have c10b2:((rdOf false l0 x8_1) == (rdOf false l0 (ji7)))=false:=by simpa using c10))
          (try (have c10b3:¬ ((rdOf false l0 x8_1)=(rdOf false l0 (ji7))):=by simpa using c10))
          clear c10
          obtain rfl:=Option.some.inj H
          have p281:0≤(x8_1:Int):=of_decide_eq_true (by first|(with_reducible assumption)|assumption)
          have q281:x8_1<(l0.length:Int):=of_decide_eq_true (by first|(with_reducible assumption)|assumption)
          obtain ⟨ad281,e281,hx281_0⟩:=Kd.at_bool HR0.out x8_1 p281 q281
          cases e281
          replace p281:=eq_true p281
          replace q281:=eq_true q281
          have p282:0≤((ji7):Int):=of_decide_eq_true (by first|(with_reducible assumption)|assumption)
          have q282:(ji7)<(l0.length:Int):=of_decide_eq_true (by first|(with_reducible assumption)|assumption)
          obtain ⟨ad282,e282,hx282_0⟩:=Kd.at_bool HR0.out (ji7) p282 q282
          obtain rfl:ad281=ad282:=(by injection e282)
          replace p282:=eq_true p282
          replace q282:=eq_true q282
          go_wp2
          repeat (go_quiet (fail);try go_wp2)
          go_ret
          exact ⟨by first|rfl|(simp;done)|(simp only [← hji7]<;>(first|rfl|simp))|(simp [*];done),by repeat (first|exact Drawn0.refl _|apply Drawn0.step)⟩
         ·rw [if_neg c10] at H
          have c10b0:((rdOf false l0 x8_1) != (rdOf false l0 (ji7)))=false:=by simpa using c10
          (try (have c10b1:decide ((rdOf false l0 x8_1)=(rdOf false l0 (ji7)))=true:=by simpa using c10))
          (try (have c10b2:((rdOf false l0 x8_1) == (rdOf false l0 (ji7)))=true:=by simpa using c10))
          clear c10
          have H':=Aside0.mk H
          clear H
          have p281:0≤(x8_1:Int):=of_decide_eq_true (by first|(with_reducible assumption)|assumption)
          have q281:x8_1<(l0.length:Int):=of_decide_eq_true (by first|(with_reducible assumption)|assumption)
          obtain ⟨ad281,e281,hx281_0⟩:=Kd.at_bool HR0.out x8_1 p281 q281
          cases e281
          replace p281:=eq_true p281
          replace q281:=eq_true q281
          have p282:0≤((ji7):Int):=of_decide_eq_true (by first|(with_reducible assumption)|assumption)
          have q282:(ji7)<(l0.length:Int):=of_decide_eq_true (by first|(with_reducible assumption)|assumption)
          obtain ⟨ad282,e282,hx282_0⟩:=Kd.at_bool HR0.out (ji7) p282 q282
          obtain rfl:ad281=ad282:=(by injection e282)
          replace p282:=eq_true p282
          replace q282:=eq_true q282
          go_wp2
          repeat (go_quiet (fail);try go_wp2)
          go_roundg k1
          case measure=>have:=HK1.out;omega
          case rel=>exact ⟨(wrap64 (x8_1+1)),(by first|rfl|(simp;done)|(simp [*];done)|(simp [Int.tmod_eq_emod_of_nonneg];done)),H',⟨by have:=HK1.out;omega⟩,by repeat (first|exact Drawn0.refl _|apply Drawn0.step)⟩
        ·rw [if_neg c9] at H
         exact absurd H (by simp)
       ·rw [if_neg c8] at H
        exact absurd H (by simp)
     ·rw [if_neg c5] at H
      exact absurd H (by simp)
    ·rw [if_neg c4] at H
     exact absurd H (by simp)
   ·rw [if_neg c3] at H
    have c3b0:decide (x8_1<(l0.length:Int))=false:=decide_eq_false c3
    clear c3
    by_cases c11:a1=0
    ·rw [if_pos c11] at H
     exact absurd H (by simp)
    ·rw [if_neg c11] at H
     have c11b0:(a1 == 0)=false:=beq_eq_false_iff_ne.mpr c11
     have c11b1:(a1 != 0)=true:=bne_iff_ne.mpr c11
     obtain rfl:=Option.some.inj H
     go_wp2
     repeat (go_quiet (fail);try go_wp2)
     go_ret
     exact ⟨by first|rfl|(simp;done)|(simp [*];done),by repeat (first|exact Drawn0.refl _|apply Drawn0.step)⟩

end Go.Proofs.Ytgheopbdmijlkaa.P

namespace Go.Proofs.Ytgheopbdmijlkaa.P
open Go.RowKit Go.Proofs.YtgheopbdmijlkaaW.PrintWords Go.Proofs.YtgheopbdmijlkaaW.PrintLast Go.Proofs.YtgheopbdmijlkaaW.PrintMore
attribute [local go_sem] max2_int min2_int max_two min_two max_three min_three max_four min_four   -- for this text's walks alone
set_option linter.unusedVariables false
set_option linter.unusedSimpArgs false

/-! ### impl_set_tidy: function 69 -/
mutual
def impl_set_tidy.l0:Nat→Int→List Bool→List Bool→Option (List Bool × List Bool)
 | 0,_,_,_=>none
 | k+1,x3,x284000,x284001=>(impl_turns.f k x284001 x3).bind fun t285=>(if t285=true then ((slices_Clone_bool_bool.f x284000).bind fun t286=>(if 0≤x3 then (if x3≤(x284001.length:Int) then ((slices_Clone_bool_bool.f (x284001.take (x3:Int).toNat)).bind fun t290=>(impl_set_tidy.l1 k x3 t286 t290)) else (none)) else (none))) else (impl_set_tidy.l0 k (wrap64 (x3+1)) x284000 x284001))
def impl_set_tidy.l1:Nat→Int→List Bool→List Bool→Option (List Bool × List Bool)
 | 0,_,_,_=>none
 | k+1,x3,x4,x5=>if (x4.length:Int) > 0 then (if 0≤(wrap64 ((x4.length:Int) - 1)) then (if (wrap64 ((x4.length:Int) - 1))<(x4.length:Int) then (if 0≤(wrap64 (x3 - 1)) then (if (wrap64 (x3 - 1))<(x5.length:Int) then (if ((rdOf false x4 (wrap64 ((x4.length:Int) - 1))) == (rdOf false x5 (wrap64 (x3 - 1))))=true then (if (wrap64 ((x4.length:Int) - 1))≤(x4.length:Int) then ((some (([rdOf false x5 (wrap64 (x3 - 1))]:List Bool):List Bool)).bind fun y299=>(if (wrap64 (x3 - 1))≤(x5.length:Int) then ((some (x5.take ((wrap64 (x3 - 1)):Int).toNat:List Bool)).bind fun y302=>(if y299.length+y302.length<140737488355328 then (impl_set_tidy.l1 k x3 (x4.take ((wrap64 ((x4.length:Int) - 1)):Int).toNat) (y299++y302)) else (none))) else (none))) else (none)) else (some (x4,x5))) else (none)) else (none)) else (none)) else (none)) else (some (x4,x5))
end
def impl_set_tidy.f (k:Nat) (l0_0:List Bool) (l0_1:List Bool):Option (List Bool × List Bool):=impl_set_tidy.l0 k 1 l0_0 l0_1
theorem impl_set_tidy.mono_l:∀ k,(∀ y0 y1 y2,LeO (impl_set_tidy.l0 k y0 y1 y2) (impl_set_tidy.l0 (k+1) y0 y1 y2))∧(∀ y0 y1 y2,LeO (impl_set_tidy.l1 k y0 y1 y2) (impl_set_tidy.l1 (k+1) y0 y1 y2))
 | 0=>⟨fun _ _ _ r h=>by simp [impl_set_tidy.l0] at h,fun _ _ _ r h=>by simp [impl_set_tidy.l1] at h⟩
 | k+1=>by
  obtain ⟨ih0,ih1⟩:=impl_set_tidy.mono_l k
  refine ⟨?_,?_⟩
  ·intro y0 y1 y2
   unfold impl_set_tidy.l0
   repeat' first
   | (with_reducible exact ih0 _ _ _)
   | (with_reducible exact ih1 _ _ _)
   | (with_reducible exact impl_turns.mono _ _ _)
   | (with_reducible exact LeO.refl _)
   | (with_reducible exact LeO.none _)
   | (with_reducible refine LeO.ite ?_ ?_)
   | (with_reducible refine LeO.bind ?_ (fun _=>?_))
   | exact ih0 _ _ _
   | exact ih1 _ _ _
   | exact impl_turns.mono _ _ _
   | exact LeO.none _
   | refine LeO.ite ?_ ?_
   | refine LeO.bind ?_ (fun _=>?_)
  ·intro y0 y1 y2
   unfold impl_set_tidy.l1
   repeat' first
   | (with_reducible exact ih0 _ _ _)
   | (with_reducible exact ih1 _ _ _)
   | (with_reducible exact impl_turns.mono _ _ _)
   | (with_reducible exact LeO.refl _)
   | (with_reducible exact LeO.none _)
   | (with_reducible refine LeO.ite ?_ ?_)
   | (with_reducible refine LeO.bind ?_ (fun _=>?_))
   | exact ih0 _ _ _
   | exact ih1 _ _ _
   | exact impl_turns.mono _ _ _
   | exact LeO.none _
   | refine LeO.ite ?_ ?_
   | refine LeO.bind ?_ (fun _=>?_)
theorem impl_set_tidy.mono:∀ a0 a1 k,LeO (impl_set_tidy.f k a0 a1) (impl_set_tidy.f (k+1) a0 a1):=by
 intro a0 a1 k
 obtain ⟨ih0,ih1⟩:=impl_set_tidy.mono_l k
 unfold impl_set_tidy.f
 repeat' first
   | (with_reducible exact ih0 _ _ _)
   | (with_reducible exact ih1 _ _ _)
   | (with_reducible exact impl_turns.mono _ _ _)
   | (with_reducible exact LeO.refl _)
   | (with_reducible exact LeO.none _)
   | (with_reducible refine LeO.ite ?_ ?_)
   | (with_reducible refine LeO.bind ?_ (fun _=>?_))
   | exact ih0 _ _ _
   | exact ih1 _ _ _
   | exact impl_turns.mono _ _ _
   | exact LeO.none _
   | refine LeO.ite ?_ ?_
   | refine LeO.bind ?_ (fun _=>?_)
def impl_set_tidy.T4:Bool × List (List Nat × List Nat):=(true,[([],[]),([0],[0]),([1],[1]),([],[]),([3],[3]),([],[]),([4,5],[4,5]),([6,2],[6]),([2,7,0,1,2],[2]),([7,8,0,1,2,3,4,5,6,7,8],[7])])
def impl_set_tidy.B4:List Nat:=[0,1,3,0,8,0,56,127,255,511]
theorem impl_set_tidy.tab4:rtab .any (opsOf Try.f69 4)=impl_set_tidy.T4:=by kernel_rfl
theorem impl_set_tidy.bits4:waitsOk impl_set_tidy.T4.2 impl_set_tidy.B4=true:=by kernel_rfl
def impl_set_tidy.T5:Bool × List (List Nat × List Nat):=(true,[([],[]),([0],[0]),([1],[1]),([2],[2]),([3],[3]),([3],[3]),([5,3],[3,5]),([6,3],[3,6]),([4,7,3],[3,4,7]),([8,3],[3,8]),([3],[3]),([3],[3]),([11,3],[3,11]),([10,12,3],[3,10,12]),([13,3],[3,13]),([9,14,3],[3,9,14]),([3,15],[3,15])])
def impl_set_tidy.B5:List Nat:=[0,1,3,7,15,15,47,111,255,511,15,15,2063,7183,15375,32767,65535]
theorem impl_set_tidy.tab5:rtab .any (opsOf Try.f69 5)=impl_set_tidy.T5:=by kernel_rfl
theorem impl_set_tidy.bits5:waitsOk impl_set_tidy.T5.2 impl_set_tidy.B5=true:=by kernel_rfl
def impl_set_tidy.T7:Bool × List (List Nat × List Nat):=(true,[([],[]),([],[]),([1],[1]),([0,2],[0,2]),([3],[3]),([4],[4]),([],[]),([],[]),([7],[7]),([6,8],[6,8]),([5,9],[5,9]),([10,10,0,1,2,3,4,5,6,7,8,9,10],[0,6,10])])
def impl_set_tidy.B7:List Nat:=[0,0,2,7,15,31,0,0,128,448,1023,2047]
theorem impl_set_tidy.tab7:rtab .any (opsOf Try.f69 7)=impl_set_tidy.T7:=by kernel_rfl
theorem impl_set_tidy.bits7:waitsOk impl_set_tidy.T7.2 impl_set_tidy.B7=true:=by kernel_rfl
set_option maxHeartbeats 8000000 in
set_option maxRecDepth 100000 in
theorem impl_set_tidy.calls (k:Nat) (A0_0:Option Addr) (c0_0:Nat) (l0_0:List Bool) (A0_1:Option Addr) (c0_1:Nat) (l0_1:List Bool) (r1:List Bool) (r2:List Bool) (w:World) (hr0_0:Kd.C Kd.bool w A0_0 l0_0.length l0_0) (hc0_0:l0_0.length≤c0_0) (hr0_1:Kd.C Kd.bool w A0_1 l0_1.length l0_1) (hc0_1:l0_1.length≤c0_1) (h:impl_set_tidy.f k l0_0 l0_1=some (r1,r2)) :
  Calls Try.prog 69 #[.agg #[.slice A0_0 l0_0.length c0_0,.slice A0_1 l0_1.length c0_1]] w fun e w'=>∃ v0_ v1_:Value,e=.returned (.agg #[v0_,v1_])∧Kd.R Kd.bool 4 w' w.heap.size (fun k_=>some k_≠(v1_:Value).ownBlock) v0_ r1∧Kd.R Kd.bool 4 w' w.heap.size (fun k_=>some k_≠(v0_:Value).ownBlock) v1_ r2∧Below w.heap.size w w':=by
 have hu41:=Try.underlying41
 have HR0_0:=Aside0.mk hr0_0
 have HC0_0:=Aside0.mk hc0_0
 clear hr0_0 hc0_0
 have HR0_1:=Aside0.mk hr0_1
 have HC0_1:=Aside0.mk hc0_1
 clear hr0_1 hc0_1
 have HB:=Aside0.mk (Below.refl w.heap.size w)
 have H:(impl_set_tidy.l0 k 1 l0_0 l0_1)=some (r1,r2):=h
 clear h
 have H':=Aside0.mk H
 clear H
 go_enter Try.func69,Try.ntmps69
 go_wp2_with (first|((with_reducible refine gate_dst (N:=1) rfl ?_);(try (refine gate_guard (by rfl) ?_;dsimp only));refine box_event ?hg (N:=1) ?hd (cs:=#[.slice A0_0 l0_0.length c0_0,.slice A0_1 l0_1.length c0_1]) (t:=41) ?hr ?_;(case hd=>rfl);(case hg=>rfl);(case hr=>first|(go_simp;done)|(go_simp;rfl));intro gb283 hg w2 hbox hb;have n0_:=Aside0.mk (yP (by repeat (first|(with_reducible first|exact HB.out|apply yA|apply yB|apply yC)|exact HB.out)) hb);have n1_:=Aside0.mk (hbox);have n2_:=Aside0.mk ((by rw [hg];exact (yQ (by repeat (first|(with_reducible first|exact HB.out|apply yA|apply yB|apply yC)|exact HB.out))):w.heap.size≤gb283));have n3_:=Aside0.mk ((by rw [hg];exact (yQ (by repeat (first|(with_reducible first|exact HB.out|apply yA|apply yB|apply yC)|exact HB.out))):w.heap.size≤gb283));clear HB;have HB:=n0_;have BK283:=n1_;have GW283:=n2_;have GE283:=n3_;clear n0_ n1_ n2_ n3_;clear hb hbox hg)|((with_reducible refine gate_dst (N:=2) rfl ?_);(try (refine gate_guard (by rfl) ?_;dsimp only));refine box_event ?hg (N:=2) ?hd (cs:=#[.slice none 0 0,.slice none 0 0]) (t:=41) ?hr ?_;(case hd=>rfl);(case hg=>rfl);(case hr=>first|(go_simp;done)|(go_simp;rfl));intro gb284 hg w3 hbox hb;have n0_:=Aside0.mk (blk_below (g:=gb283) (o:=.cells #[.slice A0_0 l0_0.length c0_0,.slice A0_1 l0_1.length c0_1] 41 (0,0)) (by (with_reducible repeat (first|refine yE ?_ _|refine yF ?_|refine yG ?_ _));exact BK283.out) hb);have n1_:=Aside0.mk (yP (by repeat (first|(with_reducible first|exact HB.out|apply yA|apply yB|apply yC|refine yD ?_ GE283.out)|exact HB.out)) hb);have n2_:=Aside0.mk (hbox);have n3_:=Aside0.mk ((by rw [hg];exact (yQ (by repeat (first|(with_reducible first|exact HB.out|apply yA|apply yB|apply yC|refine yD ?_ GE283.out)|exact HB.out))):w.heap.size≤gb284));have n4_:=Aside0.mk ((by rw [hg];exact (yQ (by repeat (first|(with_reducible first|exact HB.out|apply yA|apply yB|apply yC|refine yD ?_ GE283.out)|exact HB.out))):w.heap.size≤gb284));have n5_:=Aside0.mk ((by rw [hg];exact Nat.ne_of_lt (blk_lt (g:=gb283) (o:=.cells #[.slice A0_0 l0_0.length c0_0,.slice A0_1 l0_1.length c0_1] 41 (0,0)) (by (with_reducible repeat (first|refine yE ?_ _|refine yF ?_|refine yG ?_ _));exact BK283.out)):gb283≠gb284));have n6_:=Aside0.mk ((by rw [hg];exact Nat.ne_of_gt (blk_lt (g:=gb283) (o:=.cells #[.slice A0_0 l0_0.length c0_0,.slice A0_1 l0_1.length c0_1] 41 (0,0)) (by (with_reducible repeat (first|refine yE ?_ _|refine yF ?_|refine yG ?_ _));exact BK283.out)):gb284≠gb283));clear BK283;clear HB;have BK283:=n0_;have HB:=n1_;have BK284:=n2_;have GW284:=n3_;have GE284:=n4_;have NB283_284:=n5_;have NB284_283:=n6_;clear n0_ n1_ n2_ n3_ n4_ n5_ n6_;clear hb hbox hg))
 go_loopg [3] k (fun kq v3 w'=>∃ (x3_1:Int),v3=.int .i64 x3_1∧Aside0 (impl_set_tidy.l0 kq x3_1 l0_0 l0_1=some (r1,r2))∧Aside0 (kq≤k)∧Aside0 (w'.heap[gb283]?=some (.cells #[(.slice A0_0 l0_0.length c0_0),(.slice A0_1 l0_1.length c0_1)] 41 (0,0)))∧Aside0 (w'.heap[gb284]?=some (.cells #[(.slice none 0 0),(.slice none 0 0)] 41 (0,0)))∧Aside0 (Below w.heap.size w w'))
 case atStart=>exact ⟨(1),(by first|rfl|(simp;done)|(simp [*];done)|(simp [Int.tmod_eq_emod_of_nonneg];done)),H',⟨Nat.le_refl _⟩,⟨by (with_reducible repeat (first|refine yE ?_ _|refine yF ?_|refine yG ?_ _));exact BK283.out⟩,⟨by (with_reducible repeat (first|refine yE ?_ _|refine yF ?_|refine yG ?_ _));exact BK284.out⟩,⟨by repeat (first|(with_reducible first|exact HB.out|apply yA|apply yB|apply yC|refine yD ?_ GE283.out|refine yD ?_ GE284.out)|exact HB.out)⟩⟩
 case round =>
  clear H'
  try clear p2
  obtain ⟨x3_1,rfl,HA,HK1,BK283,BK284,HB⟩:=hrel
  cases gk with
  | zero=>exact absurd HA.out (by simp [impl_set_tidy.l0])
  | succ k1 =>
   have H:=HA.out
   clear HA
   simp only [impl_set_tidy.l0] at H
   replace H:=Option.bind_eq_some_iff.mp H
   obtain ⟨t285,A40,H⟩:=H
   replace H:(if t285=true then ((slices_Clone_bool_bool.f l0_0).bind fun t286=>(if 0≤x3_1 then (if x3_1≤(l0_1.length:Int) then ((slices_Clone_bool_bool.f (l0_1.take (x3_1:Int).toNat)).bind fun t290=>(impl_set_tidy.l1 k1 x3_1 t286 t290)) else (none)) else (none))) else (impl_set_tidy.l0 k1 (wrap64 (x3_1+1)) l0_0 l0_1))=some (r1,r2):=H
   have A4:=Aside0.mk A40
   clear A40
   by_cases c5:t285=true
   ·subst c5
    have H1:((slices_Clone_bool_bool.f l0_0).bind fun t286=>(if 0≤x3_1 then (if x3_1≤(l0_1.length:Int) then ((slices_Clone_bool_bool.f (l0_1.take (x3_1:Int).toNat)).bind fun t290=>(impl_set_tidy.l1 k1 x3_1 t286 t290)) else (none)) else (none)))=some (r1,r2):=by rw [if_pos rfl] at H;exact H
    clear H
    have H:=H1
    clear H1
    replace H:=Option.bind_eq_some_iff.mp H
    obtain ⟨t286,A60,H⟩:=H
    replace H:(if 0≤x3_1 then (if x3_1≤(l0_1.length:Int) then ((slices_Clone_bool_bool.f (l0_1.take (x3_1:Int).toNat)).bind fun t290=>(impl_set_tidy.l1 k1 x3_1 t286 t290)) else (none)) else (none))=some (r1,r2):=H
    have A6:=Aside0.mk A60
    clear A60
    by_cases c7:0≤x3_1
    ·rw [if_pos c7] at H
     have c7b0:=eq_true c7
     have c7b1:decide (0≤x3_1)=true:=decide_eq_true c7
     clear c7
     by_cases c8:x3_1≤(l0_1.length:Int)
     ·rw [if_pos c8] at H
      have c8b0:=eq_true c8
      have c8b1:decide (x3_1≤(l0_1.length:Int))=true:=decide_eq_true c8
      clear c8
      replace H:=Option.bind_eq_some_iff.mp H
      obtain ⟨t290,A90,H⟩:=H
      replace H:(impl_set_tidy.l1 k1 x3_1 t286 t290)=some (r1,r2):=H
      have A9:=Aside0.mk A90
      clear A90
      have H':=Aside0.mk H
      clear H
      have hnb10:=NB283_284.out
      have hnc10:=NB284_283.out
      have hcz11_0:wr.cell? ⟨gb283,0,none⟩=some (.slice A0_0 l0_0.length c0_0):=(blk_cell BK283.out 0).trans rfl
      have hcz11_1:wr.cell? ⟨gb283,1,none⟩=some (.slice A0_1 l0_1.length c0_1):=(blk_cell BK283.out 1).trans rfl
      have hfz11_0:=blk_frozen BK283.out 0
      have hfz11_1:=blk_frozen BK283.out 1
      try go_wp2_with (first|((with_reducible refine gate_callee (f:=79) rfl ?_);refine goesL_ (some 9) rfl rfl Try.func79 (by kernel_rfl) rfl #[.slice A0_1 l0_1.length c0_1,.int .i64 x3_1] rfl (by (try simp only [List.map_toArray,List.map_cons,List.map_nil]);first|done|rfl|(simp only [List.length_drop,List.length_take];rfl)) ?_;(with_reducible refine (impl_turns.calls k1 _ _ l0_1 x3_1 true _ ?side1 ?side2 A4.out).mono ?_);(case side1=>repeat (first|exact (Kd.C_below HR0_1.out HB.out)|(with_reducible refine Kd.C_alloc ?_ _)|(with_reducible refine Kd.C_drewN ?_ _)|(with_reducible refine Kd.C_drew ?_)));(case side2=>exact HC0_1.out);rintro e w' ⟨rfl,⟨nd,rfl⟩⟩;refine ⟨_,rfl,?_⟩))
      (try (rw [drewN_self wr];generalize hq_:World.drewN wr _=wr;have n0_:Aside0 (wr.heap[gb283]?=some (.cells #[.slice A0_0 l0_0.length c0_0,.slice A0_1 l0_1.length c0_1] 41 (0,0))):=⟨by rw [← hq_];exact (by (with_reducible repeat (first|refine yE ?_ _|refine yF ?_|refine yG ?_ _));exact BK283.out)⟩;have n1_:Aside0 (wr.heap[gb284]?=some (.cells #[.slice none 0 0,.slice none 0 0] 41 (0,0))):=⟨by rw [← hq_];exact (by (with_reducible repeat (first|refine yE ?_ _|refine yF ?_|refine yG ?_ _));exact BK284.out)⟩;have n2_:Aside0 (Below w.heap.size w wr):=⟨by rw [← hq_];exact (by repeat (first|(with_reducible first|exact HB.out|apply yA|apply yB|apply yC|refine yD ?_ GE283.out|refine yD ?_ GE284.out)|exact HB.out))⟩;clear BK283 BK284 HB hq_;have BK283:=n0_;have BK284:=n1_;have HB:=n2_;clear n0_ n1_ n2_))
      have n0_:=Aside0.mk (yF BK283.out)
      have n1_:=Aside0.mk (yF BK284.out)
      have n2_:=Aside0.mk (yC HB.out)
      clear BK283
      clear BK284
      clear HB
      have BK283:=n0_
      have BK284:=n1_
      have HB:=n2_
      clear n0_ n1_ n2_
      obtain ⟨i013,hi013,_,hsz13,_⟩:=info_parts info4
      obtain ⟨hcut13,hA13,hC13⟩:=print_take_of (P:=Try.prog) Value.bool false 39 4 .i64 Try.underlying39 hi013 hsz13 A0_1 c0_1 l0_1 x3_1 (of_decide_eq_true (by first|(with_reducible assumption)|assumption)) (of_decide_eq_true (by first|(with_reducible assumption)|assumption)) HC0_1.out
      have HR289:=Aside0.mk (Kd.C_of_reads (h1:=fun _=>rfl) (hA13 _ (Kd.reads_of_C HR0_1.out)))
      have HC289:=Aside0.mk hC13
      clear hA13 hC13 hi013 hsz13
      refine start_ (n:=10) (S:=fun w'=>w'.cell? ⟨gb283,0,none⟩=some (.slice A0_0 l0_0.length c0_0)∧w'.cell? ⟨gb283,1,none⟩=some (.slice A0_1 l0_1.length c0_1)) (ds:=[]) #[false,false,false,false,false,false,false,false,false,false] (by kernel_rfl) rfl rfl ⟨(blk_cell BK283.out 0).trans rfl,(blk_cell BK283.out 1).trans rfl⟩ (fun hHeld=>?_);refine with_tabW impl_set_tidy.tab4 impl_set_tidy.bits4 (fun HT_ HW_=>?_)
      generalize wr.drew=w12 at BK283 BK284 HB HR289 hHeld ⊢
      refine pure_ (i:=0) (N:=some 13) (v:=?_) (a':=?_) #[true,false,false,false,false,false,false,false,false,false] rfl rfl (any_of HT_.out (by kernel_rfl)) (fun _ _ _ h=>h) (Or.inl ⟨by rfl,?_⟩) ?_ ?_
      rotate_left
      ·intro w'
       go_simp
       with_reducible rfl
      rotate_left
      ·simp only [Act.put,yK,yL,yM,i64_w,i32_w]
       rfl
      refine pure_ (i:=3) (N:=some 16) (v:=?_) (a':=?_) #[true,false,false,true,false,false,false,false,false,false] rfl rfl (any_of HT_.out (by kernel_rfl)) (fun _ _ _ h=>h) (Or.inl ⟨by rfl,?_⟩) ?_ ?_
      rotate_left
      ·intro w'
       go_simp
       with_reducible rfl
      rotate_left
      ·simp only [Act.put,yK,yL,yM,i64_w,i32_w]
       rfl
      refine pure_ (i:=5) (N:=some 18) (v:=?_) (a':=?_) #[true,false,false,true,false,true,false,false,false,false] rfl rfl (any_of HT_.out (by kernel_rfl)) (fun _ _ _ h=>h) (Or.inl ⟨by rfl,?_⟩) ?_ ?_
      rotate_left
      ·intro w'
       go_simp
       with_reducible rfl
      rotate_left
      ·simp only [Act.put,yK,yL,yM,i64_w,i32_w]
       rfl
      refine take_ (i:=1) (N:=some 14) (v:=?_) (a':=?_) #[true,true,false,true,false,true,false,false,false,false] rfl rfl (take_ofW HT_.out HW_.out (by kernel_rfl)) (fun _ _ _ h=>h) (Or.inl ⟨by rfl,?_⟩) hHeld ?_ ?_
      rotate_left
      ·rintro w' ⟨s0,s1⟩
       go_simp
       with_reducible rfl
      rotate_left
      ·simp only [Act.put,yK,yL,yM,i64_w,i32_w]
       rfl
      refine take_ (i:=4) (N:=some 17) (v:=?_) (a':=?_) #[true,true,false,true,true,true,false,false,false,false] rfl rfl (take_ofW HT_.out HW_.out (by kernel_rfl)) (fun _ _ _ h=>h) (Or.inl ⟨by rfl,?_⟩) hHeld ?_ ?_
      rotate_left
      ·rintro w' ⟨s0,s1⟩
       go_simp
       with_reducible rfl
      rotate_left
      ·simp only [Act.put,yK,yL,yM,i64_w,i32_w]
       rfl
      refine pure_ (i:=6) (N:=some 19) (v:=?_) (a':=?_) #[true,true,false,true,true,true,true,false,false,false] rfl rfl (any_of HT_.out (by kernel_rfl)) (fun _ _ _ h=>h) (Or.inl ⟨by rfl,?_⟩) ?_ ?_
      rotate_left
      ·intro w'
       go_simp
       with_reducible rfl
      rotate_left
      ·simp only [Act.put,yK,yL,yM,i64_w,i32_w]
       rfl
      refine one_ (i:=2) (N:=some 15) #[true,true,true,true,true,true,true,false,false,false] rfl rfl (one_of HT_.out (by kernel_rfl)) (by decide) (fun K hK=>?_)
      refine goes_ Try.func80 (by kernel_rfl) rfl #[.slice A0_0 l0_0.length c0_0] (by rfl) rfl rfl (by (try simp only [List.map_toArray,List.map_cons,List.map_nil]);first|done|rfl|(simp only [List.length_drop,List.length_take];rfl)) ?_
      with_reducible refine (slices_Clone_bool_bool.calls _ _ l0_0 t286 _ ?side1 ?side2 A6.out).mono ?_
      (case side1=>repeat (first|exact (Kd.C_below HR0_0.out HB.out)|(with_reducible refine Kd.C_alloc ?_ _)|(with_reducible refine Kd.C_drewN ?_ _)|(with_reducible refine Kd.C_drew ?_)))
      (case side2=>exact HC0_0.out)
      rintro e w14 ⟨v287,rfl,ho0,hb⟩
      refine ⟨_,rfl,?_⟩
      have n0_:=Aside0.mk (Kd.R_lower ho0 (yQ (by repeat (first|(with_reducible first|exact HB.out|apply yA|apply yB|apply yC|refine yD ?_ GE283.out|refine yD ?_ GE284.out)|exact HB.out))))
      have n1_:=Aside0.mk (blk_below (g:=gb283) (o:=.cells #[.slice A0_0 l0_0.length c0_0,.slice A0_1 l0_1.length c0_1] 41 (0,0)) (by (with_reducible repeat (first|refine yE ?_ _|refine yF ?_|refine yG ?_ _));exact BK283.out) hb)
      have n2_:=Aside0.mk (blk_below (g:=gb284) (o:=.cells #[.slice none 0 0,.slice none 0 0] 41 (0,0)) (by (with_reducible repeat (first|refine yE ?_ _|refine yF ?_|refine yG ?_ _));exact BK284.out) hb)
      have n3_:=Aside0.mk (yP (by repeat (first|(with_reducible first|exact HB.out|apply yA|apply yB|apply yC|refine yD ?_ GE283.out|refine yD ?_ GE284.out)|exact HB.out)) hb)
      clear BK283
      clear BK284
      clear HB
      have HO288:=n0_
      have BK283:=n1_
      have BK284:=n2_
      have HB:=n3_
      clear n0_ n1_ n2_ n3_
      (try clear hb)
      (try clear hb2)
      (try clear hk)
      (try clear hi)
      (try clear ho0)
      refine hK.out _ _ ⟨(blk_cell BK283.out 0).trans rfl,(blk_cell BK283.out 1).trans rfl⟩ (fun hHeld=>?_)
      clear hK K
      refine norm_ (a':=?_) ?_ ?_
      rotate_left
      ·show Act.put _ (some 15) _=_
       simp only [Act.put,yK,yL,yM,i64_w,i32_w]
       rfl
      refine one_ (i:=7) (N:=some 20) #[true,true,true,true,true,true,true,true,false,false] rfl rfl (one_of HT_.out (by kernel_rfl)) (by decide) (fun K hK=>?_)
      refine goes_ Try.func80 (by kernel_rfl) rfl #[.slice A0_1 (l0_1.take (x3_1:Int).toNat).length c0_1] (by rfl) rfl rfl (by (try simp only [List.map_toArray,List.map_cons,List.map_nil]);first|done|(rw [show (l0_1.take (x3_1:Int).toNat).length=x3_1.toNat from (by rw [List.length_take];have h_:(x3_1:Int)≤(l0_1.length:Int):=of_decide_eq_true (by first|(with_reducible assumption)|assumption);omega)]<;>rfl)|rfl|(simp only [List.length_drop,List.length_take];rfl)) ?_
      with_reducible refine (slices_Clone_bool_bool.calls _ _ (l0_1.take (x3_1:Int).toNat) t290 _ ?side1 ?side2 A9.out).mono ?_
      (case side1=>repeat (first|exact (Kd.C_below HR289.out HB.out)|(with_reducible refine Kd.C_alloc ?_ _)|(with_reducible refine Kd.C_drewN ?_ _)|(with_reducible refine Kd.C_drew ?_)))
      (case side2=>exact HC289.out)
      rintro e w15 ⟨v291,rfl,ho0,hb⟩
      refine ⟨_,rfl,?_⟩
      have n0_:=Aside0.mk (Kd.R_elder' (by (with_reducible repeat (first|apply yH|apply yI|apply yJ));exact HO288.out) (Kd.R_base ho0) hb)
      have n1_:=Aside0.mk (Kd.R_lower (Kd.R_new' ho0 (Kd.R_lt (by (with_reducible repeat (first|apply yH|apply yI|apply yJ));exact HO288.out))) (yQ (by repeat (first|(with_reducible first|exact HB.out|apply yA|apply yB|apply yC|refine yD ?_ GE283.out|refine yD ?_ GE284.out)|exact HB.out))))
      have n2_:=Aside0.mk (blk_below (g:=gb283) (o:=.cells #[.slice A0_0 l0_0.length c0_0,.slice A0_1 l0_1.length c0_1] 41 (0,0)) (by (with_reducible repeat (first|refine yE ?_ _|refine yF ?_|refine yG ?_ _));exact BK283.out) hb)
      have n3_:=Aside0.mk (blk_below (g:=gb284) (o:=.cells #[.slice none 0 0,.slice none 0 0] 41 (0,0)) (by (with_reducible repeat (first|refine yE ?_ _|refine yF ?_|refine yG ?_ _));exact BK284.out) hb)
      have n4_:=Aside0.mk (yP (by repeat (first|(with_reducible first|exact HB.out|apply yA|apply yB|apply yC|refine yD ?_ GE283.out|refine yD ?_ GE284.out)|exact HB.out)) hb)
      clear HO288
      clear BK283
      clear BK284
      clear HB
      have HO288:=n0_
      have HO292:=n1_
      have BK283:=n2_
      have BK284:=n3_
      have HB:=n4_
      clear n0_ n1_ n2_ n3_ n4_
      (try clear hb)
      (try clear hb2)
      (try clear hk)
      (try clear hi)
      (try clear ho0)
      refine hK.out _ _ ⟨(blk_cell BK283.out 0).trans rfl,(blk_cell BK283.out 1).trans rfl⟩ (fun hHeld=>?_)
      clear hK K
      refine norm_ (a':=?_) ?_ ?_
      rotate_left
      ·show Act.put _ (some 20) _=_
       simp only [Act.put,yK,yL,yM,i64_w,i32_w]
       rfl
      refine pure_ (i:=8) (N:=some 4) (v:=?_) (a':=?_) #[true,true,true,true,true,true,true,true,true,false] rfl rfl (any_of HT_.out (by kernel_rfl)) (fun _ _ _ h=>h) (Or.inl ⟨by rfl,?_⟩) ?_ ?_
      rotate_left
      ·intro w'
       go_simp
       with_reducible rfl
      rotate_left
      ·simp only [Act.put,yK,yL,yM,i64_w,i32_w]
       rfl
      refine pure_ (i:=9) (N:=some 5) (v:=?_) (a':=?_) #[true,true,true,true,true,true,true,true,true,true] rfl rfl (any_of HT_.out (by kernel_rfl)) (fun _ _ _ h=>h) (Or.inl ⟨by rfl,?_⟩) ?_ ?_
      rotate_left
      ·intro w'
       go_simp
       with_reducible rfl
      rotate_left
      ·simp only [Act.put,yK,yL,yM,i64_w,i32_w]
       rfl
      refine done_ (done_of HT_.out (by kernel_rfl)) ?_
      try go_wp2
      go_loopg [4,5] k1 (fun kq v4 v5 w'=>∃ (x4_2:List Bool) (x5_2:List Bool),Aside0 (impl_set_tidy.l1 kq x3_1 x4_2 x5_2=some (r1,r2))∧Aside0 (kq≤k1)∧Aside0 (Kd.R Kd.bool 4 w' w.heap.size (fun k_=>some k_≠(v5:Value).ownBlock) v4 x4_2)∧Aside0 (Kd.R Kd.bool 4 w' w.heap.size (fun k_=>some k_≠(v4:Value).ownBlock) v5 x5_2)∧Aside0 (w'.heap[gb283]?=some (.cells #[(.slice A0_0 l0_0.length c0_0),(.slice A0_1 l0_1.length c0_1)] 41 (0,0)))∧Aside0 (w'.heap[gb284]?=some (.cells #[(.slice none 0 0),(.slice none 0 0)] 41 (0,0)))∧Aside0 (Below w.heap.size w w'))
      case atStart=>exact ⟨(t286),(t290),H',⟨Nat.le_refl _⟩,⟨by (with_reducible repeat (first|apply yH|apply yI|apply yJ));exact Kd.R_mono HO288.out (fun _ hk=>hk.2)⟩,⟨by (with_reducible repeat (first|apply yH|apply yI|apply yJ));exact Kd.R_mono HO292.out (fun _ hk=>hk.2)⟩,⟨by (with_reducible repeat (first|refine yE ?_ _|refine yF ?_|refine yG ?_ _));exact BK283.out⟩,⟨by (with_reducible repeat (first|refine yE ?_ _|refine yF ?_|refine yG ?_ _));exact BK284.out⟩,⟨by repeat (first|(with_reducible first|exact HB.out|apply yA|apply yB|apply yC|refine yD ?_ GE283.out|refine yD ?_ GE284.out)|exact HB.out)⟩⟩
      case round =>
       clear H'
       try clear c1
       try clear p2
       try clear c5
       try clear c6
       try clear p6
       try clear c7
       try clear c7b0
       try clear c7b1
       try clear c8
       try clear c8b0
       try clear c8b1
       try clear c10
       try clear hcz11_0
       try clear hcz11_1
       try clear hfz11_0
       try clear hfz11_1
       try clear p2
       obtain ⟨x4_2,x5_2,HA,HK2,HO_4,HO_5,BK283,BK284,HB⟩:=hrel
       cases gk with
       | zero=>exact absurd HA.out (by simp [impl_set_tidy.l1])
       | succ k2 =>
        have H:=HA.out
        clear HA
        simp only [impl_set_tidy.l1] at H
        by_cases c16:(x4_2.length:Int) > 0
        ·rw [if_pos c16] at H
         have c16b0:decide (0<(x4_2.length:Int))=true:=decide_eq_true c16
         have c16b1:decide (0<x4_2.length)=true:=decide_eq_true (by omega)
         clear c16
         obtain ⟨ji17,hji17⟩:∃ j_:Int,(wrap64 ((x4_2.length:Int) - 1))=j_:=⟨_,rfl⟩
         replace H:(if 0≤(ji17) then (if (ji17)<(x4_2.length:Int) then (if 0≤(wrap64 (x3_1 - 1)) then (if (wrap64 (x3_1 - 1))<(x5_2.length:Int) then (if ((rdOf false x4_2 (ji17)) == (rdOf false x5_2 (wrap64 (x3_1 - 1))))=true then (if (ji17)≤(x4_2.length:Int) then ((some (([rdOf false x5_2 (wrap64 (x3_1 - 1))]:List Bool):List Bool)).bind fun y299=>(if (wrap64 (x3_1 - 1))≤(x5_2.length:Int) then ((some (x5_2.take ((wrap64 (x3_1 - 1)):Int).toNat:List Bool)).bind fun y302=>(if y299.length+y302.length<140737488355328 then (impl_set_tidy.l1 k2 x3_1 (x4_2.take ((ji17):Int).toNat) (y299++y302)) else (none))) else (none))) else (none)) else (some (x4_2,x5_2))) else (none)) else (none)) else (none)) else (none))=some (r1,r2):=by first|(rw [hji17] at H;exact H)|(simp only [hji17] at H ⊢;exact H)
         have hji17w:(IntKind.i64.wrap ((x4_2.length:Int) - 1))=ji17:=(i64_w _).trans hji17
         by_cases c18:0≤(ji17)
         ·rw [if_pos c18] at H
          have c18b0:decide (0≤(ji17))=true:=decide_eq_true c18
          clear c18
          by_cases c19:(ji17)<(x4_2.length:Int)
          ·rw [if_pos c19] at H
           have c19b0:decide ((ji17)<(x4_2.length:Int))=true:=decide_eq_true c19
           clear c19
           obtain ⟨ji20,hji20⟩:∃ j_:Int,(wrap64 (x3_1 - 1))=j_:=⟨_,rfl⟩
           replace H:(if 0≤(ji20) then (if (ji20)<(x5_2.length:Int) then (if ((rdOf false x4_2 (ji17)) == (rdOf false x5_2 (ji20)))=true then (if (ji17)≤(x4_2.length:Int) then ((some (([rdOf false x5_2 (ji20)]:List Bool):List Bool)).bind fun y299=>(if (ji20)≤(x5_2.length:Int) then ((some (x5_2.take ((ji20):Int).toNat:List Bool)).bind fun y302=>(if y299.length+y302.length<140737488355328 then (impl_set_tidy.l1 k2 x3_1 (x4_2.take ((ji17):Int).toNat) (y299++y302)) else (none))) else (none))) else (none)) else (some (x4_2,x5_2))) else (none)) else (none))=some (r1,r2):=by first|(rw [hji20] at H;exact H)|(simp only [hji20] at H ⊢;exact H)
           have hji20w:(IntKind.i64.wrap (x3_1 - 1))=ji20:=(i64_w _).trans hji20
           by_cases c21:0≤(ji20)
           ·rw [if_pos c21] at H
            have c21b0:decide (0≤(ji20))=true:=decide_eq_true c21
            clear c21
            by_cases c22:(ji20)<(x5_2.length:Int)
            ·rw [if_pos c22] at H
             have c22b0:decide ((ji20)<(x5_2.length:Int))=true:=decide_eq_true c22
             clear c22
             by_cases c23:((rdOf false x4_2 (ji17)) == (rdOf false x5_2 (ji20)))=true
             ·rw [if_pos c23] at H
              have c23b0:((rdOf false x4_2 (ji17)) == (rdOf false x5_2 (ji20)))=true:=c23
              (try (have c23b1:decide ((rdOf false x4_2 (ji17))=(rdOf false x5_2 (ji20)))=true:=by simpa using c23))
              (try (have c23b2:((rdOf false x4_2 (ji17)) == (rdOf false x5_2 (ji20)))=true:=by simpa using c23))
              clear c23
              by_cases c24:(ji17)≤(x4_2.length:Int)
              ·rw [if_pos c24] at H
               have c24b0:=eq_true c24
               have c24b1:decide ((ji17)≤(x4_2.length:Int))=true:=decide_eq_true c24
               clear c24
               obtain ⟨y295,hy295⟩:∃ y_:List Bool,y_=(x4_2.take ((ji17):Int).toNat):=⟨_,rfl⟩
               replace H:((some (([rdOf false x5_2 (ji20)]:List Bool):List Bool)).bind fun y299=>(if (ji20)≤(x5_2.length:Int) then ((some (x5_2.take ((ji20):Int).toNat:List Bool)).bind fun y302=>(if y299.length+y302.length<140737488355328 then (impl_set_tidy.l1 k2 x3_1 y295 (y299++y302)) else (none))) else (none)))=some (r1,r2):=by first|(rw [hy295];with_reducible exact H)|(have H2_:=(Option.bind_some _ _).symm.trans H;rw [hy295];with_reducible exact H2_)|(have H2_:=(Option.bind_some _ _).symm.trans H;with_reducible exact H2_)|with_reducible exact H|(rw [hy295];exact H)|exact H
               have Ny295:=Aside0.mk hy295
               clear hy295
               obtain ⟨y299,hy299⟩:∃ y_:List Bool,y_=(([rdOf false x5_2 (ji20)]:List Bool)):=⟨_,rfl⟩
               replace H:(if (ji20)≤(x5_2.length:Int) then ((some (x5_2.take ((ji20):Int).toNat:List Bool)).bind fun y302=>(if y299.length+y302.length<140737488355328 then (impl_set_tidy.l1 k2 x3_1 y295 (y299++y302)) else (none))) else (none))=some (r1,r2):=by first|(rw [hy299];with_reducible exact H)|(have H2_:=(Option.bind_some _ _).symm.trans H;rw [hy299];with_reducible exact H2_)|(have H2_:=(Option.bind_some _ _).symm.trans H;with_reducible exact H2_)|with_reducible exact H|(rw [hy299];exact H)|exact H
               have Ny299:=Aside0.mk hy299
               clear hy299
               have c25b0:=eq_true (of_decide_eq_true (by first|(with_reducible assumption)|assumption):0≤(ji20))
               by_cases c26:(ji20)≤(x5_2.length:Int)
               ·rw [if_pos c26] at H
                have c26b0:=eq_true c26
                have c26b1:decide ((ji20)≤(x5_2.length:Int))=true:=decide_eq_true c26
                clear c26
                obtain ⟨y302,hy302⟩:∃ y_:List Bool,y_=(x5_2.take ((ji20):Int).toNat):=⟨_,rfl⟩
                replace H:(if y299.length+y302.length<140737488355328 then (impl_set_tidy.l1 k2 x3_1 y295 (y299++y302)) else (none))=some (r1,r2):=by first|(rw [hy302];with_reducible exact H)|(have H2_:=(Option.bind_some _ _).symm.trans H;rw [hy302];with_reducible exact H2_)|(have H2_:=(Option.bind_some _ _).symm.trans H;with_reducible exact H2_)|with_reducible exact H|(rw [hy302];exact H)|exact H
                have Ny302:=Aside0.mk hy302
                clear hy302
                by_cases c27:y299.length+y302.length<140737488355328
                ·rw [if_pos c27] at H
                 have LMc27:=Aside0.mk c27
                 clear c27
                 obtain ⟨y306,hy306⟩:∃ y_:List Bool,y_=(y299++y302):=⟨_,rfl⟩
                 replace H:(impl_set_tidy.l1 k2 x3_1 y295 y306)=some (r1,r2):=by first|(rw [hy306];with_reducible exact H)|(have H2_:=(Option.bind_some _ _).symm.trans H;rw [hy306];with_reducible exact H2_)|(have H2_:=(Option.bind_some _ _).symm.trans H;with_reducible exact H2_)|with_reducible exact H|(rw [hy306];exact H)|exact H
                 have Ny306:=Aside0.mk hy306
                 clear hy306
                 have H':=Aside0.mk H
                 clear H
                 try go_wp2
                 have n0_:=Aside0.mk (yJ HO_4.out)
                 have n1_:=Aside0.mk (yJ HO_5.out)
                 have n2_:=Aside0.mk (yF BK283.out)
                 have n3_:=Aside0.mk (yF BK284.out)
                 have n4_:=Aside0.mk (yC HB.out)
                 clear HO_4
                 clear HO_5
                 clear BK283
                 clear BK284
                 clear HB
                 have HO_4:=n0_
                 have HO_5:=n1_
                 have BK283:=n2_
                 have BK284:=n3_
                 have HB:=n4_
                 clear n0_ n1_ n2_ n3_ n4_
                 obtain ⟨Ao29,co29,eo29⟩:=Kd.R_slice HO_4.out
                 (first|subst eo29|(injection eo29 with f1_ f2_ f3_;have f4_:=f1_.symm;have f5_:=f3_.symm;clear f1_ f2_ f3_;subst f4_;subst f5_))
                 have p293:0≤((ji17):Int):=of_decide_eq_true (by first|(with_reducible assumption)|assumption)
                 have q293:(ji17)<(x4_2.length:Int):=of_decide_eq_true (by first|(with_reducible assumption)|assumption)
                 obtain ⟨ad293,e293,hx293_0⟩:=Kd.at_bool (Kd.R_reads' HO_4.out).2.2 (ji17) p293 q293
                 cases e293
                 replace p293:=eq_true p293
                 replace q293:=eq_true q293
                 obtain ⟨Ao30,co30,eo30⟩:=Kd.R_slice HO_5.out
                 (first|subst eo30|(injection eo30 with f1_ f2_ f3_;have f4_:=f1_.symm;have f5_:=f3_.symm;clear f1_ f2_ f3_;subst f4_;subst f5_))
                 have p294:0≤((ji20):Int):=of_decide_eq_true (by first|(with_reducible assumption)|assumption)
                 have q294:(ji20)<(x5_2.length:Int):=of_decide_eq_true (by first|(with_reducible assumption)|assumption)
                 obtain ⟨ad294,e294,hx294_0⟩:=Kd.at_bool (Kd.R_reads' HO_5.out).2.2 (ji20) p294 q294
                 cases e294
                 replace p294:=eq_true p294
                 replace q294:=eq_true q294
                 refine start_ (n:=17) (S:=fun w'=>w'.cell? (ad293.add ((ji17)).toNat)=some (.bool (rdOf false x4_2 (ji17)))∧w'.cell? (ad294.add ((ji20)).toNat)=some (.bool (rdOf false x5_2 (ji20)))) (ds:=[]) #[false,false,false,false,false,false,false,false,false,false,false,false,false,false,false,false,false] (by kernel_rfl) rfl rfl ⟨hx293_0,hx294_0⟩ (fun hHeld=>?_);refine with_tabW impl_set_tidy.tab5 impl_set_tidy.bits5 (fun HT_ HW_=>?_)
                 generalize wr.drew=w28 at HO_4 HO_5 BK283 BK284 HB hx293_0 hx294_0 hHeld ⊢
                 refine pure_ (i:=0) (N:=some 21) (v:=?_) (a':=?_) #[true,false,false,false,false,false,false,false,false,false,false,false,false,false,false,false,false] rfl rfl (any_of HT_.out (by kernel_rfl)) (fun _ _ _ h=>h) (Or.inl ⟨by rfl,?_⟩) ?_ ?_
                 rotate_left
                 ·intro w'
                  go_simp
                  with_reducible rfl
                 rotate_left
                 ·simp only [Act.put,yK,yL,yM,i64_w,i32_w]
                  rfl
                 refine pure_ (i:=1) (N:=some 22) (v:=?_) (a':=?_) #[true,true,false,false,false,false,false,false,false,false,false,false,false,false,false,false,false] rfl rfl (any_of HT_.out (by kernel_rfl)) (fun _ _ _ h=>h) (Or.inl ⟨by rfl,?_⟩) ?_ ?_
                 rotate_left
                 ·intro w'
                  go_simp
                  with_reducible rfl
                 rotate_left
                 ·simp only [Act.put,yK,yL,yM,i64_w,i32_w]
                  rfl
                 refine pure_ (i:=2) (N:=some 23) (v:=?_) (a':=?_) #[true,true,true,false,false,false,false,false,false,false,false,false,false,false,false,false,false] rfl rfl (any_of HT_.out (by kernel_rfl)) (fun _ _ _ h=>h) (Or.inl ⟨by rfl,?_⟩) ?_ ?_
                 rotate_left
                 ·intro w'
                  go_simp
                  with_reducible rfl
                 rotate_left
                 ·simp only [Act.put,yK,yL,yM,i64_w,i32_w]
                  rfl
                 refine pure_ (i:=3) (N:=some 24) (v:=?_) (a':=?_) #[true,true,true,true,false,false,false,false,false,false,false,false,false,false,false,false,false] rfl rfl (any_of HT_.out (by kernel_rfl)) (fun _ _ _ h=>h) (Or.inl ⟨by rfl,?_⟩) ?_ ?_
                 rotate_left
                 ·intro w'
                  go_simp
                  with_reducible rfl
                 rotate_left
                 ·simp only [Act.put,yK,yL,yM,i64_w,i32_w]
                  rfl
                 refine pure_ (i:=4) (N:=some 25) (v:=?_) (a':=?_) #[true,true,true,true,true,false,false,false,false,false,false,false,false,false,false,false,false] rfl rfl (any_of HT_.out (by kernel_rfl)) (fun _ _ _ h=>h) (Or.inl ⟨by rfl,?_⟩) ?_ ?_
                 rotate_left
                 ·intro w'
                  go_simp
                  with_reducible rfl
                 rotate_left
                 ·simp only [Act.put,yK,yL,yM,i64_w,i32_w]
                  rfl
                 refine pure_ (i:=5) (N:=some 26) (v:=?_) (a':=?_) #[true,true,true,true,true,true,false,false,false,false,false,false,false,false,false,false,false] rfl rfl (any_of HT_.out (by kernel_rfl)) (fun _ _ _ h=>h) (Or.inl ⟨by rfl,?_⟩) ?_ ?_
                 rotate_left
                 ·intro w'
                  go_simp
                  with_reducible rfl
                 rotate_left
                 ·simp only [Act.put,yK,yL,yM,i64_w,i32_w]
                  rfl
                 refine pure_ (i:=6) (N:=some 27) (v:=?_) (a':=?_) #[true,true,true,true,true,true,true,false,false,false,false,false,false,false,false,false,false] rfl rfl (any_of HT_.out (by kernel_rfl)) (fun _ _ _ h=>h) (Or.inl ⟨by rfl,?_⟩) ?_ ?_
                 rotate_left
                 ·intro w'
                  go_simp
                  with_reducible rfl
                 rotate_left
                 ·simp only [Act.put,yK,yL,yM,i64_w,i32_w]
                  rfl
                 refine pure_ (i:=7) (N:=some 28) (v:=?_) (a':=?_) #[true,true,true,true,true,true,true,true,false,false,false,false,false,false,false,false,false] rfl rfl (any_of HT_.out (by kernel_rfl)) (fun _ _ _ h=>h) (Or.inl ⟨by rfl,?_⟩) ?_ ?_
                 rotate_left
                 ·intro w'
                  go_simp
                  with_reducible rfl
                 rotate_left
                 ·simp only [Act.put,yK,yL,yM,i64_w,i32_w]
                  rfl
                 refine pure_ (i:=8) (N:=some 29) (v:=?_) (a':=?_) #[true,true,true,true,true,true,true,true,true,false,false,false,false,false,false,false,false] rfl rfl (any_of HT_.out (by kernel_rfl)) (fun _ _ _ h=>h) (Or.inl ⟨by rfl,?_⟩) ?_ ?_
                 rotate_left
                 ·intro w'
                  go_simp
                  with_reducible rfl
                 rotate_left
                 ·simp only [Act.put,yK,yL,yM,i64_w,i32_w]
                  rfl
                 refine pure_ (i:=10) (N:=some 31) (v:=?_) (a':=?_) #[true,true,true,true,true,true,true,true,true,false,true,false,false,false,false,false,false] rfl rfl (any_of HT_.out (by kernel_rfl)) (fun _ _ _ h=>h) (Or.inl ⟨by rfl,?_⟩) ?_ ?_
                 rotate_left
                 ·intro w'
                  go_simp
                  with_reducible rfl
                 rotate_left
                 ·simp only [Act.put,yK,yL,yM,i64_w,i32_w]
                  rfl
                 refine pure_ (i:=11) (N:=some 32) (v:=?_) (a':=?_) #[true,true,true,true,true,true,true,true,true,false,true,true,false,false,false,false,false] rfl rfl (any_of HT_.out (by kernel_rfl)) (fun _ _ _ h=>h) (Or.inl ⟨by rfl,?_⟩) ?_ ?_
                 rotate_left
                 ·intro w'
                  go_simp
                  with_reducible rfl
                 rotate_left
                 ·simp only [Act.put,yK,yL,yM,i64_w,i32_w]
                  rfl
                 refine pure_ (i:=12) (N:=some 33) (v:=?_) (a':=?_) #[true,true,true,true,true,true,true,true,true,false,true,true,true,false,false,false,false] rfl rfl (any_of HT_.out (by kernel_rfl)) (fun _ _ _ h=>h) (Or.inl ⟨by rfl,?_⟩) ?_ ?_
                 rotate_left
                 ·intro w'
                  go_simp
                  with_reducible rfl
                 rotate_left
                 ·simp only [Act.put,yK,yL,yM,i64_w,i32_w]
                  rfl
                 refine pure_ (i:=13) (N:=some 34) (v:=?_) (a':=?_) #[true,true,true,true,true,true,true,true,true,false,true,true,true,true,false,false,false] rfl rfl (any_of HT_.out (by kernel_rfl)) (fun _ _ _ h=>h) (Or.inl ⟨by rfl,?_⟩) ?_ ?_
                 rotate_left
                 ·intro w'
                  go_simp
                  with_reducible rfl
                 rotate_left
                 ·simp only [Act.put,yK,yL,yM,i64_w,i32_w]
                  rfl
                 refine take_ (i:=9) (N:=some 30) (v:=?_) (a':=?_) #[true,true,true,true,true,true,true,true,true,true,true,true,true,true,false,false,false] rfl rfl (take_ofW HT_.out HW_.out (by kernel_rfl)) (fun _ _ _ h=>h) (Or.inl ⟨by rfl,?_⟩) hHeld ?_ ?_
                 rotate_left
                 ·rintro w' ⟨s0,s1⟩
                  go_simp
                  with_reducible rfl
                 rotate_left
                 ·simp only [Act.put,yK,yL,yM,i64_w,i32_w]
                  rfl
                 refine take_ (i:=14) (N:=some 35) (v:=?_) (a':=?_) #[true,true,true,true,true,true,true,true,true,true,true,true,true,true,true,false,false] rfl rfl (take_ofW HT_.out HW_.out (by kernel_rfl)) (fun _ _ _ h=>h) (Or.inl ⟨by rfl,?_⟩) hHeld ?_ ?_
                 rotate_left
                 ·rintro w' ⟨s0,s1⟩
                  go_simp
                  with_reducible rfl
                 rotate_left
                 ·simp only [Act.put,yK,yL,yM,i64_w,i32_w]
                  rfl
                 refine pure_ (i:=15) (N:=some 36) (v:=?_) (a':=?_) #[true,true,true,true,true,true,true,true,true,true,true,true,true,true,true,true,false] rfl rfl (any_of HT_.out (by kernel_rfl)) (fun _ _ _ h=>h) (Or.inl ⟨by rfl,?_⟩) ?_ ?_
                 rotate_left
                 ·intro w'
                  go_simp
                  with_reducible rfl
                 rotate_left
                 ·simp only [Act.put,yK,yL,yM,i64_w,i32_w]
                  rfl
                 refine pure_ (i:=16) (N:=some 37) (v:=?_) (a':=?_) #[true,true,true,true,true,true,true,true,true,true,true,true,true,true,true,true,true] rfl rfl (any_of HT_.out (by kernel_rfl)) (fun _ _ _ h=>h) (Or.inl ⟨by rfl,?_⟩) ?_ ?_
                 rotate_left
                 ·intro w'
                  go_simp
                  with_reducible rfl
                 rotate_left
                 ·simp only [Act.put,yK,yL,yM,i64_w,i32_w]
                  rfl
                 refine done_ (done_of HT_.out (by kernel_rfl)) ?_
                 have q31:((ji17):Int)≤((x4_2.length:Int):Int):=of_decide_eq_true (by first|(with_reducible assumption)|assumption)
                 obtain ⟨i031,hi031,_,hsz31,_⟩:=info_parts info4
                 have hcut31:=cut_to (P:=Try.prog) 39 4 .i64 Try.underlying39 hi031 (some ad293) x4_2.length co29 (ji17) (of_decide_eq_true (by first|(with_reducible assumption)|assumption)) q31 (Kd.R_reads' HO_4.out).2.1
                 have hr31:=Kd.R_take (m:=((ji17):Int).toNat) HO_4.out (by omega)
                 have hy31:y295.length=((ji17):Int).toNat:=(by rw [Ny295.out,List.length_take];omega)
                 rw [← Ny295.out] at hr31
                 rw [← hy31] at hr31 hcut31
                 clear hy31 hi031 hsz31 HO_4
                 have HO297:=Aside0.mk hr31
                 clear hr31
                 replace q31:=eq_true q31
                 try go_wp2
                 have n0_:=Aside0.mk (yJ HO297.out)
                 have n1_:=Aside0.mk (yJ HO_5.out)
                 have n2_:=Aside0.mk (yF BK283.out)
                 have n3_:=Aside0.mk (yF BK284.out)
                 have n4_:=Aside0.mk (yC HB.out)
                 clear HO297
                 clear HO_5
                 clear BK283
                 clear BK284
                 clear HB
                 have HO297:=n0_
                 have HO_5:=n1_
                 have BK283:=n2_
                 have BK284:=n3_
                 have HB:=n4_
                 clear n0_ n1_ n2_ n3_ n4_
                 have p298:0≤((ji20):Int):=of_decide_eq_true (by first|(with_reducible assumption)|assumption)
                 have q298:(ji20)<(x5_2.length:Int):=of_decide_eq_true (by first|(with_reducible assumption)|assumption)
                 obtain ⟨ad298,e298,hx298_0⟩:=Kd.at_bool (Kd.R_reads' HO_5.out).2.2 (ji20) p298 q298
                 obtain rfl:ad294=ad298:=(by injection e298)
                 replace p298:=eq_true p298
                 replace q298:=eq_true q298
                 have q33:((ji20):Int)≤((x5_2.length:Int):Int):=of_decide_eq_true (by first|(with_reducible assumption)|assumption)
                 obtain ⟨i033,hi033,_,hsz33,_⟩:=info_parts info4
                 have hroom33:x5_2.length≤co30:=(Kd.R_reads' HO_5.out).2.1
                 have hC33:Kd.C Kd.bool _ (some ad294) x5_2.length x5_2:=(Kd.R_reads' HO_5.out).2.2
                 have hcut33:=cut_to (P:=Try.prog) 39 4 .i64 Try.underlying39 hi033 (some ad294) x5_2.length co30 (ji20) (of_decide_eq_true (by first|(with_reducible assumption)|assumption)) q33 hroom33
                 have hr33:=Kd.C_take (m:=((ji20):Int).toNat) hC33 (by omega)
                 have hy33:y302.length=((ji20):Int).toNat:=(by rw [Ny302.out,List.length_take];omega)
                 rw [← Ny302.out] at hr33
                 rw [← hy33] at hcut33
                 have HR305:=Aside0.mk hr33
                 have HC305:=Aside0.mk (show y302.length≤co30 from by omega)
                 clear hr33 hC33 hroom33 hi033 hsz33
                 have KY33:=Aside0.mk hy33
                 clear hy33
                 have KL33:=Aside0.mk (show ((ji20):Int).toNat≤x5_2.length from by omega)
                 replace q33:=eq_true q33
                 refine start_ (n:=12) (S:=fun w'=>w'.cell? (ad294.add ((ji20)).toNat)=some (.bool (rdOf false x5_2 (ji20)))) (ds:=[10]) #[false,false,false,false,false,false,false,false,false,false,false,false] (by kernel_rfl) rfl rfl (hx298_0) (fun hHeld=>?_);refine with_tabW impl_set_tidy.tab7 impl_set_tidy.bits7 (fun HT_ HW_=>?_)
                 generalize w28.drew=w32 at HO297 HO_5 BK283 BK284 HB HR305 hx298_0 hHeld ⊢
                 refine pure_ (i:=0) (N:=some 43) (v:=?_) (a':=?_) #[true,false,false,false,false,false,false,false,false,false,false,false] rfl rfl (any_of HT_.out (by kernel_rfl)) (fun _ _ _ h=>h) (Or.inl ⟨by rfl,?_⟩) ?_ ?_
                 rotate_left
                 ·intro w'
                  go_simp
                  with_reducible rfl
                 rotate_left
                 ·simp only [Act.put,yK,yL,yM,i64_w,i32_w]
                  rfl
                 refine pure_ (i:=1) (N:=some 44) (v:=?_) (a':=?_) #[true,true,false,false,false,false,false,false,false,false,false,false] rfl rfl (any_of HT_.out (by kernel_rfl)) (fun _ _ _ h=>h) (Or.inl ⟨by rfl,?_⟩) ?_ ?_
                 rotate_left
                 ·intro w'
                  go_simp
                  with_reducible rfl
                 rotate_left
                 ·simp only [Act.put,yK,yL,yM,i64_w,i32_w]
                  rfl
                 refine pure_ (i:=2) (N:=some 45) (v:=?_) (a':=?_) #[true,true,true,false,false,false,false,false,false,false,false,false] rfl rfl (any_of HT_.out (by kernel_rfl)) (fun _ _ _ h=>h) (Or.inl ⟨by rfl,?_⟩) ?_ ?_
                 rotate_left
                 ·intro w'
                  go_simp
                  with_reducible rfl
                 rotate_left
                 ·simp only [Act.put,yK,yL,yM,i64_w,i32_w]
                  rfl
                 refine pure_ (i:=3) (N:=some 46) (v:=?_) (a':=?_) #[true,true,true,true,false,false,false,false,false,false,false,false] rfl rfl (any_of HT_.out (by kernel_rfl)) (fun _ _ _ h=>h) (Or.inl ⟨by rfl,?_⟩) ?_ ?_
                 rotate_left
                 ·intro w'
                  go_simp
                  with_reducible rfl
                 rotate_left
                 ·simp only [Act.put,yK,yL,yM,i64_w,i32_w]
                  rfl
                 refine pure_ (i:=6) (N:=some 49) (v:=?_) (a':=?_) #[true,true,true,true,false,false,true,false,false,false,false,false] rfl rfl (any_of HT_.out (by kernel_rfl)) (fun _ _ _ h=>h) (Or.inl ⟨by rfl,?_⟩) ?_ ?_
                 rotate_left
                 ·intro w'
                  go_simp
                  with_reducible rfl
                 rotate_left
                 ·simp only [Act.put,yK,yL,yM,i64_w,i32_w]
                  rfl
                 refine pure_ (i:=7) (N:=some 50) (v:=?_) (a':=?_) #[true,true,true,true,false,false,true,true,false,false,false,false] rfl rfl (any_of HT_.out (by kernel_rfl)) (fun _ _ _ h=>h) (Or.inl ⟨by rfl,?_⟩) ?_ ?_
                 rotate_left
                 ·intro w'
                  go_simp
                  with_reducible rfl
                 rotate_left
                 ·simp only [Act.put,yK,yL,yM,i64_w,i32_w]
                  rfl
                 refine pure_ (i:=8) (N:=some 51) (v:=?_) (a':=?_) #[true,true,true,true,false,false,true,true,true,false,false,false] rfl rfl (any_of HT_.out (by kernel_rfl)) (fun _ _ _ h=>h) (Or.inl ⟨by rfl,?_⟩) ?_ ?_
                 rotate_left
                 ·intro w'
                  go_simp
                  with_reducible rfl
                 rotate_left
                 ·simp only [Act.put,yK,yL,yM,i64_w,i32_w]
                  rfl
                 refine pure_ (i:=9) (N:=some 52) (v:=?_) (a':=?_) #[true,true,true,true,false,false,true,true,true,true,false,false] rfl rfl (any_of HT_.out (by kernel_rfl)) (fun _ _ _ h=>h) (Or.inl ⟨by rfl,?_⟩) ?_ ?_
                 rotate_left
                 ·intro w'
                  go_simp
                  with_reducible rfl
                 rotate_left
                 ·simp only [Act.put,yK,yL,yM,i64_w,i32_w]
                  rfl
                 refine take_ (i:=4) (N:=some 47) (v:=?_) (a':=?_) #[true,true,true,true,true,false,true,true,true,true,false,false] rfl rfl (take_ofW HT_.out HW_.out (by kernel_rfl)) (fun _ _ _ h=>h) (Or.inl ⟨by rfl,?_⟩) hHeld ?_ ?_
                 rotate_left
                 ·intro w' s0
                  go_simp
                  with_reducible rfl
                 rotate_left
                 ·simp only [Act.put,yK,yL,yM,i64_w,i32_w]
                  rfl
                 refine one_ (i:=5) (N:=some 48) #[true,true,true,true,true,true,true,true,true,true,false,false] rfl rfl (one_of HT_.out (by kernel_rfl)) (by decide) (fun K hK=>?_)
                 refine Kd.R_lit_step Kd.bool _ 4 ?hg (N:=48) ?hd (xs:=([rdOf false x5_2 (ji20)]:List Bool)) (inner:=[.bool (rdOf false x5_2 (ji20))]) (ok:=fun _=>True) (okp:=fun _=>True) ?hr ?hp (fun _ hk=>hk) trivial (Below.refl _ _) (Nat.le_refl _) (by simp) ?_;(case hd=>rfl);(case hg=>rfl);(case hr=>first|(go_simp;done)|(go_simp;rfl));(case hp=>exact (Reps.one (show Kd.M Kd.bool _ _ _ (rdOf false x5_2 (ji20)) [.bool (rdOf false x5_2 (ji20))] from rfl) (Reps.none _ _)))
                 intro v300 w34 ho35 hb hg_ hnew_
                 have HS0_:=(hb.cell (World.block_lt_of_cell? _ _ (hHeld))).trans (hHeld)
                 clear hg_ hnew_
                 (first|rw [← Ny299.out] at ho35|(simp only [Int.reduceToNat] at ho35;rw [← Ny299.out] at ho35))
                 have n0_:=Aside0.mk (Kd.R_elder' (by (with_reducible repeat (first|apply yH|apply yI|apply yJ));exact HO297.out) (Kd.R_base ho35) hb)
                 have n1_:=Aside0.mk (Kd.R_elder' (by (with_reducible repeat (first|apply yH|apply yI|apply yJ));exact HO_5.out) (Kd.R_base ho35) hb)
                 have n2_:=Aside0.mk (Kd.R_lower (Kd.R_new' (Kd.R_new' ho35 (Kd.R_lt (by (with_reducible repeat (first|apply yH|apply yI|apply yJ));exact HO297.out))) (Kd.R_lt (by (with_reducible repeat (first|apply yH|apply yI|apply yJ));exact HO_5.out))) (yQ (by repeat (first|(with_reducible first|exact HB.out|apply yA|apply yB|apply yC|refine yD ?_ GE283.out|refine yD ?_ GE284.out)|exact HB.out))))
                 have n3_:=Aside0.mk (blk_below (g:=gb283) (o:=.cells #[.slice A0_0 l0_0.length c0_0,.slice A0_1 l0_1.length c0_1] 41 (0,0)) (by (with_reducible repeat (first|refine yE ?_ _|refine yF ?_|refine yG ?_ _));exact BK283.out) hb)
                 have n4_:=Aside0.mk (blk_below (g:=gb284) (o:=.cells #[.slice none 0 0,.slice none 0 0] 41 (0,0)) (by (with_reducible repeat (first|refine yE ?_ _|refine yF ?_|refine yG ?_ _));exact BK284.out) hb)
                 have n5_:=Aside0.mk (Kd.C_below (by repeat (first|(with_reducible exact HR305.out)|(with_reducible refine Kd.C_alloc ?_ _)|(with_reducible refine Kd.C_drewN ?_ _)|(with_reducible refine Kd.C_drew ?_)|exact HR305.out)) hb)
                 have n6_:=Aside0.mk (yP (by repeat (first|(with_reducible first|exact HB.out|apply yA|apply yB|apply yC|refine yD ?_ GE283.out|refine yD ?_ GE284.out)|exact HB.out)) hb)
                 clear HO297
                 clear HO_5
                 clear BK283
                 clear BK284
                 clear HR305
                 clear HB
                 have HO297:=n0_
                 have HO_5:=n1_
                 have HO301:=n2_
                 have BK283:=n3_
                 have BK284:=n4_
                 have HR305:=n5_
                 have HB:=n6_
                 clear n0_ n1_ n2_ n3_ n4_ n5_ n6_
                 clear hb ho35
                 refine hK.out _ _ (HS0_) (fun hHeld=>?_)
                 clear hK K
                 refine norm_ (a':=?_) ?_ ?_
                 rotate_left
                 ·show Act.put _ (some 48) _=_
                  simp only [Act.put,yK,yL,yM,i64_w,i32_w]
                  rfl
                 refine last_ (i:=10) (N:=some 53) #[true,true,true,true,true,true,true,true,true,true,true,false] rfl rfl (one_of HT_.out (by kernel_rfl)) (by decide) (fun K hK=>?_)
                 refine Kd.R_append_rows_step Kd.bool (w0:=w) w.heap.size (by rfl) (.tmp 48) (.tmp 52) 39 4 (.bool false) 1 rfl Try.underlying39 info4 rfl (by decide) (by omega) v300 y299 y302 _ _ _ (fun k_=>some k_≠(.slice (some ad293) y295.length co29:Value).ownBlock∧some k_≠(.slice (some ad294) x5_2.length co30:Value).ownBlock) (fun _=>False) rfl rfl ?aO ?aR (fun _ _ h=>h) (fun _ h=>h.elim) ?aF ?aB ?aS ?aL ?_
                 (case aR=>repeat (first|exact (by repeat (first|(with_reducible exact HR305.out)|(with_reducible refine Kd.C_alloc ?_ _)|(with_reducible refine Kd.C_drewN ?_ _)|(with_reducible refine Kd.C_drew ?_)|exact HR305.out))|(with_reducible refine Kd.C_alloc ?_ _)|(with_reducible refine Kd.C_drewN ?_ _)|(with_reducible refine Kd.C_drew ?_)))
                 (case aB=>exact (by repeat (first|(with_reducible first|exact HB.out|apply yA|apply yB|apply yC|refine yD ?_ GE283.out|refine yD ?_ GE284.out)|exact HB.out)))
                 (case aF=>exact (fun k_ hk=>⟨Kd.fresh' (Kd.R_lt (by (with_reducible repeat (first|apply yH|apply yI|apply yJ));exact HO297.out)) k_ hk,Kd.fresh' (Kd.R_lt (by (with_reducible repeat (first|apply yH|apply yI|apply yJ));exact HO_5.out)) k_ hk⟩))
                 (case aO=>exact (by (with_reducible repeat (first|apply yH|apply yI|apply yJ));exact Kd.R_mono HO301.out (fun _ hk=>⟨hk.1.2,hk.2⟩)))
                 (case aS=>exact (yQ (by repeat (first|(with_reducible first|exact HB.out|apply yA|apply yB|apply yC|refine yD ?_ GE283.out|refine yD ?_ GE284.out)|exact HB.out))))
                 (case aL=>have:=LMc27.out;omega)
                 intro v307 w36 ho hb hg hat
                 rw [← Ny306.out] at ho
                 have n0_:=Aside0.mk (Kd.R_after (ok:=(fun k_=>some k_≠(.slice (some ad294) x5_2.length co30:Value).ownBlock)) (by (with_reducible repeat (first|apply yH|apply yI|apply yJ));exact HO297.out) hg hat)
                 have n1_:=Aside0.mk (Kd.R_after (ok:=(fun k_=>some k_≠(.slice (some ad293) y295.length co29:Value).ownBlock)) (by (with_reducible repeat (first|apply yH|apply yI|apply yJ));exact HO_5.out) hg hat)
                 have n2_:=Aside0.mk (blk_grown (g:=gb283) (o:=.cells #[.slice A0_0 l0_0.length c0_0,.slice A0_1 l0_1.length c0_1] 41 (0,0)) (by (with_reducible repeat (first|refine yE ?_ _|refine yF ?_|refine yG ?_ _));exact BK283.out) hg (Kd.R_ne HO301.out BK283.out (by decide)))
                 have n3_:=Aside0.mk (blk_grown (g:=gb284) (o:=.cells #[.slice none 0 0,.slice none 0 0] 41 (0,0)) (by (with_reducible repeat (first|refine yE ?_ _|refine yF ?_|refine yG ?_ _));exact BK284.out) hg (Kd.R_ne HO301.out BK284.out (by decide)))
                 have n4_:=Aside0.mk (hb)
                 have n5_:=Aside0.mk ((show Kd.C Kd.bool w36 (some ad294) y302.length y302 from by rw [Ny302.out];exact Kd.C_take (m:=((ji20):Int).toNat) ((Kd.R_reads' (Kd.R_after (ok:=(fun k_=>some k_≠(.slice (some ad293) y295.length co29:Value).ownBlock)) (by (with_reducible repeat (first|apply yH|apply yI|apply yJ));exact HO_5.out) hg hat)).2.2) KL33.out))
                 have n6_:=Aside0.mk (ho)
                 clear HO297
                 clear HO_5
                 clear BK283
                 clear BK284
                 clear HB
                 clear HR305
                 clear HO301
                 have HO297:=n0_
                 have HO_5:=n1_
                 have BK283:=n2_
                 have BK284:=n3_
                 have HB:=n4_
                 have HR305:=n5_
                 have HO308:=n6_
                 clear n0_ n1_ n2_ n3_ n4_ n5_ n6_
                 clear ho hb hg hat
                 refine hK.out _ _ ?_
                 clear hK K
                 refine norm_ (a':=?_) ?_ ?_
                 rotate_left
                 ·show Act.put _ (some 53) _=_
                  simp only [Act.put,yK,yL,yM,i64_w,i32_w]
                  rfl
                 refine pure_ (i:=11) (N:=some 5) (v:=?_) (a':=?_) #[true,true,true,true,true,true,true,true,true,true,true,true] rfl rfl (any_of HT_.out (by kernel_rfl)) (fun _ _ _ h=>h) (Or.inl ⟨by rfl,?_⟩) ?_ ?_
                 rotate_left
                 ·intro w'
                  go_simp
                  with_reducible rfl
                 rotate_left
                 ·simp only [Act.put,yK,yL,yM,i64_w,i32_w]
                  rfl
                 refine done_ (done_of HT_.out (by kernel_rfl)) ?_
                 try go_wp2
                 go_roundg k2
                 case measure=>have:=HK1.out;have:=HK2.out;omega
                 case rel=>exact ⟨(y295),(y306),H',⟨by have:=HK1.out;have:=HK2.out;omega⟩,⟨by (with_reducible repeat (first|apply yH|apply yI|apply yJ));exact Kd.R_mono HO297.out (fun _ hk=>hk.2)⟩,⟨by (with_reducible repeat (first|apply yH|apply yI|apply yJ));exact Kd.R_mono HO308.out (fun _ hk=>hk.1)⟩,⟨by (with_reducible repeat (first|refine yE ?_ _|refine yF ?_|refine yG ?_ _));exact BK283.out⟩,⟨by (with_reducible repeat (first|refine yE ?_ _|refine yF ?_|refine yG ?_ _));exact BK284.out⟩,⟨by repeat (first|(with_reducible first|exact HB.out|apply yA|apply yB|apply yC|refine yD ?_ GE283.out|refine yD ?_ GE284.out)|exact HB.out)⟩⟩
                ·rw [if_neg c27] at H
                 exact absurd H (by simp)
               ·rw [if_neg c26] at H
                exact absurd H (by simp)
              ·rw [if_neg c24] at H
               exact absurd H (by simp)
             ·rw [if_neg c23] at H
              have c23b0:((rdOf false x4_2 (ji17)) == (rdOf false x5_2 (ji20)))=false:=by simpa using c23
              (try (have c23b1:decide ((rdOf false x4_2 (ji17))=(rdOf false x5_2 (ji20)))=false:=by simpa using c23))
              (try (have c23b2:((rdOf false x4_2 (ji17)) == (rdOf false x5_2 (ji20)))=false:=by simpa using c23))
              (try (have c23b3:¬ ((rdOf false x4_2 (ji17))=(rdOf false x5_2 (ji20))):=by simpa using c23))
              clear c23
              simp only [Option.some.injEq,Prod.mk.injEq] at H
              obtain ⟨rfl,rfl⟩:=H
              try go_wp2
              have n0_:=Aside0.mk (yJ HO_4.out)
              have n1_:=Aside0.mk (yJ HO_5.out)
              have n2_:=Aside0.mk (yF BK283.out)
              have n3_:=Aside0.mk (yF BK284.out)
              have n4_:=Aside0.mk (yC HB.out)
              clear HO_4
              clear HO_5
              clear BK283
              clear BK284
              clear HB
              have HO_4:=n0_
              have HO_5:=n1_
              have BK283:=n2_
              have BK284:=n3_
              have HB:=n4_
              clear n0_ n1_ n2_ n3_ n4_
              obtain ⟨Ao38,co38,eo38⟩:=Kd.R_slice HO_4.out
              (first|subst eo38|(injection eo38 with f1_ f2_ f3_;have f4_:=f1_.symm;have f5_:=f3_.symm;clear f1_ f2_ f3_;subst f4_;subst f5_))
              have p293:0≤((ji17):Int):=of_decide_eq_true (by first|(with_reducible assumption)|assumption)
              have q293:(ji17)<(x4_2.length:Int):=of_decide_eq_true (by first|(with_reducible assumption)|assumption)
              obtain ⟨ad293,e293,hx293_0⟩:=Kd.at_bool (Kd.R_reads' HO_4.out).2.2 (ji17) p293 q293
              cases e293
              replace p293:=eq_true p293
              replace q293:=eq_true q293
              obtain ⟨Ao39,co39,eo39⟩:=Kd.R_slice HO_5.out
              (first|subst eo39|(injection eo39 with f1_ f2_ f3_;have f4_:=f1_.symm;have f5_:=f3_.symm;clear f1_ f2_ f3_;subst f4_;subst f5_))
              have p294:0≤((ji20):Int):=of_decide_eq_true (by first|(with_reducible assumption)|assumption)
              have q294:(ji20)<(x5_2.length:Int):=of_decide_eq_true (by first|(with_reducible assumption)|assumption)
              obtain ⟨ad294,e294,hx294_0⟩:=Kd.at_bool (Kd.R_reads' HO_5.out).2.2 (ji20) p294 q294
              cases e294
              replace p294:=eq_true p294
              replace q294:=eq_true q294
              refine start_ (n:=17) (S:=fun w'=>w'.cell? (ad293.add ((ji17)).toNat)=some (.bool (rdOf false x4_2 (ji17)))∧w'.cell? (ad294.add ((ji20)).toNat)=some (.bool (rdOf false x5_2 (ji20)))) (ds:=[]) #[false,false,false,false,false,false,false,false,false,false,false,false,false,false,false,false,false] (by kernel_rfl) rfl rfl ⟨hx293_0,hx294_0⟩ (fun hHeld=>?_);refine with_tabW impl_set_tidy.tab5 impl_set_tidy.bits5 (fun HT_ HW_=>?_)
              generalize wr.drew=w37 at HO_4 HO_5 BK283 BK284 HB hx293_0 hx294_0 hHeld ⊢
              refine pure_ (i:=0) (N:=some 21) (v:=?_) (a':=?_) #[true,false,false,false,false,false,false,false,false,false,false,false,false,false,false,false,false] rfl rfl (any_of HT_.out (by kernel_rfl)) (fun _ _ _ h=>h) (Or.inl ⟨by rfl,?_⟩) ?_ ?_
              rotate_left
              ·intro w'
               go_simp
               with_reducible rfl
              rotate_left
              ·simp only [Act.put,yK,yL,yM,i64_w,i32_w]
               rfl
              refine pure_ (i:=1) (N:=some 22) (v:=?_) (a':=?_) #[true,true,false,false,false,false,false,false,false,false,false,false,false,false,false,false,false] rfl rfl (any_of HT_.out (by kernel_rfl)) (fun _ _ _ h=>h) (Or.inl ⟨by rfl,?_⟩) ?_ ?_
              rotate_left
              ·intro w'
               go_simp
               with_reducible rfl
              rotate_left
              ·simp only [Act.put,yK,yL,yM,i64_w,i32_w]
               rfl
              refine pure_ (i:=2) (N:=some 23) (v:=?_) (a':=?_) #[true,true,true,false,false,false,false,false,false,false,false,false,false,false,false,false,false] rfl rfl (any_of HT_.out (by kernel_rfl)) (fun _ _ _ h=>h) (Or.inl ⟨by rfl,?_⟩) ?_ ?_
              rotate_left
              ·intro w'
               go_simp
               with_reducible rfl
              rotate_left
              ·simp only [Act.put,yK,yL,yM,i64_w,i32_w]
               rfl
              refine pure_ (i:=3) (N:=some 24) (v:=?_) (a':=?_) #[true,true,true,true,false,false,false,false,false,false,false,false,false,false,false,false,false] rfl rfl (any_of HT_.out (by kernel_rfl)) (fun _ _ _ h=>h) (Or.inl ⟨by rfl,?_⟩) ?_ ?_
              rotate_left
              ·intro w'
               go_simp
               with_reducible rfl
              rotate_left
              ·simp only [Act.put,yK,yL,yM,i64_w,i32_w]
               rfl
              refine pure_ (i:=4) (N:=some 25) (v:=?_) (a':=?_) #[true,true,true,true,true,false,false,false,false,false,false,false,false,false,false,false,false] rfl rfl (any_of HT_.out (by kernel_rfl)) (fun _ _ _ h=>h) (Or.inl ⟨by rfl,?_⟩) ?_ ?_
              rotate_left
              ·intro w'
               go_simp
               with_reducible rfl
              rotate_left
              ·simp only [Act.put,yK,yL,yM,i64_w,i32_w]
               rfl
              refine pure_ (i:=5) (N:=some 26) (v:=?_) (a':=?_) #[true,true,true,true,true,true,false,false,false,false,false,false,false,false,false,false,false] rfl rfl (any_of HT_.out (by kernel_rfl)) (fun _ _ _ h=>h) (Or.inl ⟨by rfl,?_⟩) ?_ ?_
              rotate_left
              ·intro w'
               go_simp
               with_reducible rfl
              rotate_left
              ·simp only [Act.put,yK,yL,yM,i64_w,i32_w]
               rfl
              refine pure_ (i:=6) (N:=some 27) (v:=?_) (a':=?_) #[true,true,true,true,true,true,true,false,false,false,false,false,false,false,false,false,false] rfl rfl (any_of HT_.out (by kernel_rfl)) (fun _ _ _ h=>h) (Or.inl ⟨by rfl,?_⟩) ?_ ?_
              rotate_left
              ·intro w'
               go_simp
               with_reducible rfl
              rotate_left
              ·simp only [Act.put,yK,yL,yM,i64_w,i32_w]
               rfl
              refine pure_ (i:=7) (N:=some 28) (v:=?_) (a':=?_) #[true,true,true,true,true,true,true,true,false,false,false,false,false,false,false,false,false] rfl rfl (any_of HT_.out (by kernel_rfl)) (fun _ _ _ h=>h) (Or.inl ⟨by rfl,?_⟩) ?_ ?_
              rotate_left
              ·intro w'
               go_simp
               with_reducible rfl
              rotate_left
              ·simp only [Act.put,yK,yL,yM,i64_w,i32_w]
               rfl
              refine pure_ (i:=8) (N:=some 29) (v:=?_) (a':=?_) #[true,true,true,true,true,true,true,true,true,false,false,false,false,false,false,false,false] rfl rfl (any_of HT_.out (by kernel_rfl)) (fun _ _ _ h=>h) (Or.inl ⟨by rfl,?_⟩) ?_ ?_
              rotate_left
              ·intro w'
               go_simp
               with_reducible rfl
              rotate_left
              ·simp only [Act.put,yK,yL,yM,i64_w,i32_w]
               rfl
              refine pure_ (i:=10) (N:=some 31) (v:=?_) (a':=?_) #[true,true,true,true,true,true,true,true,true,false,true,false,false,false,false,false,false] rfl rfl (any_of HT_.out (by kernel_rfl)) (fun _ _ _ h=>h) (Or.inl ⟨by rfl,?_⟩) ?_ ?_
              rotate_left
              ·intro w'
               go_simp
               with_reducible rfl
              rotate_left
              ·simp only [Act.put,yK,yL,yM,i64_w,i32_w]
               rfl
              refine pure_ (i:=11) (N:=some 32) (v:=?_) (a':=?_) #[true,true,true,true,true,true,true,true,true,false,true,true,false,false,false,false,false] rfl rfl (any_of HT_.out (by kernel_rfl)) (fun _ _ _ h=>h) (Or.inl ⟨by rfl,?_⟩) ?_ ?_
              rotate_left
              ·intro w'
               go_simp
               with_reducible rfl
              rotate_left
              ·simp only [Act.put,yK,yL,yM,i64_w,i32_w]
               rfl
              refine pure_ (i:=12) (N:=some 33) (v:=?_) (a':=?_) #[true,true,true,true,true,true,true,true,true,false,true,true,true,false,false,false,false] rfl rfl (any_of HT_.out (by kernel_rfl)) (fun _ _ _ h=>h) (Or.inl ⟨by rfl,?_⟩) ?_ ?_
              rotate_left
              ·intro w'
               go_simp
               with_reducible rfl
              rotate_left
              ·simp only [Act.put,yK,yL,yM,i64_w,i32_w]
               rfl
              refine pure_ (i:=13) (N:=some 34) (v:=?_) (a':=?_) #[true,true,true,true,true,true,true,true,true,false,true,true,true,true,false,false,false] rfl rfl (any_of HT_.out (by kernel_rfl)) (fun _ _ _ h=>h) (Or.inl ⟨by rfl,?_⟩) ?_ ?_
              rotate_left
              ·intro w'
               go_simp
               with_reducible rfl
              rotate_left
              ·simp only [Act.put,yK,yL,yM,i64_w,i32_w]
               rfl
              refine take_ (i:=9) (N:=some 30) (v:=?_) (a':=?_) #[true,true,true,true,true,true,true,true,true,true,true,true,true,true,false,false,false] rfl rfl (take_ofW HT_.out HW_.out (by kernel_rfl)) (fun _ _ _ h=>h) (Or.inl ⟨by rfl,?_⟩) hHeld ?_ ?_
              rotate_left
              ·rintro w' ⟨s0,s1⟩
               go_simp
               with_reducible rfl
              rotate_left
              ·simp only [Act.put,yK,yL,yM,i64_w,i32_w]
               rfl
              refine take_ (i:=14) (N:=some 35) (v:=?_) (a':=?_) #[true,true,true,true,true,true,true,true,true,true,true,true,true,true,true,false,false] rfl rfl (take_ofW HT_.out HW_.out (by kernel_rfl)) (fun _ _ _ h=>h) (Or.inl ⟨by rfl,?_⟩) hHeld ?_ ?_
              rotate_left
              ·rintro w' ⟨s0,s1⟩
               go_simp
               with_reducible rfl
              rotate_left
              ·simp only [Act.put,yK,yL,yM,i64_w,i32_w]
               rfl
              refine pure_ (i:=15) (N:=some 36) (v:=?_) (a':=?_) #[true,true,true,true,true,true,true,true,true,true,true,true,true,true,true,true,false] rfl rfl (any_of HT_.out (by kernel_rfl)) (fun _ _ _ h=>h) (Or.inl ⟨by rfl,?_⟩) ?_ ?_
              rotate_left
              ·intro w'
               go_simp
               with_reducible rfl
              rotate_left
              ·simp only [Act.put,yK,yL,yM,i64_w,i32_w]
               rfl
              refine pure_ (i:=16) (N:=some 37) (v:=?_) (a':=?_) #[true,true,true,true,true,true,true,true,true,true,true,true,true,true,true,true,true] rfl rfl (any_of HT_.out (by kernel_rfl)) (fun _ _ _ h=>h) (Or.inl ⟨by rfl,?_⟩) ?_ ?_
              rotate_left
              ·intro w'
               go_simp
               with_reducible rfl
              rotate_left
              ·simp only [Act.put,yK,yL,yM,i64_w,i32_w]
               rfl
              refine done_ (done_of HT_.out (by kernel_rfl)) ?_
              have hnb40:=NB284_283.out
              have hnc40:=NB283_284.out
              have hcz41_0:w37.cell? ⟨gb284,0,none⟩=some (.slice none 0 0):=(blk_cell BK284.out 0).trans rfl
              have hcz41_1:w37.cell? ⟨gb284,1,none⟩=some (.slice none 0 0):=(blk_cell BK284.out 1).trans rfl
              have hfz41_0:=blk_frozen BK284.out 0
              have hfz41_1:=blk_frozen BK284.out 1
              try go_wp2
              refine bodyPost_ret (results_cell_row rfl _ _ gb284 41 #[.slice (some ad293) x4_2.length co38,.slice (some ad294) x5_2.length co39] (0,0) _ rfl (by (with_reducible repeat (first|refine yE ?_ _|refine yF ?_|refine yG ?_ _));refine blk_put (cs:=#[.slice (some ad293) x4_2.length co38,.slice none 0 0]) ?_ 1 _ rfl;(with_reducible repeat (first|refine yE ?_ _|refine yF ?_|refine yG ?_ _));refine blk_put (cs:=#[.slice none 0 0,.slice none 0 0]) ?_ 0 _ rfl;(with_reducible repeat (first|refine yE ?_ _|refine yF ?_|refine yG ?_ _));exact BK284.out) Try.underlying41 rfl (by kernel_rfl)) rfl ?_
              exact ⟨_,_,by first|rfl|(simp [errW_none,errW_some]<;>rfl)|(simp only [← hji17,← hji20];first|rfl|(simp [errW_none,errW_some]<;>rfl))|(simp [*,errW_none,errW_some]<;>rfl),by (with_reducible repeat (first|apply yH|apply yI|apply yJ));exact Kd.R_mono (Kd.R_far (p:=⟨gb284,1,none⟩) (Kd.R_far (p:=⟨gb284,0,none⟩) (Kd.R_types HO_4.out BK284.out (by decide)) (fun _ hk=>hk.2) (.slice (some ad293) x4_2.length co38)) (fun _ hk=>hk.2) (.slice (some ad294) x5_2.length co39)) (fun _ hk=>hk.1),by (with_reducible repeat (first|apply yH|apply yI|apply yJ));exact Kd.R_mono (Kd.R_far (p:=⟨gb284,1,none⟩) (Kd.R_far (p:=⟨gb284,0,none⟩) (Kd.R_types HO_5.out BK284.out (by decide)) (fun _ hk=>hk.2) (.slice (some ad293) x4_2.length co38)) (fun _ hk=>hk.2) (.slice (some ad294) x5_2.length co39)) (fun _ hk=>hk.1),by repeat (first|(with_reducible first|exact HB.out|apply yA|apply yB|apply yC|refine yD ?_ GE283.out|refine yD ?_ GE284.out)|exact HB.out)⟩
            ·rw [if_neg c22] at H
             exact absurd H (by simp)
           ·rw [if_neg c21] at H
            exact absurd H (by simp)
          ·rw [if_neg c19] at H
           exact absurd H (by simp)
         ·rw [if_neg c18] at H
          exact absurd H (by simp)
        ·rw [if_neg c16] at H
         have c16b0:decide (0<(x4_2.length:Int))=false:=decide_eq_false c16
         have c16b1:decide (0<x4_2.length)=false:=decide_eq_false (by omega)
         clear c16
         simp only [Option.some.injEq,Prod.mk.injEq] at H
         obtain ⟨rfl,rfl⟩:=H
         try go_wp2
         have n0_:=Aside0.mk (yJ HO_4.out)
         have n1_:=Aside0.mk (yJ HO_5.out)
         have n2_:=Aside0.mk (yF BK283.out)
         have n3_:=Aside0.mk (yF BK284.out)
         have n4_:=Aside0.mk (yC HB.out)
         clear HO_4
         clear HO_5
         clear BK283
         clear BK284
         clear HB
         have HO_4:=n0_
         have HO_5:=n1_
         have BK283:=n2_
         have BK284:=n3_
         have HB:=n4_
         clear n0_ n1_ n2_ n3_ n4_
         obtain ⟨Ao43,co43,eo43⟩:=Kd.R_slice HO_4.out
         (first|subst eo43|(injection eo43 with f1_ f2_ f3_;have f4_:=f1_.symm;have f5_:=f3_.symm;clear f1_ f2_ f3_;subst f4_;subst f5_))
         refine start_ (n:=17) (S:=fun w'=>True) (ds:=[]) #[false,false,false,false,false,false,false,false,false,false,false,false,false,false,false,false,false] (by kernel_rfl) rfl rfl trivial (fun hHeld=>?_);refine with_tabW impl_set_tidy.tab5 impl_set_tidy.bits5 (fun HT_ HW_=>?_)
         generalize wr.drew=w42 at HO_4 HO_5 BK283 BK284 HB hHeld ⊢
         refine pure_ (i:=0) (N:=some 21) (v:=?_) (a':=?_) #[true,false,false,false,false,false,false,false,false,false,false,false,false,false,false,false,false] rfl rfl (any_of HT_.out (by kernel_rfl)) (fun _ _ _ h=>h) (Or.inl ⟨by rfl,?_⟩) ?_ ?_
         rotate_left
         ·intro w'
          go_simp
          with_reducible rfl
         rotate_left
         ·simp only [Act.put,yK,yL,yM,i64_w,i32_w]
          rfl
         refine pure_ (i:=1) (N:=some 22) (v:=?_) (a':=?_) #[true,true,false,false,false,false,false,false,false,false,false,false,false,false,false,false,false] rfl rfl (any_of HT_.out (by kernel_rfl)) (fun _ _ _ h=>h) (Or.inl ⟨by rfl,?_⟩) ?_ ?_
         rotate_left
         ·intro w'
          go_simp
          with_reducible rfl
         rotate_left
         ·simp only [Act.put,yK,yL,yM,i64_w,i32_w]
          rfl
         refine pure_ (i:=2) (N:=some 23) (v:=?_) (a':=?_) #[true,true,true,false,false,false,false,false,false,false,false,false,false,false,false,false,false] rfl rfl (any_of HT_.out (by kernel_rfl)) (fun _ _ _ h=>h) (Or.inl ⟨by rfl,?_⟩) ?_ ?_
         rotate_left
         ·intro w'
          go_simp
          with_reducible rfl
         rotate_left
         ·simp only [Act.put,yK,yL,yM,i64_w,i32_w]
          rfl
         refine pure_ (i:=3) (N:=some 24) (v:=?_) (a':=?_) #[true,true,true,true,false,false,false,false,false,false,false,false,false,false,false,false,false] rfl rfl (any_of HT_.out (by kernel_rfl)) (fun _ _ _ h=>h) (Or.inl ⟨by rfl,?_⟩) ?_ ?_
         rotate_left
         ·intro w'
          go_simp
          with_reducible rfl
         rotate_left
         ·simp only [Act.put,yK,yL,yM,i64_w,i32_w]
          rfl
         refine pure_ (i:=4) (N:=some 25) (v:=undef) (a':=?_) #[true,true,true,true,true,false,false,false,false,false,false,false,false,false,false,false,false] rfl rfl (any_of HT_.out (by kernel_rfl)) (fun _ _ _ h=>h) (Or.inr ⟨by rfl,rfl⟩) ?_ ?_
         rotate_left
         ·simp only [Act.put,yK,yL,yM,i64_w,i32_w]
          rfl
         refine pure_ (i:=5) (N:=some 26) (v:=undef) (a':=?_) #[true,true,true,true,true,true,false,false,false,false,false,false,false,false,false,false,false] rfl rfl (any_of HT_.out (by kernel_rfl)) (fun _ _ _ h=>h) (Or.inr ⟨by rfl,rfl⟩) ?_ ?_
         rotate_left
         ·simp only [Act.put,yK,yL,yM,i64_w,i32_w]
          rfl
         refine pure_ (i:=6) (N:=some 27) (v:=undef) (a':=?_) #[true,true,true,true,true,true,true,false,false,false,false,false,false,false,false,false,false] rfl rfl (any_of HT_.out (by kernel_rfl)) (fun _ _ _ h=>h) (Or.inr ⟨by rfl,rfl⟩) ?_ ?_
         rotate_left
         ·simp only [Act.put,yK,yL,yM,i64_w,i32_w]
          rfl
         refine pure_ (i:=7) (N:=some 28) (v:=undef) (a':=?_) #[true,true,true,true,true,true,true,true,false,false,false,false,false,false,false,false,false] rfl rfl (any_of HT_.out (by kernel_rfl)) (fun _ _ _ h=>h) (Or.inr ⟨by rfl,rfl⟩) ?_ ?_
         rotate_left
         ·simp only [Act.put,yK,yL,yM,i64_w,i32_w]
          rfl
         refine pure_ (i:=8) (N:=some 29) (v:=undef) (a':=?_) #[true,true,true,true,true,true,true,true,true,false,false,false,false,false,false,false,false] rfl rfl (any_of HT_.out (by kernel_rfl)) (fun _ _ _ h=>h) (Or.inr ⟨by rfl,rfl⟩) ?_ ?_
         rotate_left
         ·simp only [Act.put,yK,yL,yM,i64_w,i32_w]
          rfl
         refine pure_ (i:=9) (N:=some 30) (v:=undef) (a':=?_) #[true,true,true,true,true,true,true,true,true,true,false,false,false,false,false,false,false] rfl rfl (any_of HT_.out (by kernel_rfl)) (fun _ _ _ h=>h) (Or.inr ⟨by rfl,rfl⟩) ?_ ?_
         rotate_left
         ·simp only [Act.put,yK,yL,yM,i64_w,i32_w]
          rfl
         refine pure_ (i:=10) (N:=some 31) (v:=undef) (a':=?_) #[true,true,true,true,true,true,true,true,true,true,true,false,false,false,false,false,false] rfl rfl (any_of HT_.out (by kernel_rfl)) (fun _ _ _ h=>h) (Or.inr ⟨by rfl,rfl⟩) ?_ ?_
         rotate_left
         ·simp only [Act.put,yK,yL,yM,i64_w,i32_w]
          rfl
         refine pure_ (i:=11) (N:=some 32) (v:=undef) (a':=?_) #[true,true,true,true,true,true,true,true,true,true,true,true,false,false,false,false,false] rfl rfl (any_of HT_.out (by kernel_rfl)) (fun _ _ _ h=>h) (Or.inr ⟨by rfl,rfl⟩) ?_ ?_
         rotate_left
         ·simp only [Act.put,yK,yL,yM,i64_w,i32_w]
          rfl
         refine pure_ (i:=12) (N:=some 33) (v:=undef) (a':=?_) #[true,true,true,true,true,true,true,true,true,true,true,true,true,false,false,false,false] rfl rfl (any_of HT_.out (by kernel_rfl)) (fun _ _ _ h=>h) (Or.inr ⟨by rfl,rfl⟩) ?_ ?_
         rotate_left
         ·simp only [Act.put,yK,yL,yM,i64_w,i32_w]
          rfl
         refine pure_ (i:=13) (N:=some 34) (v:=undef) (a':=?_) #[true,true,true,true,true,true,true,true,true,true,true,true,true,true,false,false,false] rfl rfl (any_of HT_.out (by kernel_rfl)) (fun _ _ _ h=>h) (Or.inr ⟨by rfl,rfl⟩) ?_ ?_
         rotate_left
         ·simp only [Act.put,yK,yL,yM,i64_w,i32_w]
          rfl
         refine pure_ (i:=14) (N:=some 35) (v:=undef) (a':=?_) #[true,true,true,true,true,true,true,true,true,true,true,true,true,true,true,false,false] rfl rfl (any_of HT_.out (by kernel_rfl)) (fun _ _ _ h=>h) (Or.inr ⟨by rfl,rfl⟩) ?_ ?_
         rotate_left
         ·simp only [Act.put,yK,yL,yM,i64_w,i32_w]
          rfl
         refine pure_ (i:=15) (N:=some 36) (v:=undef) (a':=?_) #[true,true,true,true,true,true,true,true,true,true,true,true,true,true,true,true,false] rfl rfl (any_of HT_.out (by kernel_rfl)) (fun _ _ _ h=>h) (Or.inr ⟨by rfl,rfl⟩) ?_ ?_
         rotate_left
         ·simp only [Act.put,yK,yL,yM,i64_w,i32_w]
          rfl
         refine pure_ (i:=16) (N:=some 37) (v:=?_) (a':=?_) #[true,true,true,true,true,true,true,true,true,true,true,true,true,true,true,true,true] rfl rfl (any_of HT_.out (by kernel_rfl)) (fun _ _ _ h=>h) (Or.inl ⟨by rfl,?_⟩) ?_ ?_
         rotate_left
         ·intro w'
          go_simp
          with_reducible rfl
         rotate_left
         ·simp only [Act.put,yK,yL,yM,i64_w,i32_w]
          rfl
         refine done_ (done_of HT_.out (by kernel_rfl)) ?_
         obtain ⟨Ao44,co44,eo44⟩:=Kd.R_slice HO_5.out
         subst eo44
         have hnb45:=NB284_283.out
         have hnc45:=NB283_284.out
         have hcz46_0:w42.cell? ⟨gb284,0,none⟩=some (.slice none 0 0):=(blk_cell BK284.out 0).trans rfl
         have hcz46_1:w42.cell? ⟨gb284,1,none⟩=some (.slice none 0 0):=(blk_cell BK284.out 1).trans rfl
         have hfz46_0:=blk_frozen BK284.out 0
         have hfz46_1:=blk_frozen BK284.out 1
         try go_wp2
         refine bodyPost_ret (results_cell_row rfl _ _ gb284 41 #[.slice Ao43 x4_2.length co43,.slice Ao44 x5_2.length co44] (0,0) _ rfl (by (with_reducible repeat (first|refine yE ?_ _|refine yF ?_|refine yG ?_ _));refine blk_put (cs:=#[.slice Ao43 x4_2.length co43,.slice none 0 0]) ?_ 1 _ rfl;(with_reducible repeat (first|refine yE ?_ _|refine yF ?_|refine yG ?_ _));refine blk_put (cs:=#[.slice none 0 0,.slice none 0 0]) ?_ 0 _ rfl;(with_reducible repeat (first|refine yE ?_ _|refine yF ?_|refine yG ?_ _));exact BK284.out) Try.underlying41 rfl (by kernel_rfl)) rfl ?_
         exact ⟨_,_,by first|rfl|(simp [errW_none,errW_some]<;>rfl)|(simp [*,errW_none,errW_some]<;>rfl)|(simp [errW_none,errW_some];exact ⟨rfl,rfl⟩),by (with_reducible repeat (first|apply yH|apply yI|apply yJ));exact Kd.R_mono (Kd.R_far (p:=⟨gb284,1,none⟩) (Kd.R_far (p:=⟨gb284,0,none⟩) (Kd.R_types HO_4.out BK284.out (by decide)) (fun _ hk=>hk.2) (.slice Ao43 x4_2.length co43)) (fun _ hk=>hk.2) (.slice Ao44 x5_2.length co44)) (fun _ hk=>hk.1),by (with_reducible repeat (first|apply yH|apply yI|apply yJ));exact Kd.R_mono (Kd.R_far (p:=⟨gb284,1,none⟩) (Kd.R_far (p:=⟨gb284,0,none⟩) (Kd.R_types HO_5.out BK284.out (by decide)) (fun _ hk=>hk.2) (.slice Ao43 x4_2.length co43)) (fun _ hk=>hk.2) (.slice Ao44 x5_2.length co44)) (fun _ hk=>hk.1),by repeat (first|(with_reducible first|exact HB.out|apply yA|apply yB|apply yC|refine yD ?_ GE283.out|refine yD ?_ GE284.out)|exact HB.out)⟩
     ·rw [if_neg c8] at H
      exact absurd H (by simp)
    ·rw [if_neg c7] at H
     exact absurd H (by simp)
   ·replace c5:=Bool.eq_false_iff.mpr c5
    subst c5
    have H1:(impl_set_tidy.l0 k1 (wrap64 (x3_1+1)) l0_0 l0_1)=some (r1,r2):=by rw [if_neg (show ¬ (false=true) by decide)] at H;exact H
    clear H
    have H:=H1
    clear H1
    have H':=Aside0.mk H
    clear H
    have hnb47:=NB283_284.out
    have hnc47:=NB284_283.out
    have hcz48_0:wr.cell? ⟨gb283,0,none⟩=some (.slice A0_0 l0_0.length c0_0):=(blk_cell BK283.out 0).trans rfl
    have hcz48_1:wr.cell? ⟨gb283,1,none⟩=some (.slice A0_1 l0_1.length c0_1):=(blk_cell BK283.out 1).trans rfl
    have hfz48_0:=blk_frozen BK283.out 0
    have hfz48_1:=blk_frozen BK283.out 1
    go_wp2_with (first|((with_reducible refine gate_callee (f:=79) rfl ?_);refine goesL_ (some 9) rfl rfl Try.func79 (by kernel_rfl) rfl #[.slice A0_1 l0_1.length c0_1,.int .i64 x3_1] rfl (by (try simp only [List.map_toArray,List.map_cons,List.map_nil]);first|done|rfl|(simp only [List.length_drop,List.length_take];rfl)) ?_;(with_reducible refine (impl_turns.calls k1 _ _ l0_1 x3_1 false _ ?side1 ?side2 A4.out).mono ?_);(case side1=>repeat (first|exact (Kd.C_below HR0_1.out HB.out)|(with_reducible refine Kd.C_alloc ?_ _)|(with_reducible refine Kd.C_drewN ?_ _)|(with_reducible refine Kd.C_drew ?_)));(case side2=>exact HC0_1.out);rintro e w' ⟨rfl,⟨nd,rfl⟩⟩;refine ⟨_,rfl,?_⟩))
    go_roundg k1
    case measure=>have:=HK1.out;omega
    case rel=>exact ⟨(wrap64 (x3_1+1)),(by first|rfl|(simp;done)|(simp [*];done)|(simp [Int.tmod_eq_emod_of_nonneg];done)),H',⟨by have:=HK1.out;omega⟩,⟨by (with_reducible repeat (first|refine yE ?_ _|refine yF ?_|refine yG ?_ _));exact BK283.out⟩,⟨by (with_reducible repeat (first|refine yE ?_ _|refine yF ?_|refine yG ?_ _));exact BK284.out⟩,⟨by repeat (first|(with_reducible first|exact HB.out|apply yA|apply yB|apply yC|refine yD ?_ GE283.out|refine yD ?_ GE284.out)|exact HB.out)⟩⟩

end Go.Proofs.Ytgheopbdmijlkaa.P

namespace Go.Proofs.Ytgheopbdmijlkaa.P
open Go.RowKit Go.Proofs.YtgheopbdmijlkaaW.PrintWords Go.Proofs.YtgheopbdmijlkaaW.PrintLast Go.Proofs.YtgheopbdmijlkaaW.PrintMore
attribute [local go_sem] max2_int min2_int max_two min_two max_three min_three max_four min_four   -- for this text's walks alone
set_option linter.unusedVariables false
set_option linter.unusedSimpArgs false

/-! ### laws_eqIntS: function 41 -/
def laws_eqIntS.l0:Nat→List Int→List Int→Int→Option (Bool)
 | 0,_,_,_=>none
 | k+1,x0,x1,x5=>if x5<(x0.length:Int) then (if 0≤x5 then (if x5<(x1.length:Int) then (if (rd x0 x5)=(rd x1 x5) then (laws_eqIntS.l0 k x0 x1 (wrap64 (x5+1))) else (some false)) else (none)) else (none)) else (some true)
def laws_eqIntS.f (k:Nat) (l0:List Int) (l1:List Int):Option (Bool):=if (l0.length:Int)=(l1.length:Int) then (laws_eqIntS.l0 k l0 l1 0) else (some false)
theorem laws_eqIntS.mono_l:∀ k,(∀ y0 y1 y2,LeO (laws_eqIntS.l0 k y0 y1 y2) (laws_eqIntS.l0 (k+1) y0 y1 y2))
 | 0=>fun _ _ _ r h=>by simp [laws_eqIntS.l0] at h
 | k+1=>by
  have ih0:=laws_eqIntS.mono_l k
  ·intro y0 y1 y2
   unfold laws_eqIntS.l0
   repeat' first
   | (with_reducible exact ih0 _ _ _)
   | (with_reducible exact LeO.refl _)
   | (with_reducible exact LeO.none _)
   | (with_reducible refine LeO.ite ?_ ?_)
   | (with_reducible refine LeO.bind ?_ (fun _=>?_))
   | exact ih0 _ _ _
   | exact LeO.none _
   | refine LeO.ite ?_ ?_
   | refine LeO.bind ?_ (fun _=>?_)
theorem laws_eqIntS.mono:∀ a0 a1 k,LeO (laws_eqIntS.f k a0 a1) (laws_eqIntS.f (k+1) a0 a1):=by
 intro a0 a1 k
 have ih0:=laws_eqIntS.mono_l k
 unfold laws_eqIntS.f
 repeat' first
   | (with_reducible exact ih0 _ _ _)
   | (with_reducible exact LeO.refl _)
   | (with_reducible exact LeO.none _)
   | (with_reducible refine LeO.ite ?_ ?_)
   | (with_reducible refine LeO.bind ?_ (fun _=>?_))
   | exact ih0 _ _ _
   | exact LeO.none _
   | refine LeO.ite ?_ ?_
   | refine LeO.bind ?_ (fun _=>?_)
set_option maxHeartbeats 8000000 in
set_option maxRecDepth 100000 in
theorem laws_eqIntS.calls (k:Nat) (A0:Option Addr) (c0:Nat) (l0:List Int) (A1:Option Addr) (c1:Nat) (l1:List Int) (r:Bool) (w:World) (hr0:Kd.C (Kd.int .i64) w A0 l0.length l0) (hc0:l0.length≤c0) (hr1:Kd.C (Kd.int .i64) w A1 l1.length l1) (hc1:l1.length≤c1) (h:laws_eqIntS.f k l0 l1=some r) :
  Calls Try.prog 41 #[.slice A0 l0.length c0,.slice A1 l1.length c1] w fun e w'=>e=.returned (.bool r)∧Drawn0 w w':=by
 have HR0:=Aside0.mk hr0
 have HC0:=Aside0.mk hc0
 clear hr0 hc0
 have HR1:=Aside0.mk hr1
 have HC1:=Aside0.mk hc1
 clear hr1 hc1
 have H:(if (l0.length:Int)=(l1.length:Int) then (laws_eqIntS.l0 k l0 l1 0) else (some false))=some r:=h
 clear h
 by_cases c3:(l0.length:Int)=(l1.length:Int)
 ·rw [if_pos c3] at H
  have c3b0:((l0.length:Int) == (l1.length:Int))=true:=beq_iff_eq.mpr c3
  have c3b1:((l0.length:Int) != (l1.length:Int))=false:=bne_eq_false_iff_eq.mpr c3
  have c3b2:(l0.length == l1.length)=true:=by first|simpa using c3|(simp at c3 ⊢;omega)
  clear c3
  have H':=Aside0.mk H
  clear H
  go_enter Try.func41,Try.ntmps41
  go_wp2
  repeat (go_quiet (fail);try go_wp2)
  go_loopg [5] k (fun kq v5 w'=>∃ (x5_1:Int),v5=.int .i64 x5_1∧Aside0 (laws_eqIntS.l0 kq l0 l1 x5_1=some r)∧Aside0 (kq≤k)∧Drawn0 w w')
  case atStart=>exact ⟨(0),(by first|rfl|(simp;done)|(simp [*];done)|(simp [Int.tmod_eq_emod_of_nonneg];done)),H',⟨Nat.le_refl _⟩,by repeat (first|exact Drawn0.refl _|apply Drawn0.step)⟩
  case round =>
   clear H'
   try clear c1
   try clear p2
   try clear c3
   try clear c3b0
   try clear c3b1
   try clear c3b2
   obtain ⟨x5_1,rfl,HA,HK1,⟨m1,rfl⟩⟩:=hrel
   cases gk with
   | zero=>exact absurd HA.out (by simp [laws_eqIntS.l0])
   | succ k1 =>
    have H:=HA.out
    clear HA
    simp only [laws_eqIntS.l0] at H
    by_cases c4:x5_1<(l0.length:Int)
    ·rw [if_pos c4] at H
     have c4b0:decide (x5_1<(l0.length:Int))=true:=decide_eq_true c4
     clear c4
     by_cases c5:0≤x5_1
     ·rw [if_pos c5] at H
      have c5b0:decide (0≤x5_1)=true:=decide_eq_true c5
      clear c5
      by_cases c6:x5_1<(l1.length:Int)
      ·rw [if_pos c6] at H
       have c6b0:decide (x5_1<(l1.length:Int))=true:=decide_eq_true c6
       clear c6
       by_cases c7:(rd l0 x5_1)=(rd l1 x5_1)
       ·rw [if_pos c7] at H
        have c7b0:((rd l0 x5_1) == (rd l1 x5_1))=true:=beq_iff_eq.mpr c7
        have c7b1:((rd l0 x5_1) != (rd l1 x5_1))=false:=bne_eq_false_iff_eq.mpr c7
        clear c7
        have H':=Aside0.mk H
        clear H
        have p498:0≤(x5_1:Int):=of_decide_eq_true (by first|(with_reducible assumption)|assumption)
        have q498:x5_1<(l0.length:Int):=of_decide_eq_true (by first|(with_reducible assumption)|assumption)
        obtain ⟨ad498,e498,hx498_0⟩:=Kd.at_int HR0.out x5_1 p498 q498
        cases e498
        replace p498:=eq_true p498
        replace q498:=eq_true q498
        have p499:0≤(x5_1:Int):=of_decide_eq_true (by first|(with_reducible assumption)|assumption)
        have q499:x5_1<(l1.length:Int):=of_decide_eq_true (by first|(with_reducible assumption)|assumption)
        obtain ⟨ad499,e499,hx499_0⟩:=Kd.at_int HR1.out x5_1 p499 q499
        cases e499
        replace p499:=eq_true p499
        replace q499:=eq_true q499
        go_wp2
        repeat (go_quiet (fail);try go_wp2)
        go_roundg k1
        case measure=>have:=HK1.out;omega
        case rel=>exact ⟨(wrap64 (x5_1+1)),(by first|rfl|(simp;done)|(simp [*];done)|(simp [Int.tmod_eq_emod_of_nonneg];done)),H',⟨by have:=HK1.out;omega⟩,by repeat (first|exact Drawn0.refl _|apply Drawn0.step)⟩
       ·rw [if_neg c7] at H
        have c7b0:((rd l0 x5_1) == (rd l1 x5_1))=false:=beq_eq_false_iff_ne.mpr c7
        have c7b1:((rd l0 x5_1) != (rd l1 x5_1))=true:=bne_iff_ne.mpr c7
        obtain rfl:=Option.some.inj H
        have p498:0≤(x5_1:Int):=of_decide_eq_true (by first|(with_reducible assumption)|assumption)
        have q498:x5_1<(l0.length:Int):=of_decide_eq_true (by first|(with_reducible assumption)|assumption)
        obtain ⟨ad498,e498,hx498_0⟩:=Kd.at_int HR0.out x5_1 p498 q498
        cases e498
        replace p498:=eq_true p498
        replace q498:=eq_true q498
        have p499:0≤(x5_1:Int):=of_decide_eq_true (by first|(with_reducible assumption)|assumption)
        have q499:x5_1<(l1.length:Int):=of_decide_eq_true (by first|(with_reducible assumption)|assumption)
        obtain ⟨ad499,e499,hx499_0⟩:=Kd.at_int HR1.out x5_1 p499 q499
        cases e499
        replace p499:=eq_true p499
        replace q499:=eq_true q499
        go_wp2
        repeat (go_quiet (fail);try go_wp2)
        go_ret
        exact ⟨by first|rfl|(simp;done)|(simp [*];done),by repeat (first|exact Drawn0.refl _|apply Drawn0.step)⟩
      ·rw [if_neg c6] at H
       exact absurd H (by simp)
     ·rw [if_neg c5] at H
      exact absurd H (by simp)
    ·rw [if_neg c4] at H
     have c4b0:decide (x5_1<(l0.length:Int))=false:=decide_eq_false c4
     clear c4
     obtain rfl:=Option.some.inj H
     go_wp2
     repeat (go_quiet (fail);try go_wp2)
     go_ret
     exact ⟨by first|rfl|(simp;done)|(simp [*];done),by repeat (first|exact Drawn0.refl _|apply Drawn0.step)⟩
 ·rw [if_neg c3] at H
  have c3b0:((l0.length:Int) == (l1.length:Int))=false:=beq_eq_false_iff_ne.mpr c3
  have c3b1:((l0.length:Int) != (l1.length:Int))=true:=bne_iff_ne.mpr c3
  have c3b2:(l0.length == l1.length)=false:=by first|simpa using c3|(simp at c3 ⊢;omega)
  obtain rfl:=Option.some.inj H
  go_enter Try.func41,Try.ntmps41
  go_wp2
  repeat (go_quiet (fail);try go_wp2)
  go_ret
  exact ⟨by first|rfl|(simp;done)|(simp [*];done),by repeat (first|exact Drawn0.refl _|apply Drawn0.step)⟩

end Go.Proofs.Ytgheopbdmijlkaa.P

namespace Go.Proofs.Ytgheopbdmijlkaa.P
open Go.RowKit Go.Proofs.YtgheopbdmijlkaaW.PrintWords Go.Proofs.YtgheopbdmijlkaaW.PrintLast Go.Proofs.YtgheopbdmijlkaaW.PrintMore
attribute [local go_sem] max2_int min2_int max_two min_two max_three min_three max_four min_four   -- for this text's walks alone
set_option linter.unusedVariables false
set_option linter.unusedSimpArgs false

/-! ### laws_eqMachine: function 23 -/
def laws_eqMachine.f (k:Nat) (l0_0:List Int) (a0_1:Int) (a0_2:Int) (l1_0:List Int) (a1_1:Int) (a1_2:Int):Option (Bool):=(laws_eqIntS.f k l0_0 l1_0).bind fun t502=>(if t502=true then (if a0_1=a1_1 then (if a0_2=a1_2 then (some true) else (some false)) else (some false)) else (some false))
theorem laws_eqMachine.mono:∀ a0 a1 a2 a3 a4 a5 k,LeO (laws_eqMachine.f k a0 a1 a2 a3 a4 a5) (laws_eqMachine.f (k+1) a0 a1 a2 a3 a4 a5):=by
 intro a0 a1 a2 a3 a4 a5 k
 unfold laws_eqMachine.f
 repeat' first
   | (with_reducible exact laws_eqIntS.mono _ _ _)
   | (with_reducible exact LeO.refl _)
   | (with_reducible exact LeO.none _)
   | (with_reducible refine LeO.ite ?_ ?_)
   | (with_reducible refine LeO.bind ?_ (fun _=>?_))
   | exact laws_eqIntS.mono _ _ _
   | exact LeO.none _
   | refine LeO.ite ?_ ?_
   | refine LeO.bind ?_ (fun _=>?_)
set_option maxHeartbeats 8000000 in
set_option maxRecDepth 100000 in
theorem laws_eqMachine.calls (k:Nat) (A0_0:Option Addr) (c0_0:Nat) (l0_0:List Int) (a0_1:Int) (a0_2:Int) (A1_0:Option Addr) (c1_0:Nat) (l1_0:List Int) (a1_1:Int) (a1_2:Int) (r:Bool) (w:World) (hr0_0:Kd.C (Kd.int .i64) w A0_0 l0_0.length l0_0) (hc0_0:l0_0.length≤c0_0) (hr1_0:Kd.C (Kd.int .i64) w A1_0 l1_0.length l1_0) (hc1_0:l1_0.length≤c1_0) (h:laws_eqMachine.f k l0_0 a0_1 a0_2 l1_0 a1_1 a1_2=some r) :
  Calls Try.prog 23 #[.agg #[.slice A0_0 l0_0.length c0_0,.int .i64 a0_1,.int .i64 a0_2],.agg #[.slice A1_0 l1_0.length c1_0,.int .i64 a1_1,.int .i64 a1_2]] w fun e w'=>e=.returned (.bool r)∧Below w.heap.size w w':=by
 have hu31:=Try.underlying31
 have HR0_0:=Aside0.mk hr0_0
 have HC0_0:=Aside0.mk hc0_0
 clear hr0_0 hc0_0
 have HR1_0:=Aside0.mk hr1_0
 have HC1_0:=Aside0.mk hc1_0
 clear hr1_0 hc1_0
 have HB:=Aside0.mk (Below.refl w.heap.size w)
 have H:((laws_eqIntS.f k l0_0 l1_0).bind fun t502=>(if t502=true then (if a0_1=a1_1 then (if a0_2=a1_2 then (some true) else (some false)) else (some false)) else (some false)))=some r:=h
 clear h
 replace H:=Option.bind_eq_some_iff.mp H
 obtain ⟨t502,A30,H⟩:=H
 replace H:(if t502=true then (if a0_1=a1_1 then (if a0_2=a1_2 then (some true) else (some false)) else (some false)) else (some false))=some r:=H
 have A3:=Aside0.mk A30
 clear A30
 by_cases c4:t502=true
 ·subst c4
  have H1:(if a0_1=a1_1 then (if a0_2=a1_2 then (some true) else (some false)) else (some false))=some r:=by rw [if_pos rfl] at H;exact H
  clear H
  have H:=H1
  clear H1
  by_cases c5:a0_1=a1_1
  ·rw [if_pos c5] at H
   have c5b0:(a0_1 == a1_1)=true:=beq_iff_eq.mpr c5
   have c5b1:(a0_1 != a1_1)=false:=bne_eq_false_iff_eq.mpr c5
   clear c5
   by_cases c6:a0_2=a1_2
   ·rw [if_pos c6] at H
    have c6b0:(a0_2 == a1_2)=true:=beq_iff_eq.mpr c6
    have c6b1:(a0_2 != a1_2)=false:=bne_eq_false_iff_eq.mpr c6
    clear c6
    obtain rfl:=Option.some.inj H
    go_enter Try.func23,Try.ntmps23
    go_wp2_with (first|((with_reducible refine gate_dst (N:=2) rfl ?_);refine box_event ?hg (N:=2) ?hd (cs:=#[.slice A0_0 l0_0.length c0_0,.int .i64 a0_1,.int .i64 a0_2]) (t:=31) ?hr ?_;(case hd=>rfl);(case hg=>rfl);(case hr=>first|(go_simp;done)|(go_simp;rfl));intro gb500 hg w7 hbox hb;have n0_:=Aside0.mk (yP (by repeat (first|(with_reducible first|exact HB.out|apply yA|apply yB|apply yC)|exact HB.out)) hb);have n1_:=Aside0.mk (hbox);have n2_:=Aside0.mk ((by rw [hg];exact (yQ (by repeat (first|(with_reducible first|exact HB.out|apply yA|apply yB|apply yC)|exact HB.out))):w.heap.size≤gb500));have n3_:=Aside0.mk ((by rw [hg];exact (yQ (by repeat (first|(with_reducible first|exact HB.out|apply yA|apply yB|apply yC)|exact HB.out))):w.heap.size≤gb500));clear HB;have HB:=n0_;have BK500:=n1_;have GW500:=n2_;have GE500:=n3_;clear n0_ n1_ n2_ n3_;clear hb hbox hg)|((with_reducible refine gate_dst (N:=3) rfl ?_);refine box_event ?hg (N:=3) ?hd (cs:=#[.slice A1_0 l1_0.length c1_0,.int .i64 a1_1,.int .i64 a1_2]) (t:=31) ?hr ?_;(case hd=>rfl);(case hg=>rfl);(case hr=>first|(go_simp;done)|(go_simp;rfl));intro gb501 hg w8 hbox hb;have n0_:=Aside0.mk (blk_below (g:=gb500) (o:=.cells #[.slice A0_0 l0_0.length c0_0,.int .i64 a0_1,.int .i64 a0_2] 31 (0,0)) (by (with_reducible repeat (first|refine yE ?_ _|refine yF ?_|refine yG ?_ _));exact BK500.out) hb);have n1_:=Aside0.mk (yP (by repeat (first|(with_reducible first|exact HB.out|apply yA|apply yB|apply yC|refine yD ?_ GE500.out)|exact HB.out)) hb);have n2_:=Aside0.mk (hbox);have n3_:=Aside0.mk ((by rw [hg];exact (yQ (by repeat (first|(with_reducible first|exact HB.out|apply yA|apply yB|apply yC|refine yD ?_ GE500.out)|exact HB.out))):w.heap.size≤gb501));have n4_:=Aside0.mk ((by rw [hg];exact (yQ (by repeat (first|(with_reducible first|exact HB.out|apply yA|apply yB|apply yC|refine yD ?_ GE500.out)|exact HB.out))):w.heap.size≤gb501));have n5_:=Aside0.mk ((by rw [hg];exact Nat.ne_of_lt (blk_lt (g:=gb500) (o:=.cells #[.slice A0_0 l0_0.length c0_0,.int .i64 a0_1,.int .i64 a0_2] 31 (0,0)) (by (with_reducible repeat (first|refine yE ?_ _|refine yF ?_|refine yG ?_ _));exact BK500.out)):gb500≠gb501));have n6_:=Aside0.mk ((by rw [hg];exact Nat.ne_of_gt (blk_lt (g:=gb500) (o:=.cells #[.slice A0_0 l0_0.length c0_0,.int .i64 a0_1,.int .i64 a0_2] 31 (0,0)) (by (with_reducible repeat (first|refine yE ?_ _|refine yF ?_|refine yG ?_ _));exact BK500.out)):gb501≠gb500));clear BK500;clear HB;have BK500:=n0_;have HB:=n1_;have BK501:=n2_;have GW501:=n3_;have GE501:=n4_;have NB500_501:=n5_;have NB501_500:=n6_;clear n0_ n1_ n2_ n3_ n4_ n5_ n6_;clear hb hbox hg;have hnb9:=NB500_501.out;have hnc9:=NB501_500.out;have hcz10_0:w8.cell? ⟨gb500,0,none⟩=some (.slice A0_0 l0_0.length c0_0):=(blk_cell BK500.out 0).trans rfl;have hcz10_1:w8.cell? ⟨gb500,1,none⟩=some (.int .i64 a0_1):=(blk_cell BK500.out 1).trans rfl;have hcz10_2:w8.cell? ⟨gb500,2,none⟩=some (.int .i64 a0_2):=(blk_cell BK500.out 2).trans rfl;have hfz10_0:=blk_frozen BK500.out 0;have hfz10_1:=blk_frozen BK500.out 1;have hfz10_2:=blk_frozen BK500.out 2;have hcz11_0:w8.cell? ⟨gb501,0,none⟩=some (.slice A1_0 l1_0.length c1_0):=(blk_cell BK501.out 0).trans rfl;have hcz11_1:w8.cell? ⟨gb501,1,none⟩=some (.int .i64 a1_1):=(blk_cell BK501.out 1).trans rfl;have hcz11_2:w8.cell? ⟨gb501,2,none⟩=some (.int .i64 a1_2):=(blk_cell BK501.out 2).trans rfl;have hfz11_0:=blk_frozen BK501.out 0;have hfz11_1:=blk_frozen BK501.out 1;have hfz11_2:=blk_frozen BK501.out 2)|((with_reducible refine gate_callee (f:=41) rfl ?_);refine goesL_ (some 9) rfl rfl Try.func41 (by kernel_rfl) rfl #[.slice A0_0 l0_0.length c0_0,.slice A1_0 l1_0.length c1_0] rfl (by (try simp only [List.map_toArray,List.map_cons,List.map_nil]);first|done|rfl|(simp only [List.length_drop,List.length_take];rfl)) ?_;(with_reducible refine (laws_eqIntS.calls k _ _ l0_0 _ _ l1_0 true _ ?side1 ?side2 ?side3 ?side4 A3.out).mono ?_);(case side1=>repeat (first|exact (Kd.C_below HR0_0.out HB.out)|(with_reducible refine Kd.C_alloc ?_ _)|(with_reducible refine Kd.C_drewN ?_ _)|(with_reducible refine Kd.C_drew ?_)));(case side2=>exact HC0_0.out);(case side3=>repeat (first|exact (Kd.C_below HR1_0.out HB.out)|(with_reducible refine Kd.C_alloc ?_ _)|(with_reducible refine Kd.C_drewN ?_ _)|(with_reducible refine Kd.C_drew ?_)));(case side4=>exact HC1_0.out);rintro e w' ⟨rfl,⟨nd,rfl⟩⟩;refine ⟨_,rfl,?_⟩))
    go_ret
    exact ⟨by first|rfl|(simp [errW_none,errW_some]<;>rfl)|(simp [*,errW_none,errW_some]<;>rfl)|(simp [errW_none,errW_some];exact ⟨rfl,rfl⟩),by repeat (first|(with_reducible first|exact HB.out|apply yA|apply yB|apply yC|refine yD ?_ GE500.out|refine yD ?_ GE501.out)|exact HB.out)⟩
   ·rw [if_neg c6] at H
    have c6b0:(a0_2 == a1_2)=false:=beq_eq_false_iff_ne.mpr c6
    have c6b1:(a0_2 != a1_2)=true:=bne_iff_ne.mpr c6
    obtain rfl:=Option.some.inj H
    go_enter Try.func23,Try.ntmps23
    go_wp2_with (first|((with_reducible refine gate_dst (N:=2) rfl ?_);refine box_event ?hg (N:=2) ?hd (cs:=#[.slice A0_0 l0_0.length c0_0,.int .i64 a0_1,.int .i64 a0_2]) (t:=31) ?hr ?_;(case hd=>rfl);(case hg=>rfl);(case hr=>first|(go_simp;done)|(go_simp;rfl));intro gb500 hg w12 hbox hb;have n0_:=Aside0.mk (yP (by repeat (first|(with_reducible first|exact HB.out|apply yA|apply yB|apply yC)|exact HB.out)) hb);have n1_:=Aside0.mk (hbox);have n2_:=Aside0.mk ((by rw [hg];exact (yQ (by repeat (first|(with_reducible first|exact HB.out|apply yA|apply yB|apply yC)|exact HB.out))):w.heap.size≤gb500));have n3_:=Aside0.mk ((by rw [hg];exact (yQ (by repeat (first|(with_reducible first|exact HB.out|apply yA|apply yB|apply yC)|exact HB.out))):w.heap.size≤gb500));clear HB;have HB:=n0_;have BK500:=n1_;have GW500:=n2_;have GE500:=n3_;clear n0_ n1_ n2_ n3_;clear hb hbox hg)|((with_reducible refine gate_dst (N:=3) rfl ?_);refine box_event ?hg (N:=3) ?hd (cs:=#[.slice A1_0 l1_0.length c1_0,.int .i64 a1_1,.int .i64 a1_2]) (t:=31) ?hr ?_;(case hd=>rfl);(case hg=>rfl);(case hr=>first|(go_simp;done)|(go_simp;rfl));intro gb501 hg w13 hbox hb;have n0_:=Aside0.mk (blk_below (g:=gb500) (o:=.cells #[.slice A0_0 l0_0.length c0_0,.int .i64 a0_1,.int .i64 a0_2] 31 (0,0)) (by (with_reducible repeat (first|refine yE ?_ _|refine yF ?_|refine yG ?_ _));exact BK500.out) hb);have n1_:=Aside0.mk (yP (by repeat (first|(with_reducible first|exact HB.out|apply yA|apply yB|apply yC|refine yD ?_ GE500.out)|exact HB.out)) hb);have n2_:=Aside0.mk (hbox);have n3_:=Aside0.mk ((by rw [hg];exact (yQ (by repeat (first|(with_reducible first|exact HB.out|apply yA|apply yB|apply yC|refine yD ?_ GE500.out)|exact HB.out))):w.heap.size≤gb501));have n4_:=Aside0.mk ((by rw [hg];exact (yQ (by repeat (first|(with_reducible first|exact HB.out|apply yA|apply yB|apply yC|refine yD ?_ GE500.out)|exact HB.out))):w.heap.size≤gb501));have n5_:=Aside0.mk ((by rw [hg];exact Nat.ne_of_lt (blk_lt (g:=gb500) (o:=.cells #[.slice A0_0 l0_0.length c0_0,.int .i64 a0_1,.int .i64 a0_2] 31 (0,0)) (by (with_reducible repeat (first|refine yE ?_ _|refine yF ?_|refine yG ?_ _));exact BK500.out)):gb500≠gb501));have n6_:=Aside0.mk ((by rw [hg];exact Nat.ne_of_gt (blk_lt (g:=gb500) (o:=.cells #[.slice A0_0 l0_0.length c0_0,.int .i64 a0_1,.int .i64 a0_2] 31 (0,0)) (by (with_reducible repeat (first|refine yE ?_ _|refine yF ?_|refine yG ?_ _));exact BK500.out)):gb501≠gb500));clear BK500;clear HB;have BK500:=n0_;have HB:=n1_;have BK501:=n2_;have GW501:=n3_;have GE501:=n4_;have NB500_501:=n5_;have NB501_500:=n6_;clear n0_ n1_ n2_ n3_ n4_ n5_ n6_;clear hb hbox hg;have hnb14:=NB500_501.out;have hnc14:=NB501_500.out;have hcz15_0:w13.cell? ⟨gb500,0,none⟩=some (.slice A0_0 l0_0.length c0_0):=(blk_cell BK500.out 0).trans rfl;have hcz15_1:w13.cell? ⟨gb500,1,none⟩=some (.int .i64 a0_1):=(blk_cell BK500.out 1).trans rfl;have hcz15_2:w13.cell? ⟨gb500,2,none⟩=some (.int .i64 a0_2):=(blk_cell BK500.out 2).trans rfl;have hfz15_0:=blk_frozen BK500.out 0;have hfz15_1:=blk_frozen BK500.out 1;have hfz15_2:=blk_frozen BK500.out 2;have hcz16_0:w13.cell? ⟨gb501,0,none⟩=some (.slice A1_0 l1_0.length c1_0):=(blk_cell BK501.out 0).trans rfl;have hcz16_1:w13.cell? ⟨gb501,1,none⟩=some (.int .i64 a1_1):=(blk_cell BK501.out 1).trans rfl;have hcz16_2:w13.cell? ⟨gb501,2,none⟩=some (.int .i64 a1_2):=(blk_cell BK501.out 2).trans rfl;have hfz16_0:=blk_frozen BK501.out 0;have hfz16_1:=blk_frozen BK501.out 1;have hfz16_2:=blk_frozen BK501.out 2)|((with_reducible refine gate_callee (f:=41) rfl ?_);refine goesL_ (some 9) rfl rfl Try.func41 (by kernel_rfl) rfl #[.slice A0_0 l0_0.length c0_0,.slice A1_0 l1_0.length c1_0] rfl (by (try simp only [List.map_toArray,List.map_cons,List.map_nil]);first|done|rfl|(simp only [List.length_drop,List.length_take];rfl)) ?_;(with_reducible refine (laws_eqIntS.calls k _ _ l0_0 _ _ l1_0 true _ ?side1 ?side2 ?side3 ?side4 A3.out).mono ?_);(case side1=>repeat (first|exact (Kd.C_below HR0_0.out HB.out)|(with_reducible refine Kd.C_alloc ?_ _)|(with_reducible refine Kd.C_drewN ?_ _)|(with_reducible refine Kd.C_drew ?_)));(case side2=>exact HC0_0.out);(case side3=>repeat (first|exact (Kd.C_below HR1_0.out HB.out)|(with_reducible refine Kd.C_alloc ?_ _)|(with_reducible refine Kd.C_drewN ?_ _)|(with_reducible refine Kd.C_drew ?_)));(case side4=>exact HC1_0.out);rintro e w' ⟨rfl,⟨nd,rfl⟩⟩;refine ⟨_,rfl,?_⟩))
    go_ret
    exact ⟨by first|rfl|(simp [errW_none,errW_some]<;>rfl)|(simp [*,errW_none,errW_some]<;>rfl)|(simp [errW_none,errW_some];exact ⟨rfl,rfl⟩),by repeat (first|(with_reducible first|exact HB.out|apply yA|apply yB|apply yC|refine yD ?_ GE500.out|refine yD ?_ GE501.out)|exact HB.out)⟩
  ·rw [if_neg c5] at H
   have c5b0:(a0_1 == a1_1)=false:=beq_eq_false_iff_ne.mpr c5
   have c5b1:(a0_1 != a1_1)=true:=bne_iff_ne.mpr c5
   obtain rfl:=Option.some.inj H
   go_enter Try.func23,Try.ntmps23
   go_wp2_with (first|((with_reducible refine gate_dst (N:=2) rfl ?_);refine box_event ?hg (N:=2) ?hd (cs:=#[.slice A0_0 l0_0.length c0_0,.int .i64 a0_1,.int .i64 a0_2]) (t:=31) ?hr ?_;(case hd=>rfl);(case hg=>rfl);(case hr=>first|(go_simp;done)|(go_simp;rfl));intro gb500 hg w17 hbox hb;have n0_:=Aside0.mk (yP (by repeat (first|(with_reducible first|exact HB.out|apply yA|apply yB|apply yC)|exact HB.out)) hb);have n1_:=Aside0.mk (hbox);have n2_:=Aside0.mk ((by rw [hg];exact (yQ (by repeat (first|(with_reducible first|exact HB.out|apply yA|apply yB|apply yC)|exact HB.out))):w.heap.size≤gb500));have n3_:=Aside0.mk ((by rw [hg];exact (yQ (by repeat (first|(with_reducible first|exact HB.out|apply yA|apply yB|apply yC)|exact HB.out))):w.heap.size≤gb500));clear HB;have HB:=n0_;have BK500:=n1_;have GW500:=n2_;have GE500:=n3_;clear n0_ n1_ n2_ n3_;clear hb hbox hg)|((with_reducible refine gate_dst (N:=3) rfl ?_);refine box_event ?hg (N:=3) ?hd (cs:=#[.slice A1_0 l1_0.length c1_0,.int .i64 a1_1,.int .i64 a1_2]) (t:=31) ?hr ?_;(case hd=>rfl);(case hg=>rfl);(case hr=>first|(go_simp;done)|(go_simp;rfl));intro gb501 hg w18 hbox hb;have n0_:=Aside0.mk (blk_below (g:=gb500) (o:=.cells #[.slice A0_0 l0_0.length c0_0,.int .i64 a0_1,.int .i64 a0_2] 31 (0,0)) (by (with_reducible repeat (first|refine yE ?_ _|refine yF ?_|refine yG ?_ _));exact BK500.out) hb);have n1_:=Aside0.mk (yP (by repeat (first|(with_reducible first|exact HB.out|apply yA|apply yB|apply yC|refine yD ?_ GE500.out)|exact HB.out)) hb);have n2_:=Aside0.mk (hbox);have n3_:=Aside0.mk ((by rw [hg];exact (yQ (by repeat (first|(with_reducible first|exact HB.out|apply yA|apply yB|apply yC|refine yD ?_ GE500.out)|exact HB.out))):w.heap.size≤gb501));have n4_:=Aside0.mk ((by rw [hg];exact (yQ (by repeat (first|(with_reducible first|exact HB.out|apply yA|apply yB|apply yC|refine yD ?_ GE500.out)|exact HB.out))):w.heap.size≤gb501));have n5_:=Aside0.mk ((by rw [hg];exact Nat.ne_of_lt (blk_lt (g:=gb500) (o:=.cells #[.slice A0_0 l0_0.length c0_0,.int .i64 a0_1,.int .i64 a0_2] 31 (0,0)) (by (with_reducible repeat (first|refine yE ?_ _|refine yF ?_|refine yG ?_ _));exact BK500.out)):gb500≠gb501));have n6_:=Aside0.mk ((by rw [hg];exact Nat.ne_of_gt (blk_lt (g:=gb500) (o:=.cells #[.slice A0_0 l0_0.length c0_0,.int .i64 a0_1,.int .i64 a0_2] 31 (0,0)) (by (with_reducible repeat (first|refine yE ?_ _|refine yF ?_|refine yG ?_ _));exact BK500.out)):gb501≠gb500));clear BK500;clear HB;have BK500:=n0_;have HB:=n1_;have BK501:=n2_;have GW501:=n3_;have GE501:=n4_;have NB500_501:=n5_;have NB501_500:=n6_;clear n0_ n1_ n2_ n3_ n4_ n5_ n6_;clear hb hbox hg;have hnb19:=NB500_501.out;have hnc19:=NB501_500.out;have hcz20_0:w18.cell? ⟨gb500,0,none⟩=some (.slice A0_0 l0_0.length c0_0):=(blk_cell BK500.out 0).trans rfl;have hcz20_1:w18.cell? ⟨gb500,1,none⟩=some (.int .i64 a0_1):=(blk_cell BK500.out 1).trans rfl;have hcz20_2:w18.cell? ⟨gb500,2,none⟩=some (.int .i64 a0_2):=(blk_cell BK500.out 2).trans rfl;have hfz20_0:=blk_frozen BK500.out 0;have hfz20_1:=blk_frozen BK500.out 1;have hfz20_2:=blk_frozen BK500.out 2;have hcz21_0:w18.cell? ⟨gb501,0,none⟩=some (.slice A1_0 l1_0.length c1_0):=(blk_cell BK501.out 0).trans rfl;have hcz21_1:w18.cell? ⟨gb501,1,none⟩=some (.int .i64 a1_1):=(blk_cell BK501.out 1).trans rfl;have hcz21_2:w18.cell? ⟨gb501,2,none⟩=some (.int .i64 a1_2):=(blk_cell BK501.out 2).trans rfl;have hfz21_0:=blk_frozen BK501.out 0;have hfz21_1:=blk_frozen BK501.out 1;have hfz21_2:=blk_frozen BK501.out 2)|((with_reducible refine gate_callee (f:=41) rfl ?_);refine goesL_ (some 9) rfl rfl Try.func41 (by kernel_rfl) rfl #[.slice A0_0 l0_0.length c0_0,.slice A1_0 l1_0.length c1_0] rfl (by (try simp only [List.map_toArray,List.map_cons,List.map_nil]);first|done|rfl|(simp only [List.length_drop,List.length_take];rfl)) ?_;(with_reducible refine (laws_eqIntS.calls k _ _ l0_0 _ _ l1_0 true _ ?side1 ?side2 ?side3 ?side4 A3.out).mono ?_);(case side1=>repeat (first|exact (Kd.C_below HR0_0.out HB.out)|(with_reducible refine Kd.C_alloc ?_ _)|(with_reducible refine Kd.C_drewN ?_ _)|(with_reducible refine Kd.C_drew ?_)));(case side2=>exact HC0_0.out);(case side3=>repeat (first|exact (Kd.C_below HR1_0.out HB.out)|(with_reducible refine Kd.C_alloc ?_ _)|(with_reducible refine Kd.C_drewN ?_ _)|(with_reducible refine Kd.C_drew ?_)));(case side4=>exact HC1_0.out);rintro e w' ⟨rfl,⟨nd,rfl⟩⟩;refine ⟨_,rfl,?_⟩))
   go_ret
   exact ⟨by first|rfl|(simp [errW_none,errW_some]<;>rfl)|(simp [*,errW_none,errW_some]<;>rfl)|(simp [errW_none,errW_some];exact ⟨rfl,rfl⟩),by repeat (first|(with_reducible first|exact HB.out|apply yA|apply yB|apply yC|refine yD ?_ GE500.out|refine yD ?_ GE501.out)|exact HB.out)⟩
 ·replace c4:=Bool.eq_false_iff.mpr c4
  subst c4
  have H1:(some false)=some r:=by rw [if_neg (show ¬ (false=true) by decide)] at H;exact H
  clear H
  have H:=H1
  clear H1
  obtain rfl:=Option.some.inj H
  go_enter Try.func23,Try.ntmps23
  go_wp2_with (first|((with_reducible refine gate_dst (N:=2) rfl ?_);refine box_event ?hg (N:=2) ?hd (cs:=#[.slice A0_0 l0_0.length c0_0,.int .i64 a0_1,.int .i64 a0_2]) (t:=31) ?hr ?_;(case hd=>rfl);(case hg=>rfl);(case hr=>first|(go_simp;done)|(go_simp;rfl));intro gb500 hg w22 hbox hb;have n0_:=Aside0.mk (yP (by repeat (first|(with_reducible first|exact HB.out|apply yA|apply yB|apply yC)|exact HB.out)) hb);have n1_:=Aside0.mk (hbox);have n2_:=Aside0.mk ((by rw [hg];exact (yQ (by repeat (first|(with_reducible first|exact HB.out|apply yA|apply yB|apply yC)|exact HB.out))):w.heap.size≤gb500));have n3_:=Aside0.mk ((by rw [hg];exact (yQ (by repeat (first|(with_reducible first|exact HB.out|apply yA|apply yB|apply yC)|exact HB.out))):w.heap.size≤gb500));clear HB;have HB:=n0_;have BK500:=n1_;have GW500:=n2_;have GE500:=n3_;clear n0_ n1_ n2_ n3_;clear hb hbox hg)|((with_reducible refine gate_dst (N:=3) rfl ?_);refine box_event ?hg (N:=3) ?hd (cs:=#[.slice A1_0 l1_0.length c1_0,.int .i64 a1_1,.int .i64 a1_2]) (t:=31) ?hr ?_;(case hd=>rfl);(case hg=>rfl);(case hr=>first|(go_simp;done)|(go_simp;rfl));intro gb501 hg w23 hbox hb;have n0_:=Aside0.mk (blk_below (g:=gb500) (o:=.cells #[.slice A0_0 l0_0.length c0_0,.int .i64 a0_1,.int .i64 a0_2] 31 (0,0)) (by (with_reducible repeat (first|refine yE ?_ _|refine yF ?_|refine yG ?_ _));exact BK500.out) hb);have n1_:=Aside0.mk (yP (by repeat (first|(with_reducible first|exact HB.out|apply yA|apply yB|apply yC|refine yD ?_ GE500.out)|exact HB.out)) hb);have n2_:=Aside0.mk (hbox);have n3_:=Aside0.mk ((by rw [hg];exact (yQ (by repeat (first|(with_reducible first|exact HB.out|apply yA|apply yB|apply yC|refine yD ?_ GE500.out)|exact HB.out))):w.heap.size≤gb501));have n4_:=Aside0.mk ((by rw [hg];exact (yQ (by repeat (first|(with_reducible first|exact HB.out|apply yA|apply yB|apply yC|refine yD ?_ GE500.out)|exact HB.out))):w.heap.size≤gb501));have n5_:=Aside0.mk ((by rw [hg];exact Nat.ne_of_lt (blk_lt (g:=gb500) (o:=.cells #[.slice A0_0 l0_0.length c0_0,.int .i64 a0_1,.int .i64 a0_2] 31 (0,0)) (by (with_reducible repeat (first|refine yE ?_ _|refine yF ?_|refine yG ?_ _));exact BK500.out)):gb500≠gb501));have n6_:=Aside0.mk ((by rw [hg];exact Nat.ne_of_gt (blk_lt (g:=gb500) (o:=.cells #[.slice A0_0 l0_0.length c0_0,.int .i64 a0_1,.int .i64 a0_2] 31 (0,0)) (by (with_reducible repeat (first|refine yE ?_ _|refine yF ?_|refine yG ?_ _));exact BK500.out)):gb501≠gb500));clear BK500;clear HB;have BK500:=n0_;have HB:=n1_;have BK501:=n2_;have GW501:=n3_;have GE501:=n4_;have NB500_501:=n5_;have NB501_500:=n6_;clear n0_ n1_ n2_ n3_ n4_ n5_ n6_;clear hb hbox hg;have hnb24:=NB500_501.out;have hnc24:=NB501_500.out;have hcz25_0:w23.cell? ⟨gb500,0,none⟩=some (.slice A0_0 l0_0.length c0_0):=(blk_cell BK500.out 0).trans rfl;have hcz25_1:w23.cell? ⟨gb500,1,none⟩=some (.int .i64 a0_1):=(blk_cell BK500.out 1).trans rfl;have hcz25_2:w23.cell? ⟨gb500,2,none⟩=some (.int .i64 a0_2):=(blk_cell BK500.out 2).trans rfl;have hfz25_0:=blk_frozen BK500.out 0;have hfz25_1:=blk_frozen BK500.out 1;have hfz25_2:=blk_frozen BK500.out 2;have hcz26_0:w23.cell? ⟨gb501,0,none⟩=some (.slice A1_0 l1_0.length c1_0):=(blk_cell BK501.out 0).trans rfl;have hcz26_1:w23.cell? ⟨gb501,1,none⟩=some (.int .i64 a1_1):=(blk_cell BK501.out 1).trans rfl;have hcz26_2:w23.cell? ⟨gb501,2,none⟩=some (.int .i64 a1_2):=(blk_cell BK501.out 2).trans rfl;have hfz26_0:=blk_frozen BK501.out 0;have hfz26_1:=blk_frozen BK501.out 1;have hfz26_2:=blk_frozen BK501.out 2)|((with_reducible refine gate_callee (f:=41) rfl ?_);refine goesL_ (some 9) rfl rfl Try.func41 (by kernel_rfl) rfl #[.slice A0_0 l0_0.length c0_0,.slice A1_0 l1_0.length c1_0] rfl (by (try simp only [List.map_toArray,List.map_cons,List.map_nil]);first|done|rfl|(simp only [List.length_drop,List.length_take];rfl)) ?_;(with_reducible refine (laws_eqIntS.calls k _ _ l0_0 _ _ l1_0 false _ ?side1 ?side2 ?side3 ?side4 A3.out).mono ?_);(case side1=>repeat (first|exact (Kd.C_below HR0_0.out HB.out)|(with_reducible refine Kd.C_alloc ?_ _)|(with_reducible refine Kd.C_drewN ?_ _)|(with_reducible refine Kd.C_drew ?_)));(case side2=>exact HC0_0.out);(case side3=>repeat (first|exact (Kd.C_below HR1_0.out HB.out)|(with_reducible refine Kd.C_alloc ?_ _)|(with_reducible refine Kd.C_drewN ?_ _)|(with_reducible refine Kd.C_drew ?_)));(case side4=>exact HC1_0.out);rintro e w' ⟨rfl,⟨nd,rfl⟩⟩;refine ⟨_,rfl,?_⟩))
  go_ret
  exact ⟨by first|rfl|(simp [errW_none,errW_some]<;>rfl)|(simp [*,errW_none,errW_some]<;>rfl)|(simp [errW_none,errW_some];exact ⟨rfl,rfl⟩),by repeat (first|(with_reducible first|exact HB.out|apply yA|apply yB|apply yC|refine yD ?_ GE500.out|refine yD ?_ GE501.out)|exact HB.out)⟩

end Go.Proofs.Ytgheopbdmijlkaa.P

namespace Go.Proofs.Ytgheopbdmijlkaa.P
open Go.RowKit Go.Proofs.YtgheopbdmijlkaaW.PrintWords Go.Proofs.YtgheopbdmijlkaaW.PrintLast Go.Proofs.YtgheopbdmijlkaaW.PrintMore
attribute [local go_sem] max2_int min2_int max_two min_two max_three min_three max_four min_four   -- for this text's walks alone
set_option linter.unusedVariables false
set_option linter.unusedSimpArgs false

/-! ### laws_szIntS: function 35 -/
def laws_szIntS.f (l0:List Int) (a1:Int):Option (Int):=if (wrap64 (a1 - (l0.length:Int)))<0 then (some (-1)) else (some (wrap64 (a1 - (l0.length:Int))))
set_option maxHeartbeats 8000000 in
set_option maxRecDepth 100000 in
theorem laws_szIntS.calls (A0:Option Addr) (c0:Nat) (l0:List Int) (a1:Int) (r:Int) (w:World) (hr0:Kd.C (Kd.int .i64) w A0 l0.length l0) (hc0:l0.length≤c0) (h:laws_szIntS.f l0 a1=some r) :
  Calls Try.prog 35 #[.slice A0 l0.length c0,.int .i64 a1] w fun e w'=>e=.returned (.int .i64 r)∧Drawn0 w w':=by
 have HR0:=Aside0.mk hr0
 have HC0:=Aside0.mk hc0
 clear hr0 hc0
 have H:(if (wrap64 (a1 - (l0.length:Int)))<0 then (some (-1)) else (some (wrap64 (a1 - (l0.length:Int)))))=some r:=h
 clear h
 by_cases c3:(wrap64 (a1 - (l0.length:Int)))<0
 ·rw [if_pos c3] at H
  have c3b0:decide ((wrap64 (a1 - (l0.length:Int)))<0)=true:=decide_eq_true c3
  clear c3
  obtain rfl:=Option.some.inj H
  go_enter Try.func35,Try.ntmps35
  go_wp2
  go_ret
  exact ⟨by first|rfl|(simp;done)|(simp [*];done),by repeat (first|exact Drawn0.refl _|apply Drawn0.step)⟩
 ·rw [if_neg c3] at H
  have c3b0:decide ((wrap64 (a1 - (l0.length:Int)))<0)=false:=decide_eq_false c3
  clear c3
  obtain rfl:=Option.some.inj H
  go_enter Try.func35,Try.ntmps35
  go_wp2
  go_ret
  exact ⟨by first|rfl|(simp;done)|(simp [*];done),by repeat (first|exact Drawn0.refl _|apply Drawn0.step)⟩

end Go.Proofs.Ytgheopbdmijlkaa.P

namespace Go.Proofs.Ytgheopbdmijlkaa.P
open Go.RowKit Go.Proofs.YtgheopbdmijlkaaW.PrintWords Go.Proofs.YtgheopbdmijlkaaW.PrintLast Go.Proofs.YtgheopbdmijlkaaW.PrintMore
attribute [local go_sem] max2_int min2_int max_two min_two max_three min_three max_four min_four   -- for this text's walks alone
set_option linter.unusedVariables false
set_option linter.unusedSimpArgs false

/-! ### laws_szMachine: function 19 -/
def laws_szMachine.f (l0_0:List Int) (a0_1:Int) (a0_2:Int) (a1:Int):Option (Int):=(laws_szIntS.f l0_0 a1).bind fun t391=>(if t391<0 then (some (-1)) else (some t391))
set_option maxHeartbeats 8000000 in
set_option maxRecDepth 100000 in
theorem laws_szMachine.calls (A0_0:Option Addr) (c0_0:Nat) (l0_0:List Int) (a0_1:Int) (a0_2:Int) (a1:Int) (r:Int) (w:World) (hr0_0:Kd.C (Kd.int .i64) w A0_0 l0_0.length l0_0) (hc0_0:l0_0.length≤c0_0) (h:laws_szMachine.f l0_0 a0_1 a0_2 a1=some r) :
  Calls Try.prog 19 #[.agg #[.slice A0_0 l0_0.length c0_0,.int .i64 a0_1,.int .i64 a0_2],.int .i64 a1] w fun e w'=>e=.returned (.int .i64 r)∧Below w.heap.size w w':=by
 have hu27:=Try.underlying27
 have HR0_0:=Aside0.mk hr0_0
 have HC0_0:=Aside0.mk hc0_0
 clear hr0_0 hc0_0
 have HB:=Aside0.mk (Below.refl w.heap.size w)
 have H:((laws_szIntS.f l0_0 a1).bind fun t391=>(if t391<0 then (some (-1)) else (some t391)))=some r:=h
 clear h
 replace H:=Option.bind_eq_some_iff.mp H
 obtain ⟨t391,A30,H⟩:=H
 replace H:(if t391<0 then (some (-1)) else (some t391))=some r:=H
 have A3:=Aside0.mk A30
 clear A30
 by_cases c4:t391<0
 ·rw [if_pos c4] at H
  have c4b0:decide (t391<0)=true:=decide_eq_true c4
  clear c4
  obtain rfl:=Option.some.inj H
  go_enter Try.func19,Try.ntmps19
  go_wp2_with (first|((with_reducible refine gate_dst (N:=2) rfl ?_);refine box_event ?hg (N:=2) ?hd (cs:=#[.slice A0_0 l0_0.length c0_0,.int .i64 a0_1,.int .i64 a0_2]) (t:=27) ?hr ?_;(case hd=>rfl);(case hg=>rfl);(case hr=>first|(go_simp;done)|(go_simp;rfl));intro gb390 hg w5 hbox hb;have n0_:=Aside0.mk (yP (by repeat (first|(with_reducible first|exact HB.out|apply yA|apply yB|apply yC)|exact HB.out)) hb);have n1_:=Aside0.mk (hbox);have n2_:=Aside0.mk ((by rw [hg];exact (yQ (by repeat (first|(with_reducible first|exact HB.out|apply yA|apply yB|apply yC)|exact HB.out))):w.heap.size≤gb390));have n3_:=Aside0.mk ((by rw [hg];exact (yQ (by repeat (first|(with_reducible first|exact HB.out|apply yA|apply yB|apply yC)|exact HB.out))):w.heap.size≤gb390));clear HB;have HB:=n0_;have BK390:=n1_;have GW390:=n2_;have GE390:=n3_;clear n0_ n1_ n2_ n3_;clear hb hbox hg;have hcz6_0:w5.cell? ⟨gb390,0,none⟩=some (.slice A0_0 l0_0.length c0_0):=(blk_cell BK390.out 0).trans rfl;have hcz6_1:w5.cell? ⟨gb390,1,none⟩=some (.int .i64 a0_1):=(blk_cell BK390.out 1).trans rfl;have hcz6_2:w5.cell? ⟨gb390,2,none⟩=some (.int .i64 a0_2):=(blk_cell BK390.out 2).trans rfl;have hfz6_0:=blk_frozen BK390.out 0;have hfz6_1:=blk_frozen BK390.out 1;have hfz6_2:=blk_frozen BK390.out 2)|((with_reducible refine gate_callee (f:=35) rfl ?_);refine goesL_ (some 8) rfl rfl Try.func35 (by kernel_rfl) rfl #[.slice A0_0 l0_0.length c0_0,.int .i64 a1] rfl (by (try simp only [List.map_toArray,List.map_cons,List.map_nil]);first|done|rfl|(simp only [List.length_drop,List.length_take];rfl)) ?_;(with_reducible refine (laws_szIntS.calls _ _ l0_0 a1 t391 _ ?side1 ?side2 A3.out).mono ?_);(case side1=>repeat (first|exact (Kd.C_below HR0_0.out HB.out)|(with_reducible refine Kd.C_alloc ?_ _)|(with_reducible refine Kd.C_drewN ?_ _)|(with_reducible refine Kd.C_drew ?_)));(case side2=>exact HC0_0.out);rintro e w' ⟨rfl,⟨nd,rfl⟩⟩;refine ⟨_,rfl,?_⟩))
  go_ret
  exact ⟨by first|rfl|(simp [errW_none,errW_some]<;>rfl)|(simp [*,errW_none,errW_some]<;>rfl)|(simp [errW_none,errW_some];exact ⟨rfl,rfl⟩),by repeat (first|(with_reducible first|exact HB.out|apply yA|apply yB|apply yC|refine yD ?_ GE390.out)|exact HB.out)⟩
 ·rw [if_neg c4] at H
  have c4b0:decide (t391<0)=false:=decide_eq_false c4
  clear c4
  obtain rfl:=Option.some.inj H
  go_enter Try.func19,Try.ntmps19
  go_wp2_with (first|((with_reducible refine gate_dst (N:=2) rfl ?_);refine box_event ?hg (N:=2) ?hd (cs:=#[.slice A0_0 l0_0.length c0_0,.int .i64 a0_1,.int .i64 a0_2]) (t:=27) ?hr ?_;(case hd=>rfl);(case hg=>rfl);(case hr=>first|(go_simp;done)|(go_simp;rfl));intro gb390 hg w7 hbox hb;have n0_:=Aside0.mk (yP (by repeat (first|(with_reducible first|exact HB.out|apply yA|apply yB|apply yC)|exact HB.out)) hb);have n1_:=Aside0.mk (hbox);have n2_:=Aside0.mk ((by rw [hg];exact (yQ (by repeat (first|(with_reducible first|exact HB.out|apply yA|apply yB|apply yC)|exact HB.out))):w.heap.size≤gb390));have n3_:=Aside0.mk ((by rw [hg];exact (yQ (by repeat (first|(with_reducible first|exact HB.out|apply yA|apply yB|apply yC)|exact HB.out))):w.heap.size≤gb390));clear HB;have HB:=n0_;have BK390:=n1_;have GW390:=n2_;have GE390:=n3_;clear n0_ n1_ n2_ n3_;clear hb hbox hg;have hcz8_0:w7.cell? ⟨gb390,0,none⟩=some (.slice A0_0 l0_0.length c0_0):=(blk_cell BK390.out 0).trans rfl;have hcz8_1:w7.cell? ⟨gb390,1,none⟩=some (.int .i64 a0_1):=(blk_cell BK390.out 1).trans rfl;have hcz8_2:w7.cell? ⟨gb390,2,none⟩=some (.int .i64 a0_2):=(blk_cell BK390.out 2).trans rfl;have hfz8_0:=blk_frozen BK390.out 0;have hfz8_1:=blk_frozen BK390.out 1;have hfz8_2:=blk_frozen BK390.out 2)|((with_reducible refine gate_callee (f:=35) rfl ?_);refine goesL_ (some 8) rfl rfl Try.func35 (by kernel_rfl) rfl #[.slice A0_0 l0_0.length c0_0,.int .i64 a1] rfl (by (try simp only [List.map_toArray,List.map_cons,List.map_nil]);first|done|rfl|(simp only [List.length_drop,List.length_take];rfl)) ?_;(with_reducible refine (laws_szIntS.calls _ _ l0_0 a1 t391 _ ?side1 ?side2 A3.out).mono ?_);(case side1=>repeat (first|exact (Kd.C_below HR0_0.out HB.out)|(with_reducible refine Kd.C_alloc ?_ _)|(with_reducible refine Kd.C_drewN ?_ _)|(with_reducible refine Kd.C_drew ?_)));(case side2=>exact HC0_0.out);rintro e w' ⟨rfl,⟨nd,rfl⟩⟩;refine ⟨_,rfl,?_⟩))
  go_ret
  exact ⟨by first|rfl|(simp [errW_none,errW_some]<;>rfl)|(simp [*,errW_none,errW_some]<;>rfl)|(simp [errW_none,errW_some];exact ⟨rfl,rfl⟩),by repeat (first|(with_reducible first|exact HB.out|apply yA|apply yB|apply yC|refine yD ?_ GE390.out)|exact HB.out)⟩

end Go.Proofs.Ytgheopbdmijlkaa.P

namespace Go.Proofs.Ytgheopbdmijlkaa.P
open Go.RowKit Go.Proofs.YtgheopbdmijlkaaW.PrintWords Go.Proofs.YtgheopbdmijlkaaW.PrintLast Go.Proofs.YtgheopbdmijlkaaW.PrintMore
attribute [local go_sem] max2_int min2_int max_two min_two max_three min_three max_four min_four   -- for this text's walks alone
set_option linter.unusedVariables false
set_option linter.unusedSimpArgs false

/-! ### laws_toIntS: function 38 -/
def laws_toIntS.l0:Nat→List Int→List Int→Int→Option (List Int)
 | 0,_,_,_=>none
 | k+1,x0,x3,x4=>if x4<(x0.length:Int) then (if 0≤x4 then (if x4<(x3.length:Int) then (laws_toIntS.l0 k x0 (x3.set (x4:Int).toNat (rd x0 x4)) (wrap64 (x4+1))) else (none)) else (none)) else (some x3)
def laws_toIntS.f (k:Nat) (l0:List Int):Option (List Int):=if 0≤(l0.length:Int) then (if ((l0.length:Int):Int).toNat≤35184372088832 then (laws_toIntS.l0 k l0 (List.replicate ((l0.length:Int):Int).toNat 0) 0) else (none)) else (none)
theorem laws_toIntS.mono_l:∀ k,(∀ y0 y1 y2,LeO (laws_toIntS.l0 k y0 y1 y2) (laws_toIntS.l0 (k+1) y0 y1 y2))
 | 0=>fun _ _ _ r h=>by simp [laws_toIntS.l0] at h
 | k+1=>by
  have ih0:=laws_toIntS.mono_l k
  ·intro y0 y1 y2
   unfold laws_toIntS.l0
   repeat' first
   | (with_reducible exact ih0 _ _ _)
   | (with_reducible exact LeO.refl _)
   | (with_reducible exact LeO.none _)
   | (with_reducible refine LeO.ite ?_ ?_)
   | (with_reducible refine LeO.bind ?_ (fun _=>?_))
   | exact ih0 _ _ _
   | exact LeO.none _
   | refine LeO.ite ?_ ?_
   | refine LeO.bind ?_ (fun _=>?_)
theorem laws_toIntS.mono:∀ a0 k,LeO (laws_toIntS.f k a0) (laws_toIntS.f (k+1) a0):=by
 intro a0 k
 have ih0:=laws_toIntS.mono_l k
 unfold laws_toIntS.f
 repeat' first
   | (with_reducible exact ih0 _ _ _)
   | (with_reducible exact LeO.refl _)
   | (with_reducible exact LeO.none _)
   | (with_reducible refine LeO.ite ?_ ?_)
   | (with_reducible refine LeO.bind ?_ (fun _=>?_))
   | exact ih0 _ _ _
   | exact LeO.none _
   | refine LeO.ite ?_ ?_
   | refine LeO.bind ?_ (fun _=>?_)
set_option maxHeartbeats 8000000 in
set_option maxRecDepth 100000 in
theorem laws_toIntS.calls (k:Nat) (A0:Option Addr) (c0:Nat) (l0:List Int) (r:List Int) (w:World) (hr0:Kd.C (Kd.int .i64) w A0 l0.length l0) (hc0:l0.length≤c0) (h:laws_toIntS.f k l0=some r) :
  Calls Try.prog 38 #[.slice A0 l0.length c0] w fun e w'=>∃ v0_:Value,e=.returned (v0_)∧Kd.R (Kd.int .i64) 3 w' w.heap.size (fun _=>True) v0_ r∧Below w.heap.size w w':=by
 have HR0:=Aside0.mk hr0
 have HC0:=Aside0.mk hc0
 clear hr0 hc0
 have HB:=Aside0.mk (Below.refl w.heap.size w)
 have H:(if 0≤(l0.length:Int) then (if ((l0.length:Int):Int).toNat≤35184372088832 then (laws_toIntS.l0 k l0 (List.replicate ((l0.length:Int):Int).toNat 0) 0) else (none)) else (none))=some r:=h
 clear h
 by_cases c2:0≤(l0.length:Int)
 ·rw [if_pos c2] at H
  have c2b0:=eq_true c2
  have c2b1:decide (0≤(l0.length:Int))=true:=decide_eq_true c2
  clear c2
  by_cases c3:((l0.length:Int):Int).toNat≤35184372088832
  ·rw [if_pos c3] at H
   have c3b0:=eq_true c3
   have c3b1:decide (((l0.length:Int):Int).toNat≤35184372088832)=true:=decide_eq_true c3
   clear c3
   obtain ⟨y452,hy452⟩:∃ y_:List Int,y_=(List.replicate ((l0.length:Int):Int).toNat 0):=⟨_,rfl⟩
   replace H:(laws_toIntS.l0 k l0 y452 0)=some r:=by first|(rw [hy452];with_reducible exact H)|(have H2_:=(Option.bind_some _ _).symm.trans H;rw [hy452];with_reducible exact H2_)|(have H2_:=(Option.bind_some _ _).symm.trans H;with_reducible exact H2_)|with_reducible exact H|(rw [hy452];exact H)|exact H
   have Ny452:=Aside0.mk hy452
   clear hy452
   have H':=Aside0.mk H
   clear H
   go_enter Try.func38,Try.ntmps38
   go_wp2_with (first|((with_reducible refine gate_dst (N:=7) rfl ?_);refine Kd.R_make (Kd.int .i64) _ 3 rfl (N:=7) rfl 25 _ _ rfl (l0.length:Int) rfl rfl Try.underlying25 (.int .i64 0) 8 info3 rfl (by decide) (by omega) 0 (ok:=fun _=>True) (okp:=fun _=>True) rfl (fun _ hk=>hk) trivial (of_decide_eq_true (by first|(with_reducible assumption)|assumption)) (Nat.le_trans (Nat.mul_le_mul_right _ (of_decide_eq_true (by first|(with_reducible assumption)|assumption):(l0.length:Int).toNat≤35184372088832)) (by omega)) (Below.refl _ _) (Nat.le_refl _) ?_;intro v453 w4 ho5 hb hg_ hnew_;clear hg_ hnew_;(first|rw [← Ny452.out] at ho5|(simp only [Int.reduceToNat] at ho5;rw [← Ny452.out] at ho5));have n0_:=Aside0.mk (Kd.R_lower ho5 (yQ (by repeat (first|(with_reducible first|exact HB.out|apply yA|apply yB|apply yC)|exact HB.out))));have n1_:=Aside0.mk (yP (by repeat (first|(with_reducible first|exact HB.out|apply yA|apply yB|apply yC)|exact HB.out)) hb);clear HB;have HO454:=n0_;have HB:=n1_;clear n0_ n1_;clear hb ho5))
   go_loopg [4] k (fun kq v4 w'=>∃ (x3_1:List Int) (x4_1:Int),v4=.int .i64 x4_1∧Aside0 (laws_toIntS.l0 kq l0 x3_1 x4_1=some r)∧Aside0 (kq≤k)∧Aside0 (Kd.R (Kd.int .i64) 3 w' w.heap.size (fun _=>True) v453 x3_1)∧Aside0 (Below w.heap.size w w'))
   case atStart=>exact ⟨(y452),(0),(by first|rfl|(simp;done)|(simp [*];done)|(simp [Int.tmod_eq_emod_of_nonneg];done)),H',⟨Nat.le_refl _⟩,⟨by (with_reducible repeat (first|apply yH|apply yI|apply yJ));exact HO454.out⟩,⟨by repeat (first|(with_reducible first|exact HB.out|apply yA|apply yB|apply yC)|exact HB.out)⟩⟩
   case round =>
    clear H'
    try clear c2
    try clear c2b0
    try clear c2b1
    try clear p2
    try clear c3
    try clear c3b0
    try clear c3b1
    obtain ⟨x3_1,x4_1,rfl,HA,HK1,HO_3,HB⟩:=hrel
    cases gk with
    | zero=>exact absurd HA.out (by simp [laws_toIntS.l0])
    | succ k1 =>
     have H:=HA.out
     clear HA
     simp only [laws_toIntS.l0] at H
     by_cases c6:x4_1<(l0.length:Int)
     ·rw [if_pos c6] at H
      have c6b0:decide (x4_1<(l0.length:Int))=true:=decide_eq_true c6
      clear c6
      by_cases c7:0≤x4_1
      ·rw [if_pos c7] at H
       have c7b0:decide (0≤x4_1)=true:=decide_eq_true c7
       clear c7
       by_cases c8:x4_1<(x3_1.length:Int)
       ·rw [if_pos c8] at H
        have c8b0:decide (x4_1<(x3_1.length:Int))=true:=decide_eq_true c8
        clear c8
        obtain ⟨y456,hy456⟩:∃ y_:List Int,y_=(x3_1.set (x4_1:Int).toNat (rd l0 x4_1)):=⟨_,rfl⟩
        replace H:(laws_toIntS.l0 k1 l0 y456 (wrap64 (x4_1+1)))=some r:=by first|(rw [hy456];with_reducible exact H)|(have H2_:=(Option.bind_some _ _).symm.trans H;rw [hy456];with_reducible exact H2_)|(have H2_:=(Option.bind_some _ _).symm.trans H;with_reducible exact H2_)|with_reducible exact H|(rw [hy456];exact H)|exact H
        have Ny456:=Aside0.mk hy456
        clear hy456
        have H':=Aside0.mk H
        clear H
        have p455:0≤(x4_1:Int):=of_decide_eq_true (by first|(with_reducible assumption)|assumption)
        have q455:x4_1<(l0.length:Int):=of_decide_eq_true (by first|(with_reducible assumption)|assumption)
        obtain ⟨ad455,e455,hx455_0⟩:=Kd.at_int HR0.out x4_1 p455 q455
        cases e455
        replace hx455_0:=(HB.out.cell (World.block_lt_of_cell? w _ hx455_0)).trans hx455_0
        replace p455:=eq_true p455
        replace q455:=eq_true q455
        have p9:0≤(x4_1:Int):=of_decide_eq_true (by first|(with_reducible assumption)|assumption)
        have q9:(x4_1:Int)<((x3_1.length:Int):Int):=of_decide_eq_true (by first|(with_reducible assumption)|assumption)
        obtain ⟨go9,co9,eo9,gb9,gl9,cl9,HG9⟩:=Kd.R_form HO_3.out (by omega)
        (first|cases eo9|(injection eo9 with ea_ en_ ec_;(first|subst ea_|(injection ea_ with ea_;subst ea_));subst ec_;clear en_))
        have GB9:=Aside0.mk gb9
        have GG9:=Aside0.mk HG9
        clear gb9 gl9 HG9
        obtain ⟨hx9_0,hf9_0⟩:=Kd.R_celln 0 HO_3.out (x4_1:Int) p9 q9
        replace p9:=eq_true p9
        replace q9:=eq_true q9
        have HP10:=Kd.R_putg HO_3.out (x4_1:Int) (rd l0 x4_1)
        go_wp2_with (first|((with_reducible refine gate_store (t:=3) (p:=20) rfl ?_);refine store_event (t:=3) (p:=20) (v:=?vo_w11) (w1:=(wr.setCell ⟨go9,(x4_1:Int).toNat,none⟩ (.int .i64 (rd l0 x4_1)))) ?hg ?ho ?hn ?hr ?_;(case ho=>rfl);(case hg=>rfl);(case hn=>rfl);(case hr=>first|(go_simp;done)|(go_simp;rfl));intro w11 hw;have hg:wr.grownBy w11 (some go9):=(by rw [hw];exact HP10.2);have hp_:Kd.R (Kd.int .i64) 3 w11 w.heap.size (fun _=>True) (.slice (some ⟨go9,0,none⟩) x3_1.length co9) y456:=(by rw [hw,Ny456.out];exact HP10.1);clear HP10;have n0_:=Aside0.mk (hp_);have n1_:=Aside0.mk ((by rw [hw];exact yD (HB.out) GB9.out:Below w.heap.size w w11));clear HO_3;clear HB;have HO_3:=n0_;have HB:=n1_;clear n0_ n1_;clear hg hw hp_))
        go_roundg k1
        case measure=>have:=HK1.out;omega
        case rel=>exact ⟨(y456),(wrap64 (x4_1+1)),(by first|rfl|(simp;done)|(simp [*];done)|(simp [Int.tmod_eq_emod_of_nonneg];done)),H',⟨by have:=HK1.out;omega⟩,⟨by (with_reducible repeat (first|apply yH|apply yI|apply yJ));exact HO_3.out⟩,⟨by repeat (first|(with_reducible first|exact HB.out|apply yA|apply yB|apply yC)|exact HB.out)⟩⟩
       ·rw [if_neg c8] at H
        exact absurd H (by simp)
      ·rw [if_neg c7] at H
       exact absurd H (by simp)
     ·rw [if_neg c6] at H
      have c6b0:decide (x4_1<(l0.length:Int))=false:=decide_eq_false c6
      clear c6
      obtain rfl:=Option.some.inj H
      go_wp2
      go_ret
      exact ⟨_,by first|rfl|(simp [errW_none,errW_some]<;>rfl)|(simp [*,errW_none,errW_some]<;>rfl)|(simp [errW_none,errW_some];exact ⟨rfl,rfl⟩),by (with_reducible repeat (first|apply yH|apply yI|apply yJ));exact HO_3.out,by repeat (first|(with_reducible first|exact HB.out|apply yA|apply yB|apply yC)|exact HB.out)⟩
  ·rw [if_neg c3] at H
   exact absurd H (by simp)
 ·rw [if_neg c2] at H
  exact absurd H (by simp)

end Go.Proofs.Ytgheopbdmijlkaa.P

namespace Go.Proofs.Ytgheopbdmijlkaa.P
open Go.RowKit Go.Proofs.YtgheopbdmijlkaaW.PrintWords Go.Proofs.YtgheopbdmijlkaaW.PrintLast Go.Proofs.YtgheopbdmijlkaaW.PrintMore
attribute [local go_sem] max2_int min2_int max_two min_two max_three min_three max_four min_four   -- for this text's walks alone
set_option linter.unusedVariables false
set_option linter.unusedSimpArgs false

/-! ### laws_toMachine: function 21 -/
def laws_toMachine.f (k:Nat) (l0_0:List Int) (a0_1:Int) (a0_2:Int):Option (List Int × Int × Int):=(laws_toIntS.f k l0_0).bind fun t460=>(some (t460,a0_1,a0_2))
theorem laws_toMachine.mono:∀ a0 a1 a2 k,LeO (laws_toMachine.f k a0 a1 a2) (laws_toMachine.f (k+1) a0 a1 a2):=by
 intro a0 a1 a2 k
 unfold laws_toMachine.f
 repeat' first
   | (with_reducible exact laws_toIntS.mono _ _)
   | (with_reducible exact LeO.refl _)
   | (with_reducible exact LeO.none _)
   | (with_reducible refine LeO.ite ?_ ?_)
   | (with_reducible refine LeO.bind ?_ (fun _=>?_))
   | exact laws_toIntS.mono _ _
   | exact LeO.none _
   | refine LeO.ite ?_ ?_
   | refine LeO.bind ?_ (fun _=>?_)
set_option maxHeartbeats 8000000 in
set_option maxRecDepth 100000 in
theorem laws_toMachine.calls (k:Nat) (A0_0:Option Addr) (c0_0:Nat) (l0_0:List Int) (a0_1:Int) (a0_2:Int) (r1:List Int) (r2:Int) (r3:Int) (w:World) (hr0_0:Kd.C (Kd.int .i64) w A0_0 l0_0.length l0_0) (hc0_0:l0_0.length≤c0_0) (h:laws_toMachine.f k l0_0 a0_1 a0_2=some (r1,r2,r3)) :
  Calls Try.prog 21 #[.agg #[.slice A0_0 l0_0.length c0_0,.int .i64 a0_1,.int .i64 a0_2]] w fun e w'=>∃ v0_:Value,e=.returned (.agg #[v0_,.int .i64 r2,.int .i64 r3])∧Kd.R (Kd.int .i64) 3 w' w.heap.size (fun _=>True) v0_ r1∧Below w.heap.size w w':=by
 have hu27:=Try.underlying27
 have hu31:=Try.underlying31
 have HR0_0:=Aside0.mk hr0_0
 have HC0_0:=Aside0.mk hc0_0
 clear hr0_0 hc0_0
 have HB:=Aside0.mk (Below.refl w.heap.size w)
 have H:((laws_toIntS.f k l0_0).bind fun t460=>(some (t460,a0_1,a0_2)))=some (r1,r2,r3):=h
 clear h
 replace H:=Option.bind_eq_some_iff.mp H
 obtain ⟨t460,A20,H⟩:=H
 replace H:(some (t460,a0_1,a0_2))=some (r1,r2,r3):=H
 have A2:=Aside0.mk A20
 clear A20
 simp only [Option.some.injEq,Prod.mk.injEq] at H
 obtain ⟨rfl,rfl,rfl⟩:=H
 go_enter Try.func21,Try.ntmps21
 go_wp2_with (first|((with_reducible refine gate_dst (N:=1) rfl ?_);refine box_event ?hg (N:=1) ?hd (cs:=#[.slice A0_0 l0_0.length c0_0,.int .i64 a0_1,.int .i64 a0_2]) (t:=27) ?hr ?_;(case hd=>rfl);(case hg=>rfl);(case hr=>first|(go_simp;done)|(go_simp;rfl));intro gb457 hg w3 hbox hb;have n0_:=Aside0.mk (yP (by repeat (first|(with_reducible first|exact HB.out|apply yA|apply yB|apply yC)|exact HB.out)) hb);have n1_:=Aside0.mk (hbox);have n2_:=Aside0.mk ((by rw [hg];exact (yQ (by repeat (first|(with_reducible first|exact HB.out|apply yA|apply yB|apply yC)|exact HB.out))):w.heap.size≤gb457));have n3_:=Aside0.mk ((by rw [hg];exact (yQ (by repeat (first|(with_reducible first|exact HB.out|apply yA|apply yB|apply yC)|exact HB.out))):w.heap.size≤gb457));clear HB;have HB:=n0_;have BK457:=n1_;have GW457:=n2_;have GE457:=n3_;clear n0_ n1_ n2_ n3_;clear hb hbox hg)|((with_reducible refine gate_dst (N:=2) rfl ?_);refine box_event ?hg (N:=2) ?hd (cs:=#[.slice none 0 0,.int .i64 0,.int .i64 0]) (t:=31) ?hr ?_;(case hd=>rfl);(case hg=>rfl);(case hr=>first|(go_simp;done)|(go_simp;rfl));intro gb458 hg w4 hbox hb;have n0_:=Aside0.mk (blk_below (g:=gb457) (o:=.cells #[.slice A0_0 l0_0.length c0_0,.int .i64 a0_1,.int .i64 a0_2] 27 (0,0)) (by (with_reducible repeat (first|refine yE ?_ _|refine yF ?_|refine yG ?_ _));exact BK457.out) hb);have n1_:=Aside0.mk (yP (by repeat (first|(with_reducible first|exact HB.out|apply yA|apply yB|apply yC|refine yD ?_ GE457.out)|exact HB.out)) hb);have n2_:=Aside0.mk (hbox);have n3_:=Aside0.mk ((by rw [hg];exact (yQ (by repeat (first|(with_reducible first|exact HB.out|apply yA|apply yB|apply yC|refine yD ?_ GE457.out)|exact HB.out))):w.heap.size≤gb458));have n4_:=Aside0.mk ((by rw [hg];exact (yQ (by repeat (first|(with_reducible first|exact HB.out|apply yA|apply yB|apply yC|refine yD ?_ GE457.out)|exact HB.out))):w.heap.size≤gb458));have n5_:=Aside0.mk ((by rw [hg];exact Nat.ne_of_lt (blk_lt (g:=gb457) (o:=.cells #[.slice A0_0 l0_0.length c0_0,.int .i64 a0_1,.int .i64 a0_2] 27 (0,0)) (by (with_reducible repeat (first|refine yE ?_ _|refine yF ?_|refine yG ?_ _));exact BK457.out)):gb457≠gb458));have n6_:=Aside0.mk ((by rw [hg];exact Nat.ne_of_gt (blk_lt (g:=gb457) (o:=.cells #[.slice A0_0 l0_0.length c0_0,.int .i64 a0_1,.int .i64 a0_2] 27 (0,0)) (by (with_reducible repeat (first|refine yE ?_ _|refine yF ?_|refine yG ?_ _));exact BK457.out)):gb458≠gb457));clear BK457;clear HB;have BK457:=n0_;have HB:=n1_;have BK458:=n2_;have GW458:=n3_;have GE458:=n4_;have NB457_458:=n5_;have NB458_457:=n6_;clear n0_ n1_ n2_ n3_ n4_ n5_ n6_;clear hb hbox hg)|((with_reducible refine gate_dst (N:=3) rfl ?_);refine box_event ?hg (N:=3) ?hd (cs:=#[.slice none 0 0,.int .i64 0,.int .i64 0]) (t:=31) ?hr ?_;(case hd=>rfl);(case hg=>rfl);(case hr=>first|(go_simp;done)|(go_simp;rfl));intro gb459 hg w5 hbox hb;have n0_:=Aside0.mk (blk_below (g:=gb457) (o:=.cells #[.slice A0_0 l0_0.length c0_0,.int .i64 a0_1,.int .i64 a0_2] 27 (0,0)) (by (with_reducible repeat (first|refine yE ?_ _|refine yF ?_|refine yG ?_ _));exact BK457.out) hb);have n1_:=Aside0.mk (blk_below (g:=gb458) (o:=.cells #[.slice none 0 0,.int .i64 0,.int .i64 0] 31 (0,0)) (by (with_reducible repeat (first|refine yE ?_ _|refine yF ?_|refine yG ?_ _));exact BK458.out) hb);have n2_:=Aside0.mk (yP (by repeat (first|(with_reducible first|exact HB.out|apply yA|apply yB|apply yC|refine yD ?_ GE457.out|refine yD ?_ GE458.out)|exact HB.out)) hb);have n3_:=Aside0.mk (hbox);have n4_:=Aside0.mk ((by rw [hg];exact (yQ (by repeat (first|(with_reducible first|exact HB.out|apply yA|apply yB|apply yC|refine yD ?_ GE457.out|refine yD ?_ GE458.out)|exact HB.out))):w.heap.size≤gb459));have n5_:=Aside0.mk ((by rw [hg];exact (yQ (by repeat (first|(with_reducible first|exact HB.out|apply yA|apply yB|apply yC|refine yD ?_ GE457.out|refine yD ?_ GE458.out)|exact HB.out))):w.heap.size≤gb459));have n6_:=Aside0.mk ((by rw [hg];exact Nat.ne_of_lt (blk_lt (g:=gb457) (o:=.cells #[.slice A0_0 l0_0.length c0_0,.int .i64 a0_1,.int .i64 a0_2] 27 (0,0)) (by (with_reducible repeat (first|refine yE ?_ _|refine yF ?_|refine yG ?_ _));exact BK457.out)):gb457≠gb459));have n7_:=Aside0.mk ((by rw [hg];exact Nat.ne_of_gt (blk_lt (g:=gb457) (o:=.cells #[.slice A0_0 l0_0.length c0_0,.int .i64 a0_1,.int .i64 a0_2] 27 (0,0)) (by (with_reducible repeat (first|refine yE ?_ _|refine yF ?_|refine yG ?_ _));exact BK457.out)):gb459≠gb457));have n8_:=Aside0.mk ((by rw [hg];exact Nat.ne_of_lt (blk_lt (g:=gb458) (o:=.cells #[.slice none 0 0,.int .i64 0,.int .i64 0] 31 (0,0)) (by (with_reducible repeat (first|refine yE ?_ _|refine yF ?_|refine yG ?_ _));exact BK458.out)):gb458≠gb459));have n9_:=Aside0.mk ((by rw [hg];exact Nat.ne_of_gt (blk_lt (g:=gb458) (o:=.cells #[.slice none 0 0,.int .i64 0,.int .i64 0] 31 (0,0)) (by (with_reducible repeat (first|refine yE ?_ _|refine yF ?_|refine yG ?_ _));exact BK458.out)):gb459≠gb458));clear BK457;clear BK458;clear HB;have BK457:=n0_;have BK458:=n1_;have HB:=n2_;have BK459:=n3_;have GW459:=n4_;have GE459:=n5_;have NB457_459:=n6_;have NB459_457:=n7_;have NB458_459:=n8_;have NB459_458:=n9_;clear n0_ n1_ n2_ n3_ n4_ n5_ n6_ n7_ n8_ n9_;clear hb hbox hg;have hnb6:=NB457_458.out;have hnc6:=NB458_457.out;have hnb7:=NB457_459.out;have hnc7:=NB459_457.out;have hcz8_0:w5.cell? ⟨gb457,0,none⟩=some (.slice A0_0 l0_0.length c0_0):=(blk_cell BK457.out 0).trans rfl;have hcz8_1:w5.cell? ⟨gb457,1,none⟩=some (.int .i64 a0_1):=(blk_cell BK457.out 1).trans rfl;have hcz8_2:w5.cell? ⟨gb457,2,none⟩=some (.int .i64 a0_2):=(blk_cell BK457.out 2).trans rfl;have hfz8_0:=blk_frozen BK457.out 0;have hfz8_1:=blk_frozen BK457.out 1;have hfz8_2:=blk_frozen BK457.out 2)|((with_reducible refine gate_callee (f:=38) rfl ?_);refine goesL_ (some 6) rfl rfl Try.func38 (by kernel_rfl) rfl #[.slice A0_0 l0_0.length c0_0] rfl (by (try simp only [List.map_toArray,List.map_cons,List.map_nil]);first|done|rfl|(simp only [List.length_drop,List.length_take];rfl)) ?_;(with_reducible refine (laws_toIntS.calls k _ _ l0_0 t460 _ ?side1 ?side2 A2.out).mono ?_);(case side1=>repeat (first|exact (Kd.C_below HR0_0.out HB.out)|(with_reducible refine Kd.C_alloc ?_ _)|(with_reducible refine Kd.C_drewN ?_ _)|(with_reducible refine Kd.C_drew ?_)));(case side2=>exact HC0_0.out);rintro e w9 ⟨v461,rfl,ho0,hb⟩;refine ⟨_,rfl,?_⟩;have n0_:=Aside0.mk (Kd.R_lower ho0 (yQ (by repeat (first|(with_reducible first|exact HB.out|apply yA|apply yB|apply yC|refine yD ?_ GE457.out|refine yD ?_ GE458.out|refine yD ?_ GE459.out)|exact HB.out))));have n1_:=Aside0.mk (blk_below (g:=gb457) (o:=.cells #[.slice A0_0 l0_0.length c0_0,.int .i64 a0_1,.int .i64 a0_2] 27 (0,0)) (by (with_reducible repeat (first|refine yE ?_ _|refine yF ?_|refine yG ?_ _));exact BK457.out) hb);have n2_:=Aside0.mk (blk_below (g:=gb458) (o:=.cells #[.slice none 0 0,.int .i64 0,.int .i64 0] 31 (0,0)) (by (with_reducible repeat (first|refine yE ?_ _|refine yF ?_|refine yG ?_ _));exact BK458.out) hb);have n3_:=Aside0.mk (blk_below (g:=gb459) (o:=.cells #[.slice none 0 0,.int .i64 0,.int .i64 0] 31 (0,0)) (by (with_reducible repeat (first|refine yE ?_ _|refine yF ?_|refine yG ?_ _));exact BK459.out) hb);have n4_:=Aside0.mk (yP (by repeat (first|(with_reducible first|exact HB.out|apply yA|apply yB|apply yC|refine yD ?_ GE457.out|refine yD ?_ GE458.out|refine yD ?_ GE459.out)|exact HB.out)) hb);clear BK457;clear BK458;clear BK459;clear HB;have HO462:=n0_;have BK457:=n1_;have BK458:=n2_;have BK459:=n3_;have HB:=n4_;clear n0_ n1_ n2_ n3_ n4_;(try clear hb);(try clear hb2);(try clear hk);(try clear hi);(try clear ho0);obtain ⟨Ao10,co10,eo10⟩:=Kd.R_slice HO462.out;subst eo10;have hnb11:=NB459_458.out;have hnc11:=NB458_459.out;have hcz12_0:w9.cell? ⟨gb459,0,none⟩=some (.slice none 0 0):=(blk_cell BK459.out 0).trans rfl;have hcz12_1:w9.cell? ⟨gb459,1,none⟩=some (.int .i64 0):=(blk_cell BK459.out 1).trans rfl;have hcz12_2:w9.cell? ⟨gb459,2,none⟩=some (.int .i64 0):=(blk_cell BK459.out 2).trans rfl;have hfz12_0:=blk_frozen BK459.out 0;have hfz12_1:=blk_frozen BK459.out 1;have hfz12_2:=blk_frozen BK459.out 2;have hcz13_0:w9.cell? ⟨gb457,0,none⟩=some (.slice A0_0 l0_0.length c0_0):=(blk_cell BK457.out 0).trans rfl;have hcz13_1:w9.cell? ⟨gb457,1,none⟩=some (.int .i64 a0_1):=(blk_cell BK457.out 1).trans rfl;have hcz13_2:w9.cell? ⟨gb457,2,none⟩=some (.int .i64 a0_2):=(blk_cell BK457.out 2).trans rfl;have hfz13_0:=blk_frozen BK457.out 0;have hfz13_1:=blk_frozen BK457.out 1;have hfz13_2:=blk_frozen BK457.out 2;have hcz14_0:w9.cell? ⟨gb458,0,none⟩=some (.slice none 0 0):=(blk_cell BK458.out 0).trans rfl;have hcz14_1:w9.cell? ⟨gb458,1,none⟩=some (.int .i64 0):=(blk_cell BK458.out 1).trans rfl;have hcz14_2:w9.cell? ⟨gb458,2,none⟩=some (.int .i64 0):=(blk_cell BK458.out 2).trans rfl;have hfz14_0:=blk_frozen BK458.out 0;have hfz14_1:=blk_frozen BK458.out 1;have hfz14_2:=blk_frozen BK458.out 2))
 refine bodyPost_ret (results_cell_row rfl _ _ gb458 31 #[.slice Ao10 t460.length co10,.int .i64 a0_1,.int .i64 a0_2] (0,0) _ rfl (by (with_reducible repeat (first|refine yE ?_ _|refine yF ?_|refine yG ?_ _));refine blk_put (cs:=#[.slice Ao10 t460.length co10,.int .i64 a0_1,.int .i64 0]) ?_ 2 _ rfl;(with_reducible repeat (first|refine yE ?_ _|refine yF ?_|refine yG ?_ _));refine blk_put (cs:=#[.slice Ao10 t460.length co10,.int .i64 0,.int .i64 0]) ?_ 1 _ rfl;(with_reducible repeat (first|refine yE ?_ _|refine yF ?_|refine yG ?_ _));refine blk_put (cs:=#[.slice none 0 0,.int .i64 0,.int .i64 0]) ?_ 0 _ rfl;(with_reducible repeat (first|refine yE ?_ _|refine yF ?_|refine yG ?_ _));refine blk_far ?_ NB458_459.out _;(with_reducible repeat (first|refine yE ?_ _|refine yF ?_|refine yG ?_ _));refine blk_far ?_ NB458_459.out _;(with_reducible repeat (first|refine yE ?_ _|refine yF ?_|refine yG ?_ _));refine blk_far ?_ NB458_459.out _;(with_reducible repeat (first|refine yE ?_ _|refine yF ?_|refine yG ?_ _));exact BK458.out) Try.underlying31 rfl (by kernel_rfl)) rfl ?_
 exact ⟨_,by first|rfl|(simp [errW_none,errW_some]<;>rfl)|(simp [*,errW_none,errW_some]<;>rfl)|(simp [errW_none,errW_some];exact ⟨rfl,rfl⟩),by (with_reducible repeat (first|apply yH|apply yI|apply yJ));exact Kd.R_mono (Kd.R_far (p:=⟨gb458,2,none⟩) (Kd.R_far (p:=⟨gb458,1,none⟩) (Kd.R_far (p:=⟨gb458,0,none⟩) (Kd.R_far (p:=⟨gb459,2,none⟩) (Kd.R_far (p:=⟨gb459,1,none⟩) (Kd.R_far (p:=⟨gb459,0,none⟩) (Kd.R_types (Kd.R_types HO462.out BK459.out (by decide)) BK458.out (by decide)) (fun _ hk=>hk.1.2) (.slice Ao10 t460.length co10)) (fun _ hk=>hk.1.2) (.int .i64 a0_1)) (fun _ hk=>hk.1.2) (.int .i64 a0_2)) (fun _ hk=>hk.2) (.slice Ao10 t460.length co10)) (fun _ hk=>hk.2) (.int .i64 a0_1)) (fun _ hk=>hk.2) (.int .i64 a0_2)) (fun _ hk=>trivial),by repeat (first|(with_reducible first|exact HB.out|apply yA|apply yB|apply yC|refine yD ?_ GE457.out|refine yD ?_ GE458.out|refine yD ?_ GE459.out)|exact HB.out)⟩

end Go.Proofs.Ytgheopbdmijlkaa.P

namespace Go.Proofs.Ytgheopbdmijlkaa.P
open Go.RowKit Go.Proofs.YtgheopbdmijlkaaW.PrintWords Go.Proofs.YtgheopbdmijlkaaW.PrintLast Go.Proofs.YtgheopbdmijlkaaW.PrintMore
attribute [local go_sem] max2_int min2_int max_two min_two max_three min_three max_four min_four   -- for this text's walks alone
set_option linter.unusedVariables false
set_option linter.unusedSimpArgs false

/-! ### slices_Index_int_int: function 62 -/
def slices_Index_int_int.l0:Nat→List Int→Int→Int→Int→Option (Int)
 | 0,_,_,_,_=>none
 | k+1,x0,x1,x7,x8=>if x8<x7 then (if 0≤x8 then (if x8<(x0.length:Int) then (if x1=(rd x0 x8) then (some x8) else (slices_Index_int_int.l0 k x0 x1 x7 (wrap64 (x8+1)))) else (none)) else (none)) else (some (-1))
def slices_Index_int_int.f (k:Nat) (l0:List Int) (a1:Int):Option (Int):=slices_Index_int_int.l0 k l0 a1 (l0.length:Int) 0
theorem slices_Index_int_int.mono_l:∀ k,(∀ y0 y1 y2 y3,LeO (slices_Index_int_int.l0 k y0 y1 y2 y3) (slices_Index_int_int.l0 (k+1) y0 y1 y2 y3))
 | 0=>fun _ _ _ _ r h=>by simp [slices_Index_int_int.l0] at h
 | k+1=>by
  have ih0:=slices_Index_int_int.mono_l k
  ·intro y0 y1 y2 y3
   unfold slices_Index_int_int.l0
   repeat' first
   | (with_reducible exact ih0 _ _ _ _)
   | (with_reducible exact LeO.refl _)
   | (with_reducible exact LeO.none _)
   | (with_reducible refine LeO.ite ?_ ?_)
   | (with_reducible refine LeO.bind ?_ (fun _=>?_))
   | exact ih0 _ _ _ _
   | exact LeO.none _
   | refine LeO.ite ?_ ?_
   | refine LeO.bind ?_ (fun _=>?_)
theorem slices_Index_int_int.mono:∀ a0 a1 k,LeO (slices_Index_int_int.f k a0 a1) (slices_Index_int_int.f (k+1) a0 a1):=by
 intro a0 a1 k
 have ih0:=slices_Index_int_int.mono_l k
 unfold slices_Index_int_int.f
 repeat' first
   | (with_reducible exact ih0 _ _ _ _)
   | (with_reducible exact LeO.refl _)
   | (with_reducible exact LeO.none _)
   | (with_reducible refine LeO.ite ?_ ?_)
   | (with_reducible refine LeO.bind ?_ (fun _=>?_))
   | exact ih0 _ _ _ _
   | exact LeO.none _
   | refine LeO.ite ?_ ?_
   | refine LeO.bind ?_ (fun _=>?_)
set_option maxHeartbeats 8000000 in
set_option maxRecDepth 100000 in
theorem slices_Index_int_int.calls (k:Nat) (A0:Option Addr) (c0:Nat) (l0:List Int) (a1:Int) (r:Int) (w:World) (hr0:Kd.C (Kd.int .i64) w A0 l0.length l0) (hc0:l0.length≤c0) (h:slices_Index_int_int.f k l0 a1=some r) :
  Calls Try.prog 62 #[.slice A0 l0.length c0,.int .i64 a1] w fun e w'=>e=.returned (.int .i64 r)∧Drawn0 w w':=by
 have HR0:=Aside0.mk hr0
 have HC0:=Aside0.mk hc0
 clear hr0 hc0
 have H:(slices_Index_int_int.l0 k l0 a1 (l0.length:Int) 0)=some r:=h
 clear h
 have H':=Aside0.mk H
 clear H
 go_enter Try.func62,Try.ntmps62
 go_wp2
 go_loopg [8] k (fun kq v8 w'=>∃ (x8_1:Int),v8=.int .i64 x8_1∧Aside0 (slices_Index_int_int.l0 kq l0 a1 (l0.length:Int) x8_1=some r)∧Aside0 (kq≤k)∧Drawn0 w w')
 case atStart=>exact ⟨(0),(by first|rfl|(simp;done)|(simp [*];done)|(simp [Int.tmod_eq_emod_of_nonneg];done)),H',⟨Nat.le_refl _⟩,by repeat (first|exact Drawn0.refl _|apply Drawn0.step)⟩
 case round =>
  clear H'
  try clear p2
  obtain ⟨x8_1,rfl,HA,HK1,⟨m1,rfl⟩⟩:=hrel
  cases gk with
  | zero=>exact absurd HA.out (by simp [slices_Index_int_int.l0])
  | succ k1 =>
   have H:=HA.out
   clear HA
   simp only [slices_Index_int_int.l0] at H
   by_cases c3:x8_1<(l0.length:Int)
   ·rw [if_pos c3] at H
    have c3b0:decide (x8_1<(l0.length:Int))=true:=decide_eq_true c3
    clear c3
    by_cases c4:0≤x8_1
    ·rw [if_pos c4] at H
     have c4b0:decide (0≤x8_1)=true:=decide_eq_true c4
     clear c4
     by_cases c5:x8_1<(l0.length:Int)
     ·rw [if_pos c5] at H
      have c5b0:decide (x8_1<(l0.length:Int))=true:=decide_eq_true c5
      clear c5
      by_cases c6:a1=(rd l0 x8_1)
      ·rw [if_pos c6] at H
       have c6b0:(a1 == (rd l0 x8_1))=true:=beq_iff_eq.mpr c6
       have c6b1:(a1 != (rd l0 x8_1))=false:=bne_eq_false_iff_eq.mpr c6
       clear c6
       obtain rfl:=Option.some.inj H
       have p463:0≤(x8_1:Int):=of_decide_eq_true (by first|(with_reducible assumption)|assumption)
       have q463:x8_1<(l0.length:Int):=of_decide_eq_true (by first|(with_reducible assumption)|assumption)
       obtain ⟨ad463,e463,hx463_0⟩:=Kd.at_int HR0.out x8_1 p463 q463
       cases e463
       replace p463:=eq_true p463
       replace q463:=eq_true q463
       go_wp2
       go_ret
       exact ⟨by first|rfl|(simp;done)|(simp [*];done),by repeat (first|exact Drawn0.refl _|apply Drawn0.step)⟩
      ·rw [if_neg c6] at H
       have c6b0:(a1 == (rd l0 x8_1))=false:=beq_eq_false_iff_ne.mpr c6
       have c6b1:(a1 != (rd l0 x8_1))=true:=bne_iff_ne.mpr c6
       have H':=Aside0.mk H
       clear H
       have p463:0≤(x8_1:Int):=of_decide_eq_true (by first|(with_reducible assumption)|assumption)
       have q463:x8_1<(l0.length:Int):=of_decide_eq_true (by first|(with_reducible assumption)|assumption)
       obtain ⟨ad463,e463,hx463_0⟩:=Kd.at_int HR0.out x8_1 p463 q463
       cases e463
       replace p463:=eq_true p463
       replace q463:=eq_true q463
       go_wp2
       go_roundg k1
       case measure=>have:=HK1.out;omega
       case rel=>exact ⟨(wrap64 (x8_1+1)),(by first|rfl|(simp;done)|(simp [*];done)|(simp [Int.tmod_eq_emod_of_nonneg];done)),H',⟨by have:=HK1.out;omega⟩,by repeat (first|exact Drawn0.refl _|apply Drawn0.step)⟩
     ·rw [if_neg c5] at H
      exact absurd H (by simp)
    ·rw [if_neg c4] at H
     exact absurd H (by simp)
   ·rw [if_neg c3] at H
    have c3b0:decide (x8_1<(l0.length:Int))=false:=decide_eq_false c3
    clear c3
    obtain rfl:=Option.some.inj H
    go_wp2
    go_ret
    exact ⟨by first|rfl|(simp;done)|(simp [*];done),by repeat (first|exact Drawn0.refl _|apply Drawn0.step)⟩

end Go.Proofs.Ytgheopbdmijlkaa.P

namespace Go.Proofs.Ytgheopbdmijlkaa.P
open Go.RowKit Go.Proofs.YtgheopbdmijlkaaW.PrintWords Go.Proofs.YtgheopbdmijlkaaW.PrintLast Go.Proofs.YtgheopbdmijlkaaW.PrintMore
attribute [local go_sem] max2_int min2_int max_two min_two max_three min_three max_four min_four   -- for this text's walks alone
set_option linter.unusedVariables false
set_option linter.unusedSimpArgs false

/-! ### slices_Contains_int_int: function 60 -/
def slices_Contains_int_int.f (k:Nat) (l0:List Int) (a1:Int):Option (Bool):=(slices_Index_int_int.f k l0 a1).bind fun t464=>(some (decide (t464 ≥ 0)))
theorem slices_Contains_int_int.mono:∀ a0 a1 k,LeO (slices_Contains_int_int.f k a0 a1) (slices_Contains_int_int.f (k+1) a0 a1):=by
 intro a0 a1 k
 unfold slices_Contains_int_int.f
 repeat' first
   | (with_reducible exact slices_Index_int_int.mono _ _ _)
   | (with_reducible exact LeO.refl _)
   | (with_reducible exact LeO.none _)
   | (with_reducible refine LeO.ite ?_ ?_)
   | (with_reducible refine LeO.bind ?_ (fun _=>?_))
   | exact slices_Index_int_int.mono _ _ _
   | exact LeO.none _
   | refine LeO.ite ?_ ?_
   | refine LeO.bind ?_ (fun _=>?_)
set_option maxHeartbeats 8000000 in
set_option maxRecDepth 100000 in
theorem slices_Contains_int_int.calls (k:Nat) (A0:Option Addr) (c0:Nat) (l0:List Int) (a1:Int) (r:Bool) (w:World) (hr0:Kd.C (Kd.int .i64) w A0 l0.length l0) (hc0:l0.length≤c0) (h:slices_Contains_int_int.f k l0 a1=some r) :
  Calls Try.prog 60 #[.slice A0 l0.length c0,.int .i64 a1] w fun e w'=>e=.returned (.bool r)∧Drawn0 w w':=by
 have HR0:=Aside0.mk hr0
 have HC0:=Aside0.mk hc0
 clear hr0 hc0
 have H:((slices_Index_int_int.f k l0 a1).bind fun t464=>(some (decide (t464 ≥ 0))))=some r:=h
 clear h
 replace H:=Option.bind_eq_some_iff.mp H
 obtain ⟨t464,A30,H⟩:=H
 replace H:(some (decide (t464 ≥ 0)))=some r:=H
 have A3:=Aside0.mk A30
 clear A30
 obtain rfl:=Option.some.inj H
 go_enter Try.func60,Try.ntmps60
 go_wp2_with (first|((with_reducible refine gate_callee (f:=62) rfl ?_);refine goesL_ (some 7) rfl rfl Try.func62 (by kernel_rfl) rfl #[.slice A0 l0.length c0,.int .i64 a1] rfl (by (try simp only [List.map_toArray,List.map_cons,List.map_nil]);first|done|rfl|(simp only [List.length_drop,List.length_take];rfl)) ?_;(with_reducible refine (slices_Index_int_int.calls k _ _ l0 a1 t464 _ ?side1 ?side2 A3.out).mono ?_);(case side1=>repeat (first|exact HR0.out|(with_reducible refine Kd.C_alloc ?_ _)|(with_reducible refine Kd.C_drewN ?_ _)|(with_reducible refine Kd.C_drew ?_)));(case side2=>exact HC0.out);rintro e w' ⟨rfl,⟨nd,rfl⟩⟩;refine ⟨_,rfl,?_⟩))
 go_ret
 exact ⟨by first|rfl|(simp;done)|(simp [*];done),by repeat (first|exact Drawn0.refl _|apply Drawn0.step)⟩

end Go.Proofs.Ytgheopbdmijlkaa.P
