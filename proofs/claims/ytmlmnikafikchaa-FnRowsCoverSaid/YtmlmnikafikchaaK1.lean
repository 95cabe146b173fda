/- What these laws reach, joined by a program of this session: contracts (written by that program over the kit's print, or by hand) and plain lemmas. -/
import Derived.Shelf.Strings.Builder1
import Derived.Test.YtmlmnikafikchaaProg
import Derived.Below
import Derived.Deep.Draws
import Derived.Deep.AppendLies
import Derived.Maps.AppendAt
import Derived.OwnWalk
import Derived.Laws.BytesArg
import Derived.Laws.MakeOwn
import Derived.Laws.OwnMore
import Derived.Deep.OwnRows
import Derived.Tactics
import Derived.Lib.ConvBytes
import Derived.Laws.Slices
import Derived.WalkKit
import Derived.KernelRfl
import Derived.RowKit3
import Derived.Deep.LoopGhost
import Derived.Deep.QuietTactic
import Derived.BigQuiet
import Derived.WideLaws
import Derived.Deep.DeepCutAuto
import Derived.Deep.CutBlock
import Derived.Deep.RegionHeld3
import Derived.Laws.Rows
import Derived.Lib.AppendStr
import Derived.ArgAppend
import Derived.Laws.IdiomCopy
import Derived.OrdersHeld
import Derived.Laws.BitsLemmas
import Derived.RowKit
import Derived.Test.YtmlmnikafikchaaV
import Derived.Lib.SliceRun
import Derived.Lib.LazyBuf
import Derived.WalkSpells
open Go.Proofs.YtmlmnikafikchaaW.PrintWords renaming below_alloc → yA, pw_below_drewN → yB, below_drew1 → yC, below_set → yD, blk_drewN → yE, blk_drew → yF, blk_alloc → yG, below_step → yP, below_size → yQ
open Go.Proofs.YtmlmnikafikchaaW.PrintWords.Kd renaming R_alloc → yH, R_drewN → yI, R_drew → yJ
open List renaming setIfInBounds_toArray → yK, set_cons_zero → yL, set_cons_succ → yM
/-
  DERIVED: THE SHELF's CONTRACTS AT THIS DUMP, IN PLAIN WORDS (tools/lay-plain.mjs out of 'TryShelf.lean', which tools/lay-shelf.mjs wrote): THE SAME DECLARATIONS UNDER THE SAME NAMES: 'import', 'namespace', 'open', 'def', 'theorem' AND NOTHING ELSE: no command of the shelf's: FOR A HAND-IN. Each laying: the table of numbers ('.._ren') and one theorem, a field a fact of the dump's own or the kernel's comparison; each contract: ONE APPLICATION.
-/
namespace Go.Proofs
open Go.Shelf
def Try.lays169_ren : Go.Shelf.Ren := ⟨fun | 169 => 60 | n => n, fun | 70 => 81 | 9 => 9 | 0 => 0 | 72 => 83 | 37 => 22 | 127 => 90 | 3 => 3 | 5 => 5 | n => n, fun | n => n⟩
theorem Try.lays169 : Go.Proofs.Lays.n169 Try.prog Try.lays169_ren := {
  mixed := by kernel_rfl
  f169 := Try.func60.trans (congrArg some (by kernel_rfl))
  t0 := Try.underlying0
  a0 := Try.isAgg0
  z0 := Try.sizeOf0
  v0 := Try.zeroValue0
  t3 := Try.underlying3
  a3 := Try.isAgg3
  z3 := Try.sizeOf3
  v3 := Try.zeroValue3
  t9 := Try.underlying9
  a9 := Try.isAgg9
  z9 := Try.sizeOf9
  v9 := Try.zeroValue9
  t37 := Try.underlying22
  a37 := Try.isAgg22
  z37 := Try.sizeOf22
  v37 := Try.zeroValue22
  t70 := Try.underlying81
  a70 := Try.isAgg81
  z70 := Try.sizeOf81
  v70 := Try.zeroValue81
  t72 := Try.underlying83
  a72 := Try.isAgg83
  z72 := Try.sizeOf83
  v72 := Try.zeroValue83
  t127 := Try.underlying90
  a127 := Try.isAgg90
  z127 := Try.sizeOf90
  v127 := Try.zeroValue90 }
theorem Try.Builder_Extra_169 : Builder.Extra Try.prog Try.lays169_ren := {
  sizeBuilder := by kernel_rfl
  liesBuilder := by kernel_rfl
  t5 := Try.underlying5
  a5 := Try.isAgg5
  z5 := Try.sizeOf5
  v5 := Try.zeroValue5
  infoByte := by kernel_rfl
  cellsByte := by kernel_rfl
  sizeByte := by kernel_rfl
  neB5 := by decide }
open Go.RowKit in
/-- (*strings.Builder).String: "String returns the accumulated string.": OF A BUILDER THAT HOLDS AT LEAST ONE BYTE. ✋ THE MODEL FREEZES THOSE BYTES IN THE BUFFER (unsafe.String): a later write INTO them ends the model's run without an answer; a later append BEHIND them goes on. The statement's order of evaluation is drawn: one draw. (LAID: no walk: one application.) -/
theorem Try.Builder_String (B b : Nat) (l : List UInt8) (w : World) (h : Lib.IsBuilder 83 5 B b (Lib.byteCells l) w) (h0 : l ≠ []) :
    Calls Try.prog 60 #[.pointer (some ⟨b, 0, none⟩)] w fun e w' => e = .returned (.string ⟨l.toArray⟩) ∧ Below B w w' := Any.Builder_String Try.lays169 Try.Builder_Extra_169 B b l w h h0
open Go.RowKit in
/-- (*strings.Builder).String OF A BUILDER THAT HOLDS NO BYTE: the empty string. (Its buffer is nil, or a row of which it has taken nothing yet; where that row has NO capacity the model lays one new block for unsafe.SliceData's 'some address'.) One draw. (LAID: no walk: one application.) -/
theorem Try.Builder_String_empty (B b : Nat) (w : World) (h : Lib.IsBuilder 83 5 B b [] w) (hBw : B ≤ w.heap.size) :
    Calls Try.prog 60 #[.pointer (some ⟨b, 0, none⟩)] w fun e w' => e = .returned (.string ⟨#[]⟩) ∧ Below B w w' := Any.Builder_String_empty Try.lays169 Try.Builder_Extra_169 B b w h hBw
open Go.RowKit in
/-- (*strings.Builder).String: "String returns the accumulated string.": WHATEVER THE BUILDER HOLDS. (LAID: no walk: one application.) -/
theorem Try.Builder_String_any (B b : Nat) (l : List UInt8) (w : World) (h : Lib.IsBuilder 83 5 B b (Lib.byteCells l) w) (hBw : B ≤ w.heap.size) :
    Calls Try.prog 60 #[.pointer (some ⟨b, 0, none⟩)] w fun e w' => e = .returned (.string ⟨l.toArray⟩) ∧ Below B w w' := Any.Builder_String_any Try.lays169 Try.Builder_Extra_169 B b l w h hBw
end Go.Proofs

namespace Go.Proofs.Ytmlmnikafikchaa.P
open Go.RowKit Go.Proofs.YtmlmnikafikchaaW.PrintWords Go.Proofs.YtmlmnikafikchaaW.PrintLast Go.Proofs.YtmlmnikafikchaaW.PrintMore
attribute [local go_sem] max2_int min2_int max_two min_two max_three min_three max_four min_four   -- for this text's walks alone
set_option linter.unusedVariables false
set_option linter.unusedSimpArgs false

def errW : Option Int → Value
  | none => .nilIface
  | some c => .iface 0 (.int .i64 c)
theorem errW_none : errW none = .nilIface := rfl
theorem errW_some (c : Int) : errW (some c) = .iface 0 (.int .i64 c) := rfl

theorem bne_f {a b : Bool} (h : ¬ (a != b) = true) : (a == b) = true := by cases a <;> cases b <;> simp_all
theorem bne_t {a b : Bool} (h : (a != b) = true) : (a == b) = false := by cases a <;> cases b <;> simp_all
theorem bne_ft {a : Bool} (h : ¬ (a != (!false)) = true) : (!a) = false := by cases a <;> simp_all
theorem bne_tt {a : Bool} (h : (a != (!false)) = true) : (!a) = true := by cases a <;> simp_all

theorem info3 : (Try.prog.info? 3).map (fun i => (i.zero, i.size, i.bytes)) = some (some (.int .i64 0), 1, 8) := by kernel_rfl
theorem info4 : (Try.prog.info? 4).map (fun i => (i.zero, i.size, i.bytes)) = some (some (.bool false), 1, 1) := by kernel_rfl
theorem info5 : (Try.prog.info? 5).map (fun i => (i.zero, i.size, i.bytes)) = some (some (.int .u8 0), 1, 1) := by kernel_rfl
theorem info39 : (Try.prog.info? 39).map (fun i => (i.zero, i.size, i.bytes)) = some (some (.agg #[(.int .i64 0), (.int .i64 0)]), 2, 16) := by kernel_rfl
theorem info59 : (Try.prog.info? 59).map (fun i => (i.zero, i.size, i.bytes)) = some (some (.slice none 0 0), 1, 24) := by kernel_rfl
-- the values' own types
def rd_L2 (xs : List (List Int)) (i : Int) : (List Int) := xs.getD i.toNat ([] : List Int)
theorem at_L2 {w : World} {A : Option Addr} {n : Nat} {xs : List (List Int)} (h : Kd.C (Kd.slice 3 (Kd.int .i64)) w A n xs) (i : Int) (h0 : 0 ≤ i) (h1 : i < n) : ∃ ad A0 c0, A = some ad ∧ w.cell? (ad.add i.toNat) = some (.slice A0 (rd_L2 xs i).length c0) ∧ (rd_L2 xs i).length ≤ c0 ∧ (Kd.int .i64).C w A0 (rd_L2 xs i).length (rd_L2 xs i) := by
  obtain ⟨ad, c, e, _, hK, hc0⟩ := Kd.C_get h ([] : List Int) i h0 h1
  have hc : ∀ j u, c[j]? = some u → w.cell? (ad.add (i.toNat * 1 + j)) = some u := hc0
  obtain ⟨A0, c0, rfl, l0, g0⟩ := hK
  exact ⟨ad, A0, c0, e, by have hq := hc 0 _ rfl; rwa [Nat.mul_one, Nat.add_zero] at hq, l0, g0⟩

/-! #### struct type 39 -/
structure S39 where
  f0 : Int
  f1 : Int
def z39 : S39 := ⟨(0 : Int), (0 : Int)⟩
def k39 : Kd S39 := Kd.iso (Kd.pair (Kd.int .i64) (Kd.int .i64)) (fun x : S39 => (x.f0, x.f1))
theorem k39_heap : Kd.Heap k39 := Kd.heap_iso _ (Kd.heap_pair (Kd.heap_int .i64) (Kd.heap_int .i64))
theorem k39_open {w : World} {x : S39} {cs : List Value} (h : k39.K w x cs) : cs = [.int .i64 x.f0, .int .i64 x.f1] := by
  obtain ⟨_, _, rfl, rfl, rfl⟩ := h
  exact rfl
theorem k39_openM {w : World} {base : Nat} {ok : Nat → Prop} {x : S39} {cs : List Value} (h : k39.M w base ok x cs) : cs = [.int .i64 x.f0, .int .i64 x.f1] := by
  obtain ⟨_, _, rfl, rfl, rfl⟩ := h
  exact rfl
theorem k39_mk (w : World) (x : S39)  : k39.K w x [.int .i64 x.f0, .int .i64 x.f1] := ⟨[.int .i64 x.f0], [.int .i64 x.f1], rfl, rfl, rfl⟩
theorem k39_mkM (w : World) (base : Nat) (ok : Nat → Prop) (x : S39)  : k39.M w base ok x [.int .i64 x.f0, .int .i64 x.f1] := ⟨[.int .i64 x.f0], [.int .i64 x.f1], rfl, rfl, rfl⟩
theorem k39_mkF (W : World) (ok : Nat → Prop) (x : S39) : Kd.FK k39 W ok x [.int .i64 x.f0, .int .i64 x.f1] := fun W2 _ => k39_mk W2 x
def rd_T39 (xs : List S39) (i : Int) : S39 := xs.getD i.toNat z39
theorem at_T39 {w : World} {A : Option Addr} {n : Nat} {xs : List S39} (h : Kd.C k39 w A n xs) (i : Int) (h0 : 0 ≤ i) (h1 : i < n) : ∃ ad , A = some ad ∧ w.cell? (ad.add (i.toNat * 2)) = some (.int .i64 (rd_T39 xs i).f0) ∧ w.cell? ⟨(ad.add (i.toNat * 2)).block, (ad.add (i.toNat * 2)).off + 1, none⟩ = some (.int .i64 (rd_T39 xs i).f1) := by
  obtain ⟨ad, c, e, _, hK, hc0⟩ := Kd.C_get h z39 i h0 h1
  have hc : ∀ j u, c[j]? = some u → w.cell? (ad.add (i.toNat * 2 + j)) = some u := hc0
  obtain rfl := k39_open hK
  exact ⟨ad, e, hc 0 _ rfl, by rw [← add_field _ _ 1 (by omega)]; exact hc 1 _ rfl⟩

end Go.Proofs.Ytmlmnikafikchaa.P

-- '[]byte(s)': a new row of bytes, which is only read.
namespace Go.Proofs.Ytmlmnikafikchaa.P
open Go.RowKit Go.Proofs.YtmlmnikafikchaaW.PrintWords Go.Proofs.YtmlmnikafikchaaW.PrintLast Go.Proofs.YtmlmnikafikchaaW.PrintMore
set_option linter.unusedVariables false
set_option linter.unusedSimpArgs false

def bytesConv.f (a0 : ByteArray) : Option (List Int) := if a0.size ≤ 70368744177664 then some (bytesOf a0) else none

theorem conv_event {P : Program} {ops : Array Oper} {rest : List Oper} {o : Oper} {a : Act} {Q : Exit → Act → World → Prop} {W : World} (N : Tmp) (hd : o.dst = some N) (hg : o.guard = none) (T t e : TypeId) {u : TypeDesc}
    (hs : P.underlying T = some u) (ht : P.underlying t = some (.slice e)) (he : P.underlying e = some (.int .u8)) (s : ByteArray) {r : List Int} (hr : bytesConv.f s = some r) (ho : ∃ x, o.op = .convert T t x ∧ a.eval x = .string s)
    (h : ∀ v w1, Kd.V (Kd.int .u8) e w1 W.heap.size (fun k_ => W.heap.size ≤ k_) v r → Below W.heap.size W w1 → wpList P ops Q rest (a.put (some N) v) w1) : wpList P ops Q (o :: rest) a W := by
  obtain ⟨x, hx, hv⟩ := ho
  unfold bytesConv.f at hr
  by_cases hsz : s.size ≤ 70368744177664
  · rw [if_pos hsz] at hr
    injection hr with hr
    subst hr
    have hrun : (execOp a.eval o).run P W = .ok (.value (.slice (some ⟨W.heap.size, 0, none⟩) s.size (grownCap W s.size 0 e))) (Lib.bytesWorld W e s) := by
      have hp := print_bytes T t e hs ht he s W
      unfold execOp
      simp only [hx, hv, Sem.run_bind, Sem.run_pure, hp, Result.andThen_ok]
    rw [← hd] at h
    refine Kd.event_run hg hrun (h _ _ ?_ ?_)
    · refine ⟨_, _, by rw [bytesOf_length], ?_, ?_⟩
      · rw [bytesOf_length]; exact grownCap_ge _ _ _ _
      · rw [bytesOf_length]
        intro W' hW
        have h1 := bytes_reads W e s (by omega)
        have hb : W'.heap[W.heap.size]? = (Lib.bytesWorld W e s).heap[W.heap.size]? := hW _ (Nat.le_refl _) (by rw [Lib.bytesWorld_size]; omega)
        refine Kd.C_of_reads (d := (0 : Int)) (h1 := fun _ => rfl) ?_
        obtain ⟨g1, g2, g3⟩ := h1
        refine ⟨g1, g2, fun hp => ?_⟩
        obtain ⟨ad, had, hc⟩ := g3 hp
        refine ⟨ad, had, fun j hj => ?_⟩
        rw [← hc j hj]
        injection had with had
        subst had
        have hbk : ((⟨W.heap.size, 0, none⟩ : Addr).add j).block = W.heap.size := by unfold Addr.add; split <;> rfl
        unfold World.cell?
        rw [hbk, hb]
    · exact bytes_below (Below.refl _ _) (Nat.le_refl _) e s
  · rw [if_neg hsz] at hr; cases hr
end Go.Proofs.Ytmlmnikafikchaa.P

-- clear over rows: what stands ahead of it stands.
namespace Go.Proofs.Ytmlmnikafikchaa.P
open Go.RowKit Go.Proofs.YtmlmnikafikchaaW.PrintWords Go.Proofs.YtmlmnikafikchaaW.PrintLast Go.Proofs.YtmlmnikafikchaaW.PrintMore
set_option linter.unusedVariables false
set_option linter.unusedSimpArgs false

theorem setCells_heap (g : Nat) {t : TypeId} : ∀ (vs : List Value) (o : Nat) (w : World) (cs : Array Value), w.heap[g]? = some (.cells cs t (0, 0)) →
    ∃ cs' : Array Value, (w.setCells g o vs).heap[g]? = some (.cells cs' t (0, 0)) ∧ cs'.size = cs.size ∧ ∀ q, q < o → cs'[q]? = cs[q]?
  | [], o, w, cs, h => ⟨cs, h, rfl, fun q _ => rfl⟩
  | v :: r, o, w, cs, h => by
    obtain ⟨cs', h1, h2, h3⟩ := setCells_heap g r (o + 1) (w.setCell ⟨g, o, none⟩ v) (cs.setIfInBounds o v) (blk_put h o v rfl)
    refine ⟨cs', h1, by rw [h2, Array.size_setIfInBounds], fun q hq => ?_⟩
    rw [h3 q (by omega), Array.getElem?_setIfInBounds, if_neg (by omega)]
theorem rows_cleared {W : World} {base g n c : Nat} {ok : Nat → Prop} {xs : List S39} (h : Kd.R k39 39 W base ok (.slice (some ⟨g, 0, none⟩) n c) xs) {i : Nat} (hi : i ≤ xs.length) (vs : List Value) :
    Kd.R k39 39 (W.setCells g (i * 2) vs) base ok (.slice (some ⟨g, 0, none⟩) i c) (xs.take i) := by
  have h' := Kd.R_take h hi
  obtain ⟨h0, inner, ho, hr⟩ := h'
  refine ⟨h0, inner, ⟨ho.1, ?_⟩, ⟨hr.1, fun j p hj => ?_⟩⟩
  · have hl : (xs.take i).length = i := by rw [List.length_take]; omega
    rcases ho.2 with ⟨hv, _⟩ | ⟨g', cap', cur, hv, hb, hh, hle, hcm, hcs, htake⟩
    · cases hv
    · simp only [Value.slice.injEq, Option.some.injEq, Addr.mk.injEq] at hv
      obtain ⟨⟨hg, _⟩, hn, hc⟩ := hv
      subst hg
      obtain ⟨cs', a1, a2, a3⟩ := setCells_heap g vs (i * 2) W cur hh
      refine .inr ⟨g, cap', cs', by rw [hl, hc], hb, a1, hle, hcm, by rw [a2]; exact hcs, ?_⟩
      rw [← htake, hl]
      apply List.ext_getElem?
      intro q
      rw [List.getElem?_take, List.getElem?_take]
      by_cases hq : q < i * 2
      · have hq2 : q < i * k39.sz := hq
        rw [if_pos hq2, if_pos hq2, Array.getElem?_toList, Array.getElem?_toList]
        exact a3 q hq
      · have hq2 : ¬ q < i * k39.sz := hq
        rw [if_neg hq2, if_neg hq2]
  · have := hr.2 j p hj
    obtain e := k39_openM this
    rw [e]
    exact k39_mkM _ _ _ p
theorem zeroCells_rows (m : Nat) : (Builtin.zeroCells #[.int .i64 0, .int .i64 0] m).toList = List.replicate (m * 2) (.int .i64 0) := by
  simp only [Builtin.zeroCells]
  apply List.ext_getElem
  · simp
  · intro q h1 h2
    simp only [Array.toList_map, List.getElem_map, List.getElem_replicate]
    generalize ((Array.range _).toList[q]'_) = z
    rcases (show z % 2 = 0 ∨ z % 2 = 1 by omega) with h | h
    · show (#[Value.int .i64 0, Value.int .i64 0] : Array Value)[z % 2]! = _
      rw [h]; rfl
    · show (#[Value.int .i64 0, Value.int .i64 0] : Array Value)[z % 2]! = _
      rw [h]; rfl
theorem clear_rows (W : World) (ty : TypeId) (g o m c : Nat) (hm : 0 < m) (hc : ∀ j, j < m * 2 → (W.cell? ⟨g, o + j, none⟩).isSome = true) (hf : ∀ j, j < m * 2 → W.frozen? ⟨g, o + j, none⟩ = false) :
    (Builtin.clear_ #[34] ty #[.slice (some ⟨g, o, none⟩) m c]).run Try.prog W = .ok (.tuple #[]) (W.setCells g o (List.replicate (m * 2) (.int .i64 0))) := by
  have hv : ∀ w, (zeroValue 39).run Try.prog w = .ok (.agg #[.int .i64 0, .int .i64 0]) w := fun w => by
    obtain ⟨i0, hi, hz⟩ := Option.map_eq_some_iff.1 info39
    simp only [Prod.mk.injEq] at hz
    simp [zeroValue, typeInfo, hi, hz.1]
  have hst := run_storeCells_cells (P := Try.prog) g o (List.replicate (m * 2) (.int .i64 0)) 0 W (by simpa using hc) (by simpa using hf) (by intro v hv'; rw [List.eq_of_mem_replicate hv']; rfl)
  simp only [Nat.add_zero] at hst
  obtain ⟨m, rfl⟩ : ∃ k, m = k + 1 := ⟨m - 1, by omega⟩
  have hzc := zeroCells_rows (m + 1)
  simp [Builtin.clear_, run_underlying Try.underlying34, hv, Value.cells, hzc, hst]
end Go.Proofs.Ytmlmnikafikchaa.P

-- A row of rows: what it holds in the heap, and an element written anew.
namespace Go.Proofs.Ytmlmnikafikchaa.P
open Go.RowKit Go.Proofs.YtmlmnikafikchaaW.PrintWords Go.Proofs.YtmlmnikafikchaaW.PrintLast Go.Proofs.YtmlmnikafikchaaW.PrintMore
set_option linter.unusedVariables false
set_option linter.unusedSimpArgs false

theorem rows_heap {W : World} {base g n c : Nat} {ok : Nat → Prop} {xs : List S39} (h : Kd.R k39 39 W base ok (.slice (some ⟨g, 0, none⟩) n c) xs) :
    base ≤ g ∧ n = xs.length ∧ n ≤ c ∧ ∃ cur, W.heap[g]? = some (.cells cur 39 (0, 0)) ∧ xs.length * 2 ≤ cur.size := by
  have hn0 := Kd.R_reads' h
  obtain ⟨h0, inner, ho, hr⟩ := h
  rcases ho.2 with ⟨hv, _⟩ | ⟨g', cap', cur, hv, hb, hh, hle, hcm, hcs, htake⟩
  · cases hv
  · simp only [Value.slice.injEq, Option.some.injEq, Addr.mk.injEq] at hv
    obtain ⟨⟨hg, _⟩, hn, hc⟩ := hv
    subst hg
    have hil : inner.length = xs.length * 2 := hr.1
    rw [← htake, List.length_take] at hil
    have : cur.toList.length = cur.size := rfl
    exact ⟨hb, hn, hn0.2.1, cur, hh, by omega⟩
theorem rows_put {W : World} {base g n c : Nat} {ok : Nat → Prop} {xs : List S39} (h : Kd.R k39 39 W base ok (.slice (some ⟨g, 0, none⟩) n c) xs) {i : Nat} (hi : i < xs.length) (y : S39) :
    Kd.R k39 39 ((W.setCell ⟨g, i * 2, none⟩ (.int .i64 y.f0)).setCell ⟨g, i * 2 + 1, none⟩ (.int .i64 y.f1)) base ok (.slice (some ⟨g, 0, none⟩) n c) (xs.set i y) := by
  obtain ⟨h0, inner, ho, hr⟩ := h
  have hil : inner.length = xs.length * 2 := hr.1
  refine ⟨h0, (inner.set (i * 2) (.int .i64 y.f0)).set (i * 2 + 1) (.int .i64 y.f1), ⟨?_, ?_⟩, ⟨?_, fun j p hj => ?_⟩⟩
  · rw [List.length_set, List.length_set, List.length_set]; exact ho.1
  · rcases ho.2 with ⟨hv, _⟩ | ⟨g', cap', cur, hv, hb, hh, hle, hcm, hcs, htake⟩
    · cases hv
    · simp only [Value.slice.injEq, Option.some.injEq, Addr.mk.injEq] at hv
      obtain ⟨⟨hg, _⟩, hn, hc⟩ := hv
      subst hg
      refine .inr ⟨g, cap', (cur.setIfInBounds (i * 2) (.int .i64 y.f0)).setIfInBounds (i * 2 + 1) (.int .i64 y.f1), by rw [List.length_set, hn, hc], hb, blk_put (blk_put hh _ _ rfl) _ _ rfl, by rw [List.length_set]; exact hle, hcm, by rw [Array.size_setIfInBounds, Array.size_setIfInBounds]; exact hcs, ?_⟩
      rw [List.length_set, ← htake, Array.toList_setIfInBounds, Array.toList_setIfInBounds, List.take_set, List.take_set]
  · rw [List.length_set, List.length_set, List.length_set]; exact hil
  · by_cases hji : j = i
    · subst hji
      rw [List.getElem?_set_self hi, Option.some.injEq] at hj
      subst hj
      have e : (((inner.set (j * 2) (.int .i64 y.f0)).set (j * 2 + 1) (.int .i64 y.f1)).drop (j * 2)).take 2 = [.int .i64 y.f0, .int .i64 y.f1] := by
        apply List.ext_getElem?
        intro q
        rw [List.getElem?_take]
        by_cases hq : q < 2
        · rw [if_pos hq, List.getElem?_drop, List.getElem?_set]
          rcases (show q = 0 ∨ q = 1 by omega) with rfl | rfl
          · rw [if_neg (by omega), Nat.add_zero, List.getElem?_set_self (by omega)]; rfl
          · rw [if_pos rfl, if_pos (by rw [List.length_set]; omega)]; rfl
        · rw [if_neg hq]
          have : ¬ q < [Value.int .i64 y.f0, Value.int .i64 y.f1].length := hq
          rw [List.getElem?_eq_none (by omega)]
      show Kd.M _ _ _ _ _ ((List.drop (j * 2) _).take 2)
      rw [e]
      exact k39_mkM _ _ _ y
    · rw [List.getElem?_set_ne (fun h => hji h.symm)] at hj
      have h1 := hr.2 j p hj
      have e : (((inner.set (i * 2) (.int .i64 y.f0)).set (i * 2 + 1) (.int .i64 y.f1)).drop (j * 2)).take 2 = (inner.drop (j * 2)).take 2 := by
        apply List.ext_getElem?
        intro q
        rw [List.getElem?_take, List.getElem?_take]
        by_cases hq : q < 2
        · rw [if_pos hq, if_pos hq, List.getElem?_drop, List.getElem?_drop, List.getElem?_set_ne (by omega), List.getElem?_set_ne (by omega)]
        · rw [if_neg hq, if_neg hq]
      show Kd.M _ _ _ _ _ ((List.drop (j * 2) _).take 2)
      rw [e]
      have h2 : Kd.M k39 _ _ _ p ((inner.drop (j * 2)).take 2) := h1
      obtain e2 := k39_openM h2
      rw [e2]
      exact k39_mkM _ _ _ p
end Go.Proofs.Ytmlmnikafikchaa.P

-- slices.Clone at []bool: a new row of the same elements.
namespace Go.Proofs.Ytmlmnikafikchaa.P
open Go.RowKit Go.Proofs.YtmlmnikafikchaaW.PrintWords Go.Proofs.YtmlmnikafikchaaW.PrintLast Go.Proofs.YtmlmnikafikchaaW.PrintMore
set_option linter.unusedVariables false
set_option linter.unusedSimpArgs false

def slices_Clone_bool_bool.f (l0 : List Bool) : Option (List Bool) := if l0.length ≤ 70368744177664 then some l0 else none

set_option maxHeartbeats 4000000 in
set_option maxRecDepth 100000 in
theorem slices_Clone_bool_bool.calls (A0 : Option Addr) (c0 : Nat) (l0 : List Bool) (r : List Bool) (w : World) (hr0 : Kd.C Kd.bool w A0 l0.length l0) (hc0 : l0.length ≤ c0) (h : slices_Clone_bool_bool.f l0 = some r) :
    Calls Try.prog 55 #[.slice A0 l0.length c0] w fun e w' => ∃ v0_ : Value, e = .returned (v0_) ∧ Kd.R Kd.bool 4 w' w.heap.size (fun _ => True) v0_ r ∧ Below w.heap.size w w' := by
  have hlen : l0.length ≤ 70368744177664 := by
    unfold slices_Clone_bool_bool.f at h
    split at h
    · assumption
    · cases h
  obtain rfl : l0 = r := by
    unfold slices_Clone_bool_bool.f at h
    rw [if_pos hlen] at h
    injection h
  have hq : ∀ (w : World) (a : Option Addr) (n c n' c' : Nat), (binOp .eql 49 (.slice a n c) (.slice none n' c')).run Try.prog w = .ok (.bool a.isNone) w := fun w a n c n' c' => Lib.run_eql_slice_nil w _ _ a n c n' c' Try.underlying49
  have HR := Aside0.mk hr0
  clear hr0 h
  cases A0 with
  | none =>
    have h0 : l0 = [] := by
      rcases Nat.eq_zero_or_pos l0.length with h | h
      · exact List.eq_nil_of_length_eq_zero h
      · obtain ⟨ad, e, _⟩ := HR.out.2.2 h
        cases e
    subst h0
    go_enter Try.func55, Try.ntmps55
    go_wp2
    go_ret
    exact ⟨_, rfl, Kd.R_nil _ _ _ _ _, Below.refl _ _⟩
  | some ad =>
    have HL := Aside0.mk hlen
    clear hlen hc0
    go_enter Try.func55, Try.ntmps55
    go_wp2_with (first | ((with_reducible refine gate_dst (N := 5) rfl ?_); refine Kd.R_lit Kd.bool w.heap.size 4 ?hg (N := 5) ?hd (xs := ([] : List Bool)) (inner := []) (ok := fun _ => True) (okp := fun _ => True) ?hr ?hp (fun _ hk => hk) trivial (Below.refl _ _) (Nat.le_refl _) (by simp) ?_; (case hd => rfl); (case hg => rfl); (case hr => first | (go_simp; done) | (go_simp; rfl)); (case hp => exact (Reps.none _ _)); intro v1 w1 ho1 hb1 hg1 hn1; have HO := Aside0.mk ho1; have HB := Aside0.mk hb1; clear ho1 hb1 hg1 hn1) | ((with_reducible refine gate_builtin (b := .append) (xs := #[.tmp 5, .tmp 6]) rfl ?_); refine Kd.R_append_row Value.bool false (h1 := fun _ => rfl) (w0 := w) w.heap.size rfl (.tmp 5) (.tmp 6) 49 4 (.bool false) 1 rfl Try.underlying49 info4 rfl (by decide) v1 [] l0 (some ad) l0.length c0 (fun _ => True) rfl rfl (fun _ _ => trivial) HO.out (Kd.C_below HR.out HB.out) HB.out HB.out.size (by have := HL.out; simp; omega) ?_; intro v2 w2 ho2 hb2 hg2 hat2; have HO2 := Aside0.mk ho2; have HB2 := Aside0.mk hb2; clear ho2 hb2 hg2 hat2))
    go_ret
    exact ⟨_, rfl, by have h := HO2.out; rw [List.nil_append] at h; exact h, HB2.out⟩
end Go.Proofs.Ytmlmnikafikchaa.P

namespace Go.Proofs.Ytmlmnikafikchaa.P
open Go.RowKit Go.Proofs.YtmlmnikafikchaaW.PrintWords Go.Proofs.YtmlmnikafikchaaW.PrintLast Go.Proofs.YtmlmnikafikchaaW.PrintMore
attribute [local go_sem] max2_int min2_int max_two min_two max_three min_three max_four min_four   -- for this text's walks alone
set_option linter.unusedVariables false
set_option linter.unusedSimpArgs false

/-! ### impl_gcd: function 33 -/
def impl_gcd.l0:Nat→Int→Int→Option (Int)
 | 0,_,_=>none
 | k+1,x0,x1=>if x1=0 then (some x0) else (impl_gcd.l0 k x1 (Int.tmod x0 x1))
def impl_gcd.f (k:Nat) (a0:Int) (a1:Int):Option (Int):=impl_gcd.l0 k a0 a1
theorem impl_gcd.mono_l:∀ k,(∀ y0 y1,LeO (impl_gcd.l0 k y0 y1) (impl_gcd.l0 (k+1) y0 y1))
 | 0=>fun _ _ r h=>by simp [impl_gcd.l0] at h
 | k+1=>by
  have ih0:=impl_gcd.mono_l k
  ·intro y0 y1
   unfold impl_gcd.l0
   repeat' first
   | (with_reducible exact ih0 _ _)
   | (with_reducible exact LeO.refl _)
   | (with_reducible exact LeO.none _)
   | (with_reducible refine LeO.ite ?_ ?_)
   | (with_reducible refine LeO.bind ?_ (fun _=>?_))
   | exact ih0 _ _
   | exact LeO.none _
   | refine LeO.ite ?_ ?_
   | refine LeO.bind ?_ (fun _=>?_)
theorem impl_gcd.mono:∀ a0 a1 k,LeO (impl_gcd.f k a0 a1) (impl_gcd.f (k+1) a0 a1):=by
 intro a0 a1 k
 have ih0:=impl_gcd.mono_l k
 unfold impl_gcd.f
 repeat' first
   | (with_reducible exact ih0 _ _)
   | (with_reducible exact LeO.refl _)
   | (with_reducible exact LeO.none _)
   | (with_reducible refine LeO.ite ?_ ?_)
   | (with_reducible refine LeO.bind ?_ (fun _=>?_))
   | exact ih0 _ _
   | exact LeO.none _
   | refine LeO.ite ?_ ?_
   | refine LeO.bind ?_ (fun _=>?_)
set_option maxHeartbeats 8000000 in
set_option maxRecDepth 100000 in
theorem impl_gcd.calls (k:Nat) (a0:Int) (a1:Int) (r:Int) (w:World) (h:impl_gcd.f k a0 a1=some r) :
  Calls Try.prog 33 #[.int .i64 a0,.int .i64 a1] w fun e w'=>e=.returned (.int .i64 r)∧Drawn0 w w':=by
 have H:(impl_gcd.l0 k a0 a1)=some r:=h
 clear h
 have H':=Aside0.mk H
 clear H
 go_enter Try.func33,Try.ntmps33
 go_wp2
 repeat (go_quiet (fail);try go_wp2)
 go_loopg [0,1] k (fun kq v0 v1 w'=>∃ (x0_1:Int) (x1_1:Int),v0=.int .i64 x0_1∧v1=.int .i64 x1_1∧Aside0 (impl_gcd.l0 kq x0_1 x1_1=some r)∧Aside0 (kq≤k)∧Drawn0 w w')
 case atStart=>exact ⟨(a0),(a1),(by first|rfl|(simp;done)|(simp [*];done)|(simp [Int.tmod_eq_emod_of_nonneg];done)),(by first|rfl|(simp;done)|(simp [*];done)|(simp [Int.tmod_eq_emod_of_nonneg];done)),H',⟨Nat.le_refl _⟩,by repeat (first|exact Drawn0.refl _|apply Drawn0.step)⟩
 case round =>
  clear H'
  try clear p2
  obtain ⟨x0_1,x1_1,rfl,rfl,HA,HK1,⟨m1,rfl⟩⟩:=hrel
  cases gk with
  | zero=>exact absurd HA.out (by simp [impl_gcd.l0])
  | succ k1 =>
   have H:=HA.out
   clear HA
   simp only [impl_gcd.l0] at H
   by_cases c3:x1_1=0
   ·rw [if_pos c3] at H
    have c3b0:(x1_1 == 0)=true:=beq_iff_eq.mpr c3
    have c3b1:(x1_1 != 0)=false:=bne_eq_false_iff_eq.mpr c3
    clear c3
    obtain rfl:=Option.some.inj H
    go_wp2
    repeat (go_quiet (fail);try go_wp2)
    go_ret
    exact ⟨by first|rfl|(simp;done)|(simp [*];done),by repeat (first|exact Drawn0.refl _|apply Drawn0.step)⟩
   ·rw [if_neg c3] at H
    have c3b0:(x1_1 == 0)=false:=beq_eq_false_iff_ne.mpr c3
    have c3b1:(x1_1 != 0)=true:=bne_iff_ne.mpr c3
    have H':=Aside0.mk H
    clear H
    go_wp2
    repeat (go_quiet (fail);try go_wp2)
    go_roundg k1
    case measure=>have:=HK1.out;omega
    case rel=>exact ⟨(x1_1),(Int.tmod x0_1 x1_1),(by first|rfl|(simp;done)|(simp [*];done)|(simp [Int.tmod_eq_emod_of_nonneg];done)),(by first|rfl|(simp;done)|(simp [*];done)|(simp [Int.tmod_eq_emod_of_nonneg];done)),H',⟨by have:=HK1.out;omega⟩,by repeat (first|exact Drawn0.refl _|apply Drawn0.step)⟩

end Go.Proofs.Ytmlmnikafikchaa.P

namespace Go.Proofs.Ytmlmnikafikchaa.P
open Go.RowKit Go.Proofs.YtmlmnikafikchaaW.PrintWords Go.Proofs.YtmlmnikafikchaaW.PrintLast Go.Proofs.YtmlmnikafikchaaW.PrintMore
attribute [local go_sem] max2_int min2_int max_two min_two max_three min_three max_four min_four   -- for this text's walks alone
set_option linter.unusedVariables false
set_option linter.unusedSimpArgs false

/-! ### impl_in: function 31 -/
def impl_in.f (a0:Int) (a1:Int) (a2:Int):Option (Bool):=if a0 ≥ a1 then (some (decide (a0≤a2))) else (some false)
set_option maxHeartbeats 8000000 in
set_option maxRecDepth 100000 in
theorem impl_in.calls (a0:Int) (a1:Int) (a2:Int) (r:Bool) (w:World) (h:impl_in.f a0 a1 a2=some r) :
  Calls Try.prog 31 #[.int .i64 a0,.int .i64 a1,.int .i64 a2] w fun e w'=>e=.returned (.bool r)∧Drawn0 w w':=by
 have H:(if a0 ≥ a1 then (some (decide (a0≤a2))) else (some false))=some r:=h
 clear h
 by_cases c4:a0 ≥ a1
 ·rw [if_pos c4] at H
  have c4b0:decide (a1≤a0)=true:=decide_eq_true c4
  clear c4
  obtain rfl:=Option.some.inj H
  go_enter Try.func31,Try.ntmps31
  go_wp2
  go_ret
  exact ⟨by first|rfl|(simp;done)|(simp [*];done),by repeat (first|exact Drawn0.refl _|apply Drawn0.step)⟩
 ·rw [if_neg c4] at H
  have c4b0:decide (a1≤a0)=false:=decide_eq_false c4
  clear c4
  obtain rfl:=Option.some.inj H
  go_enter Try.func31,Try.ntmps31
  go_wp2
  go_ret
  exact ⟨by first|rfl|(simp;done)|(simp [*];done),by repeat (first|exact Drawn0.refl _|apply Drawn0.step)⟩

end Go.Proofs.Ytmlmnikafikchaa.P

namespace Go.Proofs.Ytmlmnikafikchaa.P
open Go.RowKit Go.Proofs.YtmlmnikafikchaaW.PrintWords Go.Proofs.YtmlmnikafikchaaW.PrintLast Go.Proofs.YtmlmnikafikchaaW.PrintMore
attribute [local go_sem] max2_int min2_int max_two min_two max_three min_three max_four min_four   -- for this text's walks alone
set_option linter.unusedVariables false
set_option linter.unusedSimpArgs false

/-! ### impl_prime: function 34 -/
def impl_prime.l0:Nat→Int→Int→Option (Int)
 | 0,_,_=>none
 | k+1,x0,x3=>if x3=0 then (none) else (if (Int.tmod x0 x3)=0 then (some x3) else (impl_prime.l0 k x0 (wrap64 (x3+1))))
def impl_prime.f (k:Nat) (a0:Int):Option (Int):=impl_prime.l0 k a0 2
theorem impl_prime.mono_l:∀ k,(∀ y0 y1,LeO (impl_prime.l0 k y0 y1) (impl_prime.l0 (k+1) y0 y1))
 | 0=>fun _ _ r h=>by simp [impl_prime.l0] at h
 | k+1=>by
  have ih0:=impl_prime.mono_l k
  ·intro y0 y1
   unfold impl_prime.l0
   repeat' first
   | (with_reducible exact ih0 _ _)
   | (with_reducible exact LeO.refl _)
   | (with_reducible exact LeO.none _)
   | (with_reducible refine LeO.ite ?_ ?_)
   | (with_reducible refine LeO.bind ?_ (fun _=>?_))
   | exact ih0 _ _
   | exact LeO.none _
   | refine LeO.ite ?_ ?_
   | refine LeO.bind ?_ (fun _=>?_)
theorem impl_prime.mono:∀ a0 k,LeO (impl_prime.f k a0) (impl_prime.f (k+1) a0):=by
 intro a0 k
 have ih0:=impl_prime.mono_l k
 unfold impl_prime.f
 repeat' first
   | (with_reducible exact ih0 _ _)
   | (with_reducible exact LeO.refl _)
   | (with_reducible exact LeO.none _)
   | (with_reducible refine LeO.ite ?_ ?_)
   | (with_reducible refine LeO.bind ?_ (fun _=>?_))
   | exact ih0 _ _
   | exact LeO.none _
   | refine LeO.ite ?_ ?_
   | refine LeO.bind ?_ (fun _=>?_)
set_option maxHeartbeats 8000000 in
set_option maxRecDepth 100000 in
theorem impl_prime.calls (k:Nat) (a0:Int) (r:Int) (w:World) (h:impl_prime.f k a0=some r) :
  Calls Try.prog 34 #[.int .i64 a0] w fun e w'=>e=.returned (.int .i64 r)∧Drawn0 w w':=by
 have H:(impl_prime.l0 k a0 2)=some r:=h
 clear h
 have H':=Aside0.mk H
 clear H
 go_enter Try.func34,Try.ntmps34
 go_wp2
 go_loopg [3] k (fun kq v3 w'=>∃ (x3_1:Int),v3=.int .i64 x3_1∧Aside0 (impl_prime.l0 kq a0 x3_1=some r)∧Aside0 (kq≤k)∧Drawn0 w w')
 case atStart=>exact ⟨(2),(by first|rfl|(simp;done)|(simp [*];done)|(simp [Int.tmod_eq_emod_of_nonneg];done)),H',⟨Nat.le_refl _⟩,by repeat (first|exact Drawn0.refl _|apply Drawn0.step)⟩
 case round =>
  clear H'
  obtain ⟨x3_1,rfl,HA,HK1,⟨m1,rfl⟩⟩:=hrel
  cases gk with
  | zero=>exact absurd HA.out (by simp [impl_prime.l0])
  | succ k1 =>
   have H:=HA.out
   clear HA
   simp only [impl_prime.l0] at H
   by_cases c2:x3_1=0
   ·rw [if_pos c2] at H
    exact absurd H (by simp)
   ·rw [if_neg c2] at H
    have c2b0:(x3_1 == 0)=false:=beq_eq_false_iff_ne.mpr c2
    have c2b1:(x3_1 != 0)=true:=bne_iff_ne.mpr c2
    by_cases c3:(Int.tmod a0 x3_1)=0
    ·rw [if_pos c3] at H
     have c3b0:((Int.tmod a0 x3_1) == 0)=true:=beq_iff_eq.mpr c3
     have c3b1:((Int.tmod a0 x3_1) != 0)=false:=bne_eq_false_iff_eq.mpr c3
     clear c3
     obtain rfl:=Option.some.inj H
     go_wp2
     go_ret
     exact ⟨by first|rfl|(simp;done)|(simp [*];done),by repeat (first|exact Drawn0.refl _|apply Drawn0.step)⟩
    ·rw [if_neg c3] at H
     have c3b0:((Int.tmod a0 x3_1) == 0)=false:=beq_eq_false_iff_ne.mpr c3
     have c3b1:((Int.tmod a0 x3_1) != 0)=true:=bne_iff_ne.mpr c3
     have H':=Aside0.mk H
     clear H
     go_wp2
     go_roundg k1
     case measure=>have:=HK1.out;omega
     case rel=>exact ⟨(wrap64 (x3_1+1)),(by first|rfl|(simp;done)|(simp [*];done)|(simp [Int.tmod_eq_emod_of_nonneg];done)),H',⟨by have:=HK1.out;omega⟩,by repeat (first|exact Drawn0.refl _|apply Drawn0.step)⟩

end Go.Proofs.Ytmlmnikafikchaa.P

namespace Go.Proofs.Ytmlmnikafikchaa.P
open Go.RowKit Go.Proofs.YtmlmnikafikchaaW.PrintWords Go.Proofs.YtmlmnikafikchaaW.PrintLast Go.Proofs.YtmlmnikafikchaaW.PrintMore
attribute [local go_sem] max2_int min2_int max_two min_two max_three min_three max_four min_four   -- for this text's walks alone
set_option linter.unusedVariables false
set_option linter.unusedSimpArgs false

/-! ### impl_row_meets: function 32 -/
def impl_row_meets.f (k:Nat) (a0_0:Int) (a0_1:Int) (a1_0:Int) (a1_1:Int):Option (Bool):=(impl_gcd.f k a0_1 a1_1).bind fun t199=>(if t199=0 then (none) else (some ((Int.tmod (wrap64 (a0_0 - a1_0)) t199) == 0)))
theorem impl_row_meets.mono:∀ a0 a1 a2 a3 k,LeO (impl_row_meets.f k a0 a1 a2 a3) (impl_row_meets.f (k+1) a0 a1 a2 a3):=by
 intro a0 a1 a2 a3 k
 unfold impl_row_meets.f
 repeat' first
   | (with_reducible exact impl_gcd.mono _ _ _)
   | (with_reducible exact LeO.refl _)
   | (with_reducible exact LeO.none _)
   | (with_reducible refine LeO.ite ?_ ?_)
   | (with_reducible refine LeO.bind ?_ (fun _=>?_))
   | exact impl_gcd.mono _ _ _
   | exact LeO.none _
   | refine LeO.ite ?_ ?_
   | refine LeO.bind ?_ (fun _=>?_)
set_option maxHeartbeats 8000000 in
set_option maxRecDepth 100000 in
theorem impl_row_meets.calls (k:Nat) (a0_0:Int) (a0_1:Int) (a1_0:Int) (a1_1:Int) (r:Bool) (w:World) (h:impl_row_meets.f k a0_0 a0_1 a1_0 a1_1=some r) :
  Calls Try.prog 32 #[.agg #[.int .i64 a0_0,.int .i64 a0_1],.agg #[.int .i64 a1_0,.int .i64 a1_1]] w fun e w'=>e=.returned (.bool r)∧Below w.heap.size w w':=by
 have hu39:=Try.underlying39
 have HB:=Aside0.mk (Below.refl w.heap.size w)
 have H:((impl_gcd.f k a0_1 a1_1).bind fun t199=>(if t199=0 then (none) else (some ((Int.tmod (wrap64 (a0_0 - a1_0)) t199) == 0))))=some r:=h
 clear h
 replace H:=Option.bind_eq_some_iff.mp H
 obtain ⟨t199,A30,H⟩:=H
 replace H:(if t199=0 then (none) else (some ((Int.tmod (wrap64 (a0_0 - a1_0)) t199) == 0)))=some r:=H
 have A3:=Aside0.mk A30
 clear A30
 by_cases c4:t199=0
 ·rw [if_pos c4] at H
  exact absurd H (by simp)
 ·rw [if_neg c4] at H
  have c4b0:(t199 == 0)=false:=beq_eq_false_iff_ne.mpr c4
  have c4b1:(t199 != 0)=true:=bne_iff_ne.mpr c4
  obtain rfl:=Option.some.inj H
  go_enter Try.func32,Try.ntmps32
  go_wp2_with (first|((with_reducible refine gate_dst (N:=2) rfl ?_);refine box_event ?hg (N:=2) ?hd (cs:=#[.int .i64 a0_0,.int .i64 a0_1]) (t:=39) ?hr ?_;(case hd=>rfl);(case hg=>rfl);(case hr=>first|(go_simp;done)|(go_simp;rfl));intro gb197 hg w5 hbox hb;have n0_:=Aside0.mk (yP (by repeat (first|(with_reducible first|exact HB.out|apply yA|apply yB|apply yC)|exact HB.out)) hb);have n1_:=Aside0.mk (hbox);have n2_:=Aside0.mk ((by rw [hg];exact (yQ (by repeat (first|(with_reducible first|exact HB.out|apply yA|apply yB|apply yC)|exact HB.out))):w.heap.size≤gb197));have n3_:=Aside0.mk ((by rw [hg];exact (yQ (by repeat (first|(with_reducible first|exact HB.out|apply yA|apply yB|apply yC)|exact HB.out))):w.heap.size≤gb197));clear HB;have HB:=n0_;have BK197:=n1_;have GW197:=n2_;have GE197:=n3_;clear n0_ n1_ n2_ n3_;clear hb hbox hg)|((with_reducible refine gate_dst (N:=3) rfl ?_);refine box_event ?hg (N:=3) ?hd (cs:=#[.int .i64 a1_0,.int .i64 a1_1]) (t:=39) ?hr ?_;(case hd=>rfl);(case hg=>rfl);(case hr=>first|(go_simp;done)|(go_simp;rfl));intro gb198 hg w6 hbox hb;have n0_:=Aside0.mk (blk_below (g:=gb197) (o:=.cells #[.int .i64 a0_0,.int .i64 a0_1] 39 (0,0)) (by (with_reducible repeat (first|refine yE ?_ _|refine yF ?_|refine yG ?_ _));exact BK197.out) hb);have n1_:=Aside0.mk (yP (by repeat (first|(with_reducible first|exact HB.out|apply yA|apply yB|apply yC|refine yD ?_ GE197.out)|exact HB.out)) hb);have n2_:=Aside0.mk (hbox);have n3_:=Aside0.mk ((by rw [hg];exact (yQ (by repeat (first|(with_reducible first|exact HB.out|apply yA|apply yB|apply yC|refine yD ?_ GE197.out)|exact HB.out))):w.heap.size≤gb198));have n4_:=Aside0.mk ((by rw [hg];exact (yQ (by repeat (first|(with_reducible first|exact HB.out|apply yA|apply yB|apply yC|refine yD ?_ GE197.out)|exact HB.out))):w.heap.size≤gb198));have n5_:=Aside0.mk ((by rw [hg];exact Nat.ne_of_lt (blk_lt (g:=gb197) (o:=.cells #[.int .i64 a0_0,.int .i64 a0_1] 39 (0,0)) (by (with_reducible repeat (first|refine yE ?_ _|refine yF ?_|refine yG ?_ _));exact BK197.out)):gb197≠gb198));have n6_:=Aside0.mk ((by rw [hg];exact Nat.ne_of_gt (blk_lt (g:=gb197) (o:=.cells #[.int .i64 a0_0,.int .i64 a0_1] 39 (0,0)) (by (with_reducible repeat (first|refine yE ?_ _|refine yF ?_|refine yG ?_ _));exact BK197.out)):gb198≠gb197));clear BK197;clear HB;have BK197:=n0_;have HB:=n1_;have BK198:=n2_;have GW198:=n3_;have GE198:=n4_;have NB197_198:=n5_;have NB198_197:=n6_;clear n0_ n1_ n2_ n3_ n4_ n5_ n6_;clear hb hbox hg;have hnb7:=NB197_198.out;have hnc7:=NB198_197.out;have hcz8_0:w6.cell? ⟨gb197,0,none⟩=some (.int .i64 a0_0):=(blk_cell BK197.out 0).trans rfl;have hcz8_1:w6.cell? ⟨gb197,1,none⟩=some (.int .i64 a0_1):=(blk_cell BK197.out 1).trans rfl;have hfz8_0:=blk_frozen BK197.out 0;have hfz8_1:=blk_frozen BK197.out 1;have hcz9_0:w6.cell? ⟨gb198,0,none⟩=some (.int .i64 a1_0):=(blk_cell BK198.out 0).trans rfl;have hcz9_1:w6.cell? ⟨gb198,1,none⟩=some (.int .i64 a1_1):=(blk_cell BK198.out 1).trans rfl;have hfz9_0:=blk_frozen BK198.out 0;have hfz9_1:=blk_frozen BK198.out 1)|(go_at_call 33;(with_reducible refine (impl_gcd.calls k a0_1 a1_1 t199 _ A3.out).mono ?_);rintro e w' ⟨rfl,⟨nd,rfl⟩⟩;(try first|exact ⟨rfl,_,World.drewN_drewN _ _ _⟩|exact ⟨rfl,_,Eq.trans (World.drewN_drewN _ _ _) (congrArg (World.drewN _) (Nat.add_assoc _ _ _))⟩)))
  repeat (go_quiet (first|((with_reducible refine gate_dst (N:=2) rfl ?_);refine box_event ?hg (N:=2) ?hd (cs:=#[.int .i64 a0_0,.int .i64 a0_1]) (t:=39) ?hr ?_;(case hd=>rfl);(case hg=>rfl);(case hr=>first|(go_simp;done)|(go_simp;rfl));intro gb197 hg w5 hbox hb;have n0_:=Aside0.mk (yP (by repeat (first|(with_reducible first|exact HB.out|apply yA|apply yB|apply yC)|exact HB.out)) hb);have n1_:=Aside0.mk (hbox);have n2_:=Aside0.mk ((by rw [hg];exact (yQ (by repeat (first|(with_reducible first|exact HB.out|apply yA|apply yB|apply yC)|exact HB.out))):w.heap.size≤gb197));have n3_:=Aside0.mk ((by rw [hg];exact (yQ (by repeat (first|(with_reducible first|exact HB.out|apply yA|apply yB|apply yC)|exact HB.out))):w.heap.size≤gb197));clear HB;have HB:=n0_;have BK197:=n1_;have GW197:=n2_;have GE197:=n3_;clear n0_ n1_ n2_ n3_;clear hb hbox hg)|((with_reducible refine gate_dst (N:=3) rfl ?_);refine box_event ?hg (N:=3) ?hd (cs:=#[.int .i64 a1_0,.int .i64 a1_1]) (t:=39) ?hr ?_;(case hd=>rfl);(case hg=>rfl);(case hr=>first|(go_simp;done)|(go_simp;rfl));intro gb198 hg w6 hbox hb;have n0_:=Aside0.mk (blk_below (g:=gb197) (o:=.cells #[.int .i64 a0_0,.int .i64 a0_1] 39 (0,0)) (by (with_reducible repeat (first|refine yE ?_ _|refine yF ?_|refine yG ?_ _));exact BK197.out) hb);have n1_:=Aside0.mk (yP (by repeat (first|(with_reducible first|exact HB.out|apply yA|apply yB|apply yC|refine yD ?_ GE197.out)|exact HB.out)) hb);have n2_:=Aside0.mk (hbox);have n3_:=Aside0.mk ((by rw [hg];exact (yQ (by repeat (first|(with_reducible first|exact HB.out|apply yA|apply yB|apply yC|refine yD ?_ GE197.out)|exact HB.out))):w.heap.size≤gb198));have n4_:=Aside0.mk ((by rw [hg];exact (yQ (by repeat (first|(with_reducible first|exact HB.out|apply yA|apply yB|apply yC|refine yD ?_ GE197.out)|exact HB.out))):w.heap.size≤gb198));have n5_:=Aside0.mk ((by rw [hg];exact Nat.ne_of_lt (blk_lt (g:=gb197) (o:=.cells #[.int .i64 a0_0,.int .i64 a0_1] 39 (0,0)) (by (with_reducible repeat (first|refine yE ?_ _|refine yF ?_|refine yG ?_ _));exact BK197.out)):gb197≠gb198));have n6_:=Aside0.mk ((by rw [hg];exact Nat.ne_of_gt (blk_lt (g:=gb197) (o:=.cells #[.int .i64 a0_0,.int .i64 a0_1] 39 (0,0)) (by (with_reducible repeat (first|refine yE ?_ _|refine yF ?_|refine yG ?_ _));exact BK197.out)):gb198≠gb197));clear BK197;clear HB;have BK197:=n0_;have HB:=n1_;have BK198:=n2_;have GW198:=n3_;have GE198:=n4_;have NB197_198:=n5_;have NB198_197:=n6_;clear n0_ n1_ n2_ n3_ n4_ n5_ n6_;clear hb hbox hg;have hnb7:=NB197_198.out;have hnc7:=NB198_197.out;have hcz8_0:w6.cell? ⟨gb197,0,none⟩=some (.int .i64 a0_0):=(blk_cell BK197.out 0).trans rfl;have hcz8_1:w6.cell? ⟨gb197,1,none⟩=some (.int .i64 a0_1):=(blk_cell BK197.out 1).trans rfl;have hfz8_0:=blk_frozen BK197.out 0;have hfz8_1:=blk_frozen BK197.out 1;have hcz9_0:w6.cell? ⟨gb198,0,none⟩=some (.int .i64 a1_0):=(blk_cell BK198.out 0).trans rfl;have hcz9_1:w6.cell? ⟨gb198,1,none⟩=some (.int .i64 a1_1):=(blk_cell BK198.out 1).trans rfl;have hfz9_0:=blk_frozen BK198.out 0;have hfz9_1:=blk_frozen BK198.out 1)|(go_at_call 33;(with_reducible refine (impl_gcd.calls k a0_1 a1_1 t199 _ A3.out).mono ?_);rintro e w' ⟨rfl,⟨nd,rfl⟩⟩;(try first|exact ⟨rfl,_,World.drewN_drewN _ _ _⟩|exact ⟨rfl,_,Eq.trans (World.drewN_drewN _ _ _) (congrArg (World.drewN _) (Nat.add_assoc _ _ _))⟩)));try go_wp2_with (first|((with_reducible refine gate_dst (N:=2) rfl ?_);refine box_event ?hg (N:=2) ?hd (cs:=#[.int .i64 a0_0,.int .i64 a0_1]) (t:=39) ?hr ?_;(case hd=>rfl);(case hg=>rfl);(case hr=>first|(go_simp;done)|(go_simp;rfl));intro gb197 hg w5 hbox hb;have n0_:=Aside0.mk (yP (by repeat (first|(with_reducible first|exact HB.out|apply yA|apply yB|apply yC)|exact HB.out)) hb);have n1_:=Aside0.mk (hbox);have n2_:=Aside0.mk ((by rw [hg];exact (yQ (by repeat (first|(with_reducible first|exact HB.out|apply yA|apply yB|apply yC)|exact HB.out))):w.heap.size≤gb197));have n3_:=Aside0.mk ((by rw [hg];exact (yQ (by repeat (first|(with_reducible first|exact HB.out|apply yA|apply yB|apply yC)|exact HB.out))):w.heap.size≤gb197));clear HB;have HB:=n0_;have BK197:=n1_;have GW197:=n2_;have GE197:=n3_;clear n0_ n1_ n2_ n3_;clear hb hbox hg)|((with_reducible refine gate_dst (N:=3) rfl ?_);refine box_event ?hg (N:=3) ?hd (cs:=#[.int .i64 a1_0,.int .i64 a1_1]) (t:=39) ?hr ?_;(case hd=>rfl);(case hg=>rfl);(case hr=>first|(go_simp;done)|(go_simp;rfl));intro gb198 hg w6 hbox hb;have n0_:=Aside0.mk (blk_below (g:=gb197) (o:=.cells #[.int .i64 a0_0,.int .i64 a0_1] 39 (0,0)) (by (with_reducible repeat (first|refine yE ?_ _|refine yF ?_|refine yG ?_ _));exact BK197.out) hb);have n1_:=Aside0.mk (yP (by repeat (first|(with_reducible first|exact HB.out|apply yA|apply yB|apply yC|refine yD ?_ GE197.out)|exact HB.out)) hb);have n2_:=Aside0.mk (hbox);have n3_:=Aside0.mk ((by rw [hg];exact (yQ (by repeat (first|(with_reducible first|exact HB.out|apply yA|apply yB|apply yC|refine yD ?_ GE197.out)|exact HB.out))):w.heap.size≤gb198));have n4_:=Aside0.mk ((by rw [hg];exact (yQ (by repeat (first|(with_reducible first|exact HB.out|apply yA|apply yB|apply yC|refine yD ?_ GE197.out)|exact HB.out))):w.heap.size≤gb198));have n5_:=Aside0.mk ((by rw [hg];exact Nat.ne_of_lt (blk_lt (g:=gb197) (o:=.cells #[.int .i64 a0_0,.int .i64 a0_1] 39 (0,0)) (by (with_reducible repeat (first|refine yE ?_ _|refine yF ?_|refine yG ?_ _));exact BK197.out)):gb197≠gb198));have n6_:=Aside0.mk ((by rw [hg];exact Nat.ne_of_gt (blk_lt (g:=gb197) (o:=.cells #[.int .i64 a0_0,.int .i64 a0_1] 39 (0,0)) (by (with_reducible repeat (first|refine yE ?_ _|refine yF ?_|refine yG ?_ _));exact BK197.out)):gb198≠gb197));clear BK197;clear HB;have BK197:=n0_;have HB:=n1_;have BK198:=n2_;have GW198:=n3_;have GE198:=n4_;have NB197_198:=n5_;have NB198_197:=n6_;clear n0_ n1_ n2_ n3_ n4_ n5_ n6_;clear hb hbox hg;have hnb7:=NB197_198.out;have hnc7:=NB198_197.out;have hcz8_0:w6.cell? ⟨gb197,0,none⟩=some (.int .i64 a0_0):=(blk_cell BK197.out 0).trans rfl;have hcz8_1:w6.cell? ⟨gb197,1,none⟩=some (.int .i64 a0_1):=(blk_cell BK197.out 1).trans rfl;have hfz8_0:=blk_frozen BK197.out 0;have hfz8_1:=blk_frozen BK197.out 1;have hcz9_0:w6.cell? ⟨gb198,0,none⟩=some (.int .i64 a1_0):=(blk_cell BK198.out 0).trans rfl;have hcz9_1:w6.cell? ⟨gb198,1,none⟩=some (.int .i64 a1_1):=(blk_cell BK198.out 1).trans rfl;have hfz9_0:=blk_frozen BK198.out 0;have hfz9_1:=blk_frozen BK198.out 1)|(go_at_call 33;(with_reducible refine (impl_gcd.calls k a0_1 a1_1 t199 _ A3.out).mono ?_);rintro e w' ⟨rfl,⟨nd,rfl⟩⟩;(try first|exact ⟨rfl,_,World.drewN_drewN _ _ _⟩|exact ⟨rfl,_,Eq.trans (World.drewN_drewN _ _ _) (congrArg (World.drewN _) (Nat.add_assoc _ _ _))⟩))))
  go_ret
  exact ⟨by first|rfl|(simp [errW_none,errW_some]<;>rfl)|(simp [*,errW_none,errW_some]<;>rfl)|(simp [errW_none,errW_some];exact ⟨rfl,rfl⟩),by repeat (first|(with_reducible first|exact HB.out|apply yA|apply yB|apply yC|refine yD ?_ GE197.out|refine yD ?_ GE198.out)|exact HB.out)⟩

end Go.Proofs.Ytmlmnikafikchaa.P

namespace Go.Proofs.Ytmlmnikafikchaa.P
open Go.RowKit Go.Proofs.YtmlmnikafikchaaW.PrintWords Go.Proofs.YtmlmnikafikchaaW.PrintLast Go.Proofs.YtmlmnikafikchaaW.PrintMore
attribute [local go_sem] max2_int min2_int max_two min_two max_three min_three max_four min_four   -- for this text's walks alone
set_option linter.unusedVariables false
set_option linter.unusedSimpArgs false

/-! ### impl_rowsOf: function 13 -/
def impl_rowsOf.l0:Nat→List (S39)→List (List Int)→Int→Int→Option ((List (S39)) × Bool)
 | 0,_,_,_,_=>none
 | k+1,x4,x7,x8,x9=>if x9<x8 then (if 0≤x9 then (if x9<(x7.length:Int) then (if ((rd_L2 x7 x9).length:Int)=2 then (if 0<((rd_L2 x7 x9).length:Int) then ((impl_in.f (rd (rd_L2 x7 x9) 0) 0 59).bind fun t189=>(if t189=true then (if 1<((rd_L2 x7 x9).length:Int) then ((impl_in.f (rd (rd_L2 x7 x9) 1) 0 60).bind fun t191=>(if t191=true then (if x4.length<8796093022208 then (impl_rowsOf.l0 k (x4++[(⟨rd (rd_L2 x7 x9) 0,rd (rd_L2 x7 x9) 1⟩:S39)]) x7 x8 (wrap64 (x9+1))) else (none)) else (some (([]:List (S39)),false)))) else (none)) else (some (([]:List (S39)),false)))) else (none)) else (some (([]:List (S39)),false))) else (none)) else (none)) else (some (x4,decide ((x4.length:Int)≤20)))
def impl_rowsOf.f (k:Nat) (l0:List (List Int)):Option ((List (S39)) × Bool):=impl_rowsOf.l0 k ([]:List (S39)) l0 (l0.length:Int) 0
theorem impl_rowsOf.mono_l:∀ k,(∀ y0 y1 y2 y3,LeO (impl_rowsOf.l0 k y0 y1 y2 y3) (impl_rowsOf.l0 (k+1) y0 y1 y2 y3))
 | 0=>fun _ _ _ _ r h=>by simp [impl_rowsOf.l0] at h
 | k+1=>by
  have ih0:=impl_rowsOf.mono_l k
  ·intro y0 y1 y2 y3
   unfold impl_rowsOf.l0
   repeat' first
   | (with_reducible exact ih0 _ _ _ _)
   | (with_reducible exact LeO.refl _)
   | (with_reducible exact LeO.none _)
   | (with_reducible refine LeO.ite ?_ ?_)
   | (with_reducible refine LeO.bind ?_ (fun _=>?_))
   | exact ih0 _ _ _ _
   | exact LeO.none _
   | refine LeO.ite ?_ ?_
   | refine LeO.bind ?_ (fun _=>?_)
theorem impl_rowsOf.mono:∀ a0 k,LeO (impl_rowsOf.f k a0) (impl_rowsOf.f (k+1) a0):=by
 intro a0 k
 have ih0:=impl_rowsOf.mono_l k
 unfold impl_rowsOf.f
 repeat' first
   | (with_reducible exact ih0 _ _ _ _)
   | (with_reducible exact LeO.refl _)
   | (with_reducible exact LeO.none _)
   | (with_reducible refine LeO.ite ?_ ?_)
   | (with_reducible refine LeO.bind ?_ (fun _=>?_))
   | exact ih0 _ _ _ _
   | exact LeO.none _
   | refine LeO.ite ?_ ?_
   | refine LeO.bind ?_ (fun _=>?_)
def impl_rowsOf.T7:Bool × List (List Nat × List Nat):=(true,[([],[]),([],[]),([1],[1]),([2],[2]),([],[]),([4],[4]),([5],[5]),([3,6],[3,6]),([7],[7]),([0,8],[0,8]),([9,9,0,1,2,3,4,5,6,7,8,9],[0,9])])
def impl_rowsOf.B7:List Nat:=[0,0,2,6,0,16,48,126,254,511,1023]
theorem impl_rowsOf.tab7:rtab .any (opsOf Try.f13 7)=impl_rowsOf.T7:=by kernel_rfl
theorem impl_rowsOf.bits7:waitsOk impl_rowsOf.T7.2 impl_rowsOf.B7=true:=by kernel_rfl
set_option maxHeartbeats 8000000 in
set_option maxRecDepth 100000 in
theorem impl_rowsOf.calls (k:Nat) (A0:Option Addr) (c0:Nat) (l0:List (List Int)) (r1:List (S39)) (r2:Bool) (w:World) (hr0:Kd.C (Kd.slice 3 (Kd.int .i64)) w A0 l0.length l0) (hc0:l0.length≤c0) (h:impl_rowsOf.f k l0=some (r1,r2)) :
  Calls Try.prog 13 #[.slice A0 l0.length c0] w fun e w'=>∃ v0_:Value,e=.returned (.tuple #[v0_,.bool r2])∧Kd.R k39 39 w' w.heap.size (fun _=>True) v0_ r1∧Below w.heap.size w w':=by
 have hu39:=Try.underlying39
 have HR0:=Aside0.mk hr0
 have HC0:=Aside0.mk hc0
 clear hr0 hc0
 have HB:=Aside0.mk (Below.refl w.heap.size w)
 have H:(impl_rowsOf.l0 k ([]:List (S39)) l0 (l0.length:Int) 0)=some (r1,r2):=h
 clear h
 have H':=Aside0.mk H
 clear H
 go_enter Try.func13,Try.ntmps13
 go_wp2
 go_loopg [4,9] k (fun kq v4 v9 w'=>∃ (x4_1:List (S39)) (x9_1:Int),v9=.int .i64 x9_1∧Aside0 (impl_rowsOf.l0 kq x4_1 l0 (l0.length:Int) x9_1=some (r1,r2))∧Aside0 (kq≤k)∧Aside0 (Kd.R k39 39 w' w.heap.size (fun _=>True) v4 x4_1)∧Aside0 (Below w.heap.size w w'))
 case atStart=>exact ⟨(([]:List (S39))),(0),(by first|rfl|(simp;done)|(simp [*];done)|(simp [Int.tmod_eq_emod_of_nonneg];done)),H',⟨Nat.le_refl _⟩,⟨by first|exact Kd.R_nil _ _ _ _ _|exact Kd.N_nil _ _ _ _ _|exact Kd.V_nil _ _ _ _ _|exact Kd.Q_nil _ _ _ _ _|exact Kd.S_nil _ _ _ _ _⟩,⟨by repeat (first|(with_reducible first|exact HB.out|apply yA|apply yB|apply yC)|exact HB.out)⟩⟩
 case round =>
  clear H'
  try clear c1
  obtain ⟨x4_1,x9_1,rfl,HA,HK1,HO_4,HB⟩:=hrel
  cases gk with
  | zero=>exact absurd HA.out (by simp [impl_rowsOf.l0])
  | succ k1 =>
   have H:=HA.out
   clear HA
   simp only [impl_rowsOf.l0] at H
   by_cases c2:x9_1<(l0.length:Int)
   ·rw [if_pos c2] at H
    have c2b0:decide (x9_1<(l0.length:Int))=true:=decide_eq_true c2
    clear c2
    by_cases c3:0≤x9_1
    ·rw [if_pos c3] at H
     have c3b0:decide (0≤x9_1)=true:=decide_eq_true c3
     clear c3
     by_cases c4:x9_1<(l0.length:Int)
     ·rw [if_pos c4] at H
      have c4b0:decide (x9_1<(l0.length:Int))=true:=decide_eq_true c4
      clear c4
      by_cases c5:((rd_L2 l0 x9_1).length:Int)=2
      ·rw [if_pos c5] at H
       have c5b0:(((rd_L2 l0 x9_1).length:Int) == 2)=true:=beq_iff_eq.mpr c5
       have c5b1:(((rd_L2 l0 x9_1).length:Int) != 2)=false:=bne_eq_false_iff_eq.mpr c5
       clear c5
       by_cases c6:0<((rd_L2 l0 x9_1).length:Int)
       ·rw [if_pos c6] at H
        have c6b0:decide (0<((rd_L2 l0 x9_1).length:Int))=true:=decide_eq_true c6
        have c6b1:decide (0<(rd_L2 l0 x9_1).length)=true:=decide_eq_true (by omega)
        clear c6
        replace H:=Option.bind_eq_some_iff.mp H
        obtain ⟨t189,A70,H⟩:=H
        replace H:(if t189=true then (if 1<((rd_L2 l0 x9_1).length:Int) then ((impl_in.f (rd (rd_L2 l0 x9_1) 1) 0 60).bind fun t191=>(if t191=true then (if x4_1.length<8796093022208 then (impl_rowsOf.l0 k1 (x4_1++[(⟨rd (rd_L2 l0 x9_1) 0,rd (rd_L2 l0 x9_1) 1⟩:S39)]) l0 (l0.length:Int) (wrap64 (x9_1+1))) else (none)) else (some (([]:List (S39)),false)))) else (none)) else (some (([]:List (S39)),false)))=some (r1,r2):=H
        have A7:=Aside0.mk A70
        clear A70
        by_cases c8:t189=true
        ·subst c8
         have H1:(if 1<((rd_L2 l0 x9_1).length:Int) then ((impl_in.f (rd (rd_L2 l0 x9_1) 1) 0 60).bind fun t191=>(if t191=true then (if x4_1.length<8796093022208 then (impl_rowsOf.l0 k1 (x4_1++[(⟨rd (rd_L2 l0 x9_1) 0,rd (rd_L2 l0 x9_1) 1⟩:S39)]) l0 (l0.length:Int) (wrap64 (x9_1+1))) else (none)) else (some (([]:List (S39)),false)))) else (none))=some (r1,r2):=by rw [if_pos rfl] at H;exact H
         clear H
         have H:=H1
         clear H1
         by_cases c9:1<((rd_L2 l0 x9_1).length:Int)
         ·rw [if_pos c9] at H
          have c9b0:decide (1<((rd_L2 l0 x9_1).length:Int))=true:=decide_eq_true c9
          have c9b1:decide (1<(rd_L2 l0 x9_1).length)=true:=decide_eq_true (by omega)
          clear c9
          replace H:=Option.bind_eq_some_iff.mp H
          obtain ⟨t191,A100,H⟩:=H
          replace H:(if t191=true then (if x4_1.length<8796093022208 then (impl_rowsOf.l0 k1 (x4_1++[(⟨rd (rd_L2 l0 x9_1) 0,rd (rd_L2 l0 x9_1) 1⟩:S39)]) l0 (l0.length:Int) (wrap64 (x9_1+1))) else (none)) else (some (([]:List (S39)),false)))=some (r1,r2):=H
          have A10:=Aside0.mk A100
          clear A100
          by_cases c11:t191=true
          ·subst c11
           have H1:(if x4_1.length<8796093022208 then (impl_rowsOf.l0 k1 (x4_1++[(⟨rd (rd_L2 l0 x9_1) 0,rd (rd_L2 l0 x9_1) 1⟩:S39)]) l0 (l0.length:Int) (wrap64 (x9_1+1))) else (none))=some (r1,r2):=by rw [if_pos rfl] at H;exact H
           clear H
           have H:=H1
           clear H1
           by_cases c12:x4_1.length<8796093022208
           ·rw [if_pos c12] at H
            have LMc12:=Aside0.mk c12
            clear c12
            obtain ⟨y194,hy194⟩:∃ y_:List (S39),y_=(x4_1++[(⟨rd (rd_L2 l0 x9_1) 0,rd (rd_L2 l0 x9_1) 1⟩:S39)]):=⟨_,rfl⟩
            replace H:(impl_rowsOf.l0 k1 y194 l0 (l0.length:Int) (wrap64 (x9_1+1)))=some (r1,r2):=by first|(rw [hy194];with_reducible exact H)|(have H2_:=(Option.bind_some _ _).symm.trans H;rw [hy194];with_reducible exact H2_)|(have H2_:=(Option.bind_some _ _).symm.trans H;with_reducible exact H2_)|with_reducible exact H|(rw [hy194];exact H)|exact H
            have Ny194:=Aside0.mk hy194
            clear hy194
            have H':=Aside0.mk H
            clear H
            have p187:0≤(x9_1:Int):=of_decide_eq_true (by first|(with_reducible assumption)|assumption)
            have q187:x9_1<(l0.length:Int):=of_decide_eq_true (by first|(with_reducible assumption)|assumption)
            obtain ⟨ad187,A187_0,c187_0,e187,hx187_0,hl187_0,hi187_0⟩:=at_L2 HR0.out x9_1 p187 q187
            cases e187
            replace hx187_0:=(HB.out.cell (World.block_lt_of_cell? w _ hx187_0)).trans hx187_0
            have HR187_0:=Aside0.mk hi187_0
            have HC187_0:=Aside0.mk hl187_0
            clear hi187_0 hl187_0
            replace p187:=eq_true p187
            replace q187:=eq_true q187
            have p188:0≤(0:Int):=(by omega)
            have q188:0<((rd_L2 l0 x9_1).length:Int):=of_decide_eq_true (by first|(with_reducible assumption)|assumption)
            obtain ⟨ad188,e188,hx188_0⟩:=Kd.at_int HR187_0.out 0 p188 q188
            cases e188
            have qi188:(0<(rd_L2 l0 x9_1).length)=True:=eq_true (by omega)
            (try rw [show ((0:Int)).toNat=0 from rfl] at hx188_0)
            (try rw [Addr.add_zero'] at hx188_0)
            replace hx188_0:=(HB.out.cell (World.block_lt_of_cell? w _ hx188_0)).trans hx188_0
            replace p188:=eq_true p188
            replace q188:=eq_true q188
            try go_wp2_with (first|(go_at_call 31;(with_reducible refine (impl_in.calls (rd (rd_L2 l0 x9_1) 0) 0 59 true _ A7.out).mono ?_);rintro e w' ⟨rfl,⟨nd,rfl⟩⟩;have p190:0≤(1:Int):=(by omega);have q190:1<((rd_L2 l0 x9_1).length:Int):=of_decide_eq_true (by first|(with_reducible assumption)|assumption);obtain ⟨ad190,e190,hx190_0⟩:=Kd.at_int HR187_0.out 1 p190 q190;obtain rfl:ad188=ad190:=(by injection e190);(try simp only [show (1:Int).toNat=1 from rfl,Nat.reduceMul,Nat.reduceEqDiff,Go.Addr.add,↓reduceIte] at hx190_0);have qi190:(1<(rd_L2 l0 x9_1).length)=True:=eq_true (by omega);(try rw [show ((1:Int)).toNat=1 from rfl] at hx190_0);replace hx190_0:=(HB.out.cell (World.block_lt_of_cell? w _ hx190_0)).trans hx190_0;replace p190:=eq_true p190;replace q190:=eq_true q190)|(go_at_call 31;(with_reducible refine (impl_in.calls (rd (rd_L2 l0 x9_1) 1) 0 60 true _ A10.out).mono ?_);rintro e w' ⟨rfl,⟨nd,rfl⟩⟩))
            (try (rw [drewN_self wr];generalize hq_:World.drewN wr _=wr;have n0_:Aside0 (Kd.R k39 39 wr w.heap.size (fun _=>True) u4 x4_1):=⟨by rw [← hq_];exact (by (with_reducible repeat (first|apply yH|apply yI|apply yJ));exact HO_4.out)⟩;have n1_:Aside0 (Below w.heap.size w wr):=⟨by rw [← hq_];exact (by repeat (first|(with_reducible first|exact HB.out|apply yA|apply yB|apply yC)|exact HB.out))⟩;clear HO_4 HB hq_;have HO_4:=n0_;have HB:=n1_;clear n0_ n1_))
            have n0_:=Aside0.mk (yJ HO_4.out)
            have n1_:=Aside0.mk (yC HB.out)
            clear HO_4
            clear HB
            have HO_4:=n0_
            have HB:=n1_
            clear n0_ n1_
            have p192:0≤(0:Int):=(by omega)
            have q192:0<((rd_L2 l0 x9_1).length:Int):=of_decide_eq_true (by first|(with_reducible assumption)|assumption)
            obtain ⟨ad192,e192,hx192_0⟩:=Kd.at_int HR187_0.out 0 p192 q192
            have hw192_0:=hx192_0
            (try rw [show ((0:Int)).toNat=0 from rfl] at hw192_0)
            (try rw [show 0 * 1=0 from rfl] at hw192_0)
            (try rw [Addr.add_zero'] at hw192_0)
            obtain rfl:ad188=ad192:=(by injection e192)
            have qi192:(0<(rd_L2 l0 x9_1).length)=True:=eq_true (by omega)
            (try rw [show ((0:Int)).toNat=0 from rfl] at hx192_0)
            (try rw [Addr.add_zero'] at hx192_0)
            replace hx192_0:=(HB.out.cell (World.block_lt_of_cell? w _ hx192_0)).trans hx192_0
            replace p192:=eq_true p192
            replace q192:=eq_true q192
            have p193:0≤(1:Int):=(by omega)
            have q193:1<((rd_L2 l0 x9_1).length:Int):=of_decide_eq_true (by first|(with_reducible assumption)|assumption)
            obtain ⟨ad193,e193,hx193_0⟩:=Kd.at_int HR187_0.out 1 p193 q193
            have hw193_0:=hx193_0
            (try rw [show ((1:Int)).toNat=1 from rfl] at hw193_0)
            (try rw [show 1 * 1=1 from rfl] at hw193_0)
            (try simp only [Nat.reduceMul,Nat.reduceEqDiff,Go.Addr.add,↓reduceIte] at hw193_0)
            obtain rfl:ad188=ad193:=(by injection e193)
            (try simp only [show (1:Int).toNat=1 from rfl,Nat.reduceMul,Nat.reduceEqDiff,Go.Addr.add,↓reduceIte] at hx193_0)
            have qi193:(1<(rd_L2 l0 x9_1).length)=True:=eq_true (by omega)
            (try rw [show ((1:Int)).toNat=1 from rfl] at hx193_0)
            replace hx193_0:=(HB.out.cell (World.block_lt_of_cell? w _ hx193_0)).trans hx193_0
            replace p193:=eq_true p193
            replace q193:=eq_true q193
            refine start_ (n:=11) (S:=fun w'=>w'.cell? ad188=some (.int .i64 (rd (rd_L2 l0 x9_1) 0))∧w'.cell? ⟨ad188.block,ad188.off+1,none⟩=some (.int .i64 (rd (rd_L2 l0 x9_1) 1))) (ds:=[]) #[false,false,false,false,false,false,false,false,false,false,false] (by kernel_rfl) rfl rfl ⟨((HB.out.cell (World.block_lt_of_cell? w _ hw192_0)).trans hw192_0),((HB.out.cell (World.block_lt_of_cell? w _ hw193_0)).trans hw193_0)⟩ (fun hHeld=>?_);refine with_tabW impl_rowsOf.tab7 impl_rowsOf.bits7 (fun HT_ HW_=>?_)
            generalize wr.drew=w13 at HO_4 HB hx192_0 hx193_0 hHeld ⊢
            refine pure_ (i:=0) (N:=some 30) (v:=?_) (a':=?_) #[true,false,false,false,false,false,false,false,false,false,false] rfl rfl (any_of HT_.out (by kernel_rfl)) (fun _ _ _ h=>h) (Or.inl ⟨by rfl,?_⟩) ?_ ?_
            rotate_left
            ·intro w'
             go_simp
             with_reducible rfl
            rotate_left
            ·simp only [Act.put,yK,yL,yM,i64_w,i32_w]
             rfl
            refine pure_ (i:=1) (N:=some 31) (v:=?_) (a':=?_) #[true,true,false,false,false,false,false,false,false,false,false] rfl rfl (any_of HT_.out (by kernel_rfl)) (fun _ _ _ h=>h) (Or.inl ⟨by rfl,?_⟩) ?_ ?_
            rotate_left
            ·intro w'
             go_simp
             with_reducible rfl
            rotate_left
            ·simp only [Act.put,yK,yL,yM,i64_w,i32_w]
             rfl
            refine pure_ (i:=2) (N:=some 32) (v:=?_) (a':=?_) #[true,true,true,false,false,false,false,false,false,false,false] rfl rfl (any_of HT_.out (by kernel_rfl)) (fun _ _ _ h=>h) (Or.inl ⟨by rfl,?_⟩) ?_ ?_
            rotate_left
            ·intro w'
             go_simp
             with_reducible rfl
            rotate_left
            ·simp only [Act.put,yK,yL,yM,i64_w,i32_w]
             rfl
            refine pure_ (i:=4) (N:=some 34) (v:=?_) (a':=?_) #[true,true,true,false,true,false,false,false,false,false,false] rfl rfl (any_of HT_.out (by kernel_rfl)) (fun _ _ _ h=>h) (Or.inl ⟨by rfl,?_⟩) ?_ ?_
            rotate_left
            ·intro w'
             go_simp
             with_reducible rfl
            rotate_left
            ·simp only [Act.put,yK,yL,yM,i64_w,i32_w]
             rfl
            refine pure_ (i:=5) (N:=some 35) (v:=?_) (a':=?_) #[true,true,true,false,true,true,false,false,false,false,false] rfl rfl (any_of HT_.out (by kernel_rfl)) (fun _ _ _ h=>h) (Or.inl ⟨by rfl,?_⟩) ?_ ?_
            rotate_left
            ·intro w'
             go_simp
             with_reducible rfl
            rotate_left
            ·simp only [Act.put,yK,yL,yM,i64_w,i32_w]
             rfl
            refine take_ (i:=3) (N:=some 33) (v:=?_) (a':=?_) #[true,true,true,true,true,true,false,false,false,false,false] rfl rfl (take_ofW HT_.out HW_.out (by kernel_rfl)) (fun _ _ _ h=>h) (Or.inl ⟨by rfl,?_⟩) hHeld ?_ ?_
            rotate_left
            ·rintro w' ⟨s0,s1⟩
             go_simp
             with_reducible rfl
            rotate_left
            ·simp only [Act.put,yK,yL,yM,i64_w,i32_w]
             rfl
            refine take_ (i:=6) (N:=some 36) (v:=?_) (a':=?_) #[true,true,true,true,true,true,true,false,false,false,false] rfl rfl (take_ofW HT_.out HW_.out (by kernel_rfl)) (fun _ _ _ h=>h) (Or.inl ⟨by rfl,?_⟩) hHeld ?_ ?_
            rotate_left
            ·rintro w' ⟨s0,s1⟩
             go_simp
             with_reducible rfl
            rotate_left
            ·simp only [Act.put,yK,yL,yM,i64_w,i32_w]
             rfl
            refine pure_ (i:=7) (N:=some 37) (v:=?_) (a':=?_) #[true,true,true,true,true,true,true,true,false,false,false] rfl rfl (any_of HT_.out (by kernel_rfl)) (fun _ _ _ h=>h) (Or.inl ⟨by rfl,?_⟩) ?_ ?_
            rotate_left
            ·intro w'
             go_simp
             with_reducible rfl
            rotate_left
            ·simp only [Act.put,yK,yL,yM,i64_w,i32_w]
             rfl
            refine one_ (i:=8) (N:=some 38) #[true,true,true,true,true,true,true,true,true,false,false] rfl rfl (one_of HT_.out (by kernel_rfl)) (by decide) (fun K hK=>?_)
            refine value_ (w1:=?_) (v:=?_) (by rfl) rfl ?_ ?_
            rotate_left 2
            ·go_simp
             constructor
             ·rfl
             ·rfl
            refine hK.out _ _ ⟨(World.cell?_alloc_lt _ _ _ (World.block_lt_of_cell? _ _ (((HB.out.cell (World.block_lt_of_cell? w _ hw192_0)).trans hw192_0)))).trans (((HB.out.cell (World.block_lt_of_cell? w _ hw192_0)).trans hw192_0)),(World.cell?_alloc_lt _ _ _ (World.block_lt_of_cell? _ _ (((HB.out.cell (World.block_lt_of_cell? w _ hw193_0)).trans hw193_0)))).trans (((HB.out.cell (World.block_lt_of_cell? w _ hw193_0)).trans hw193_0))⟩ (fun hHeld=>?_)
            clear hK K
            refine norm_ (a':=?_) ?_ ?_
            rotate_left
            ·show Act.put _ (some 38) _=_
             simp only [Act.put,yK,yL,yM,i64_w,i32_w]
             rfl
            refine one_ (i:=9) (N:=some 39) #[true,true,true,true,true,true,true,true,true,true,false] rfl rfl (one_of HT_.out (by kernel_rfl)) (by decide) (fun K hK=>?_)
            refine Kd.R_append_step k39 (w0:=w) w.heap.size (by rfl) (.tmp 30) (.tmp 38) 34 39 (.agg #[(.int .i64 0),(.int .i64 0)]) 16 rfl Try.underlying34 info39 rfl (by decide) (by omega) u4 x4_1 (⟨rd (rd_L2 l0 x9_1) 0,rd (rd_L2 l0 x9_1) 1⟩:S39) [.int .i64 (rd (rd_L2 l0 x9_1) 0),.int .i64 (rd (rd_L2 l0 x9_1) 1)] (fun _=>True) (fun _=>False) rfl rfl ?aP (fun _ hk=>hk.elim) ?aF ?aO ?aB ?aS ?aL ?_
            (case aP=>exact k39_mkM _ _ _ (⟨rd (rd_L2 l0 x9_1) 0,rd (rd_L2 l0 x9_1) 1⟩:S39))
            (case aB=>exact (by repeat (first|(with_reducible first|exact HB.out|apply yA|apply yB|apply yC)|exact HB.out)))
            (case aF=>exact (fun _ _=>trivial))
            (case aO=>exact (by (with_reducible repeat (first|apply yH|apply yI|apply yJ));exact HO_4.out))
            (case aS=>exact (yQ (by repeat (first|(with_reducible first|exact HB.out|apply yA|apply yB|apply yC)|exact HB.out))))
            (case aL=>have:=LMc12.out;omega)
            intro v195 w14 ho hb hg hat
            rw [← Ny194.out] at ho
            have n0_:=Aside0.mk (hb)
            have n1_:=Aside0.mk (ho)
            clear HB
            clear HO_4
            have HB:=n0_
            have HO196:=n1_
            clear n0_ n1_
            clear ho hb hg hat
            refine hK.out _ _ ⟨((HB.out.cell (World.block_lt_of_cell? w _ hw192_0)).trans hw192_0),((HB.out.cell (World.block_lt_of_cell? w _ hw193_0)).trans hw193_0)⟩ (fun hHeld=>?_)
            clear hK K
            refine norm_ (a':=?_) ?_ ?_
            rotate_left
            ·show Act.put _ (some 39) _=_
             simp only [Act.put,yK,yL,yM,i64_w,i32_w]
             rfl
            refine pure_ (i:=10) (N:=some 4) (v:=?_) (a':=?_) #[true,true,true,true,true,true,true,true,true,true,true] rfl rfl (any_of HT_.out (by kernel_rfl)) (fun _ _ _ h=>h) (Or.inl ⟨by rfl,?_⟩) ?_ ?_
            rotate_left
            ·intro w'
             go_simp
             with_reducible rfl
            rotate_left
            ·simp only [Act.put,yK,yL,yM,i64_w,i32_w]
             rfl
            refine done_ (done_of HT_.out (by kernel_rfl)) ?_
            try go_wp2
            go_roundg k1
            case measure=>have:=HK1.out;omega
            case rel=>exact ⟨(y194),(wrap64 (x9_1+1)),(by first|rfl|(simp;done)|(simp [*];done)|(simp [Int.tmod_eq_emod_of_nonneg];done)),H',⟨by have:=HK1.out;omega⟩,⟨by (with_reducible repeat (first|apply yH|apply yI|apply yJ));exact HO196.out⟩,⟨by repeat (first|(with_reducible first|exact HB.out|apply yA|apply yB|apply yC)|exact HB.out)⟩⟩
           ·rw [if_neg c12] at H
            exact absurd H (by simp)
          ·replace c11:=Bool.eq_false_iff.mpr c11
           subst c11
           have H1:(some (([]:List (S39)),false))=some (r1,r2):=by rw [if_neg (show ¬ (false=true) by decide)] at H;exact H
           clear H
           have H:=H1
           clear H1
           simp only [Option.some.injEq,Prod.mk.injEq] at H
           obtain ⟨rfl,rfl⟩:=H
           have p187:0≤(x9_1:Int):=of_decide_eq_true (by first|(with_reducible assumption)|assumption)
           have q187:x9_1<(l0.length:Int):=of_decide_eq_true (by first|(with_reducible assumption)|assumption)
           obtain ⟨ad187,A187_0,c187_0,e187,hx187_0,hl187_0,hi187_0⟩:=at_L2 HR0.out x9_1 p187 q187
           cases e187
           replace hx187_0:=(HB.out.cell (World.block_lt_of_cell? w _ hx187_0)).trans hx187_0
           have HR187_0:=Aside0.mk hi187_0
           have HC187_0:=Aside0.mk hl187_0
           clear hi187_0 hl187_0
           replace p187:=eq_true p187
           replace q187:=eq_true q187
           have p188:0≤(0:Int):=(by omega)
           have q188:0<((rd_L2 l0 x9_1).length:Int):=of_decide_eq_true (by first|(with_reducible assumption)|assumption)
           obtain ⟨ad188,e188,hx188_0⟩:=Kd.at_int HR187_0.out 0 p188 q188
           cases e188
           have qi188:(0<(rd_L2 l0 x9_1).length)=True:=eq_true (by omega)
           (try rw [show ((0:Int)).toNat=0 from rfl] at hx188_0)
           (try rw [Addr.add_zero'] at hx188_0)
           replace hx188_0:=(HB.out.cell (World.block_lt_of_cell? w _ hx188_0)).trans hx188_0
           replace p188:=eq_true p188
           replace q188:=eq_true q188
           go_wp2_with (first|(go_at_call 31;(with_reducible refine (impl_in.calls (rd (rd_L2 l0 x9_1) 0) 0 59 true _ A7.out).mono ?_);rintro e w' ⟨rfl,⟨nd,rfl⟩⟩;have p190:0≤(1:Int):=(by omega);have q190:1<((rd_L2 l0 x9_1).length:Int):=of_decide_eq_true (by first|(with_reducible assumption)|assumption);obtain ⟨ad190,e190,hx190_0⟩:=Kd.at_int HR187_0.out 1 p190 q190;obtain rfl:ad188=ad190:=(by injection e190);(try simp only [show (1:Int).toNat=1 from rfl,Nat.reduceMul,Nat.reduceEqDiff,Go.Addr.add,↓reduceIte] at hx190_0);have qi190:(1<(rd_L2 l0 x9_1).length)=True:=eq_true (by omega);(try rw [show ((1:Int)).toNat=1 from rfl] at hx190_0);replace hx190_0:=(HB.out.cell (World.block_lt_of_cell? w _ hx190_0)).trans hx190_0;replace p190:=eq_true p190;replace q190:=eq_true q190)|(go_at_call 31;(with_reducible refine (impl_in.calls (rd (rd_L2 l0 x9_1) 1) 0 60 false _ A10.out).mono ?_);rintro e w' ⟨rfl,⟨nd,rfl⟩⟩))
           go_ret2
           exact ⟨_,by first|rfl|(simp [errW_none,errW_some]<;>rfl)|(simp [*,errW_none,errW_some]<;>rfl)|(simp [errW_none,errW_some];exact ⟨rfl,rfl⟩),by first|exact Kd.R_nil _ _ _ _ _|exact Kd.N_nil _ _ _ _ _|exact Kd.V_nil _ _ _ _ _|exact Kd.Q_nil _ _ _ _ _|exact Kd.S_nil _ _ _ _ _,by repeat (first|(with_reducible first|exact HB.out|apply yA|apply yB|apply yC)|exact HB.out)⟩
         ·rw [if_neg c9] at H
          exact absurd H (by simp)
        ·replace c8:=Bool.eq_false_iff.mpr c8
         subst c8
         have H1:(some (([]:List (S39)),false))=some (r1,r2):=by rw [if_neg (show ¬ (false=true) by decide)] at H;exact H
         clear H
         have H:=H1
         clear H1
         simp only [Option.some.injEq,Prod.mk.injEq] at H
         obtain ⟨rfl,rfl⟩:=H
         have p187:0≤(x9_1:Int):=of_decide_eq_true (by first|(with_reducible assumption)|assumption)
         have q187:x9_1<(l0.length:Int):=of_decide_eq_true (by first|(with_reducible assumption)|assumption)
         obtain ⟨ad187,A187_0,c187_0,e187,hx187_0,hl187_0,hi187_0⟩:=at_L2 HR0.out x9_1 p187 q187
         cases e187
         replace hx187_0:=(HB.out.cell (World.block_lt_of_cell? w _ hx187_0)).trans hx187_0
         have HR187_0:=Aside0.mk hi187_0
         have HC187_0:=Aside0.mk hl187_0
         clear hi187_0 hl187_0
         replace p187:=eq_true p187
         replace q187:=eq_true q187
         have p188:0≤(0:Int):=(by omega)
         have q188:0<((rd_L2 l0 x9_1).length:Int):=of_decide_eq_true (by first|(with_reducible assumption)|assumption)
         obtain ⟨ad188,e188,hx188_0⟩:=Kd.at_int HR187_0.out 0 p188 q188
         cases e188
         have qi188:(0<(rd_L2 l0 x9_1).length)=True:=eq_true (by omega)
         (try rw [show ((0:Int)).toNat=0 from rfl] at hx188_0)
         (try rw [Addr.add_zero'] at hx188_0)
         replace hx188_0:=(HB.out.cell (World.block_lt_of_cell? w _ hx188_0)).trans hx188_0
         replace p188:=eq_true p188
         replace q188:=eq_true q188
         go_wp2_with (first|(go_at_call 31;(with_reducible refine (impl_in.calls (rd (rd_L2 l0 x9_1) 0) 0 59 false _ A7.out).mono ?_);rintro e w' ⟨rfl,⟨nd,rfl⟩⟩))
         go_ret2
         exact ⟨_,by first|rfl|(simp [errW_none,errW_some]<;>rfl)|(simp [*,errW_none,errW_some]<;>rfl)|(simp [errW_none,errW_some];exact ⟨rfl,rfl⟩),by first|exact Kd.R_nil _ _ _ _ _|exact Kd.N_nil _ _ _ _ _|exact Kd.V_nil _ _ _ _ _|exact Kd.Q_nil _ _ _ _ _|exact Kd.S_nil _ _ _ _ _,by repeat (first|(with_reducible first|exact HB.out|apply yA|apply yB|apply yC)|exact HB.out)⟩
       ·rw [if_neg c6] at H
        exact absurd H (by simp)
      ·rw [if_neg c5] at H
       have c5b0:(((rd_L2 l0 x9_1).length:Int) == 2)=false:=beq_eq_false_iff_ne.mpr c5
       have c5b1:(((rd_L2 l0 x9_1).length:Int) != 2)=true:=bne_iff_ne.mpr c5
       simp only [Option.some.injEq,Prod.mk.injEq] at H
       obtain ⟨rfl,rfl⟩:=H
       have p187:0≤(x9_1:Int):=of_decide_eq_true (by first|(with_reducible assumption)|assumption)
       have q187:x9_1<(l0.length:Int):=of_decide_eq_true (by first|(with_reducible assumption)|assumption)
       obtain ⟨ad187,A187_0,c187_0,e187,hx187_0,hl187_0,hi187_0⟩:=at_L2 HR0.out x9_1 p187 q187
       cases e187
       replace hx187_0:=(HB.out.cell (World.block_lt_of_cell? w _ hx187_0)).trans hx187_0
       have HR187_0:=Aside0.mk hi187_0
       have HC187_0:=Aside0.mk hl187_0
       clear hi187_0 hl187_0
       replace p187:=eq_true p187
       replace q187:=eq_true q187
       go_wp2
       go_ret2
       exact ⟨_,by first|rfl|(simp [errW_none,errW_some]<;>rfl)|(simp [*,errW_none,errW_some]<;>rfl)|(simp [errW_none,errW_some];exact ⟨rfl,rfl⟩),by first|exact Kd.R_nil _ _ _ _ _|exact Kd.N_nil _ _ _ _ _|exact Kd.V_nil _ _ _ _ _|exact Kd.Q_nil _ _ _ _ _|exact Kd.S_nil _ _ _ _ _,by repeat (first|(with_reducible first|exact HB.out|apply yA|apply yB|apply yC)|exact HB.out)⟩
     ·rw [if_neg c4] at H
      exact absurd H (by simp)
    ·rw [if_neg c3] at H
     exact absurd H (by simp)
   ·rw [if_neg c2] at H
    have c2b0:decide (x9_1<(l0.length:Int))=false:=decide_eq_false c2
    clear c2
    simp only [Option.some.injEq,Prod.mk.injEq] at H
    obtain ⟨rfl,rfl⟩:=H
    obtain ⟨Ao15,co15,eo15⟩:=Kd.R_slice HO_4.out
    subst eo15
    go_wp2
    go_ret2
    exact ⟨_,by first|rfl|(simp [errW_none,errW_some]<;>rfl)|(simp [*,errW_none,errW_some]<;>rfl)|(simp [errW_none,errW_some];exact ⟨rfl,rfl⟩),by (with_reducible repeat (first|apply yH|apply yI|apply yJ));exact HO_4.out,by repeat (first|(with_reducible first|exact HB.out|apply yA|apply yB|apply yC)|exact HB.out)⟩

end Go.Proofs.Ytmlmnikafikchaa.P

namespace Go.Proofs.Ytmlmnikafikchaa.P
open Go.RowKit Go.Proofs.YtmlmnikafikchaaW.PrintWords Go.Proofs.YtmlmnikafikchaaW.PrintLast Go.Proofs.YtmlmnikafikchaaW.PrintMore
attribute [local go_sem] max2_int min2_int max_two min_two max_three min_three max_four min_four   -- for this text's walks alone
set_option linter.unusedVariables false
set_option linter.unusedSimpArgs false

/-! ### impl_RowsIn: function 7 -/
def impl_RowsIn.f (k:Nat) (l0:List (List Int)):Option (Bool):=(impl_rowsOf.f k l0).bind fun bt233=>(some bt233.2)
theorem impl_RowsIn.mono:∀ a0 k,LeO (impl_RowsIn.f k a0) (impl_RowsIn.f (k+1) a0):=by
 intro a0 k
 unfold impl_RowsIn.f
 repeat' first
   | (with_reducible exact impl_rowsOf.mono _ _)
   | (with_reducible exact LeO.refl _)
   | (with_reducible exact LeO.none _)
   | (with_reducible refine LeO.ite ?_ ?_)
   | (with_reducible refine LeO.bind ?_ (fun _=>?_))
   | exact impl_rowsOf.mono _ _
   | exact LeO.none _
   | refine LeO.ite ?_ ?_
   | refine LeO.bind ?_ (fun _=>?_)
set_option maxHeartbeats 8000000 in
set_option maxRecDepth 100000 in
theorem impl_RowsIn.calls (k:Nat) (A0:Option Addr) (c0:Nat) (l0:List (List Int)) (r:Bool) (w:World) (hr0:Kd.C (Kd.slice 3 (Kd.int .i64)) w A0 l0.length l0) (hc0:l0.length≤c0) (h:impl_RowsIn.f k l0=some r) :
  Calls Try.prog 7 #[.slice A0 l0.length c0] w fun e w'=>e=.returned (.bool r)∧Below w.heap.size w w':=by
 have HR0:=Aside0.mk hr0
 have HC0:=Aside0.mk hc0
 clear hr0 hc0
 have HB:=Aside0.mk (Below.refl w.heap.size w)
 have H:((impl_rowsOf.f k l0).bind fun bt233=>(some bt233.2))=some r:=h
 clear h
 replace H:=Option.bind_eq_some_iff.mp H
 obtain ⟨⟨t233,t234⟩,A20,H⟩:=H
 replace H:(some t234)=some r:=H
 have A2:=Aside0.mk A20
 clear A20
 obtain rfl:=Option.some.inj H
 go_enter Try.func7,Try.ntmps7
 go_wp2_with (first|((with_reducible refine gate_callee (f:=13) rfl ?_);refine goesL_ (some 7) rfl rfl Try.func13 (by kernel_rfl) rfl #[.slice A0 l0.length c0] rfl (by (try simp only [List.map_toArray,List.map_cons,List.map_nil]);first|done|rfl|(simp only [List.length_drop,List.length_take];rfl)) ?_;(with_reducible refine (impl_rowsOf.calls k _ _ l0 t233 t234 _ ?side1 ?side2 A2.out).mono ?_);(case side1=>repeat (first|exact HR0.out|(with_reducible refine Kd.C_alloc ?_ _)|(with_reducible refine Kd.C_drewN ?_ _)|(with_reducible refine Kd.C_drew ?_)));(case side2=>exact HC0.out);rintro e w3 ⟨v235,rfl,ho0,hb⟩;refine ⟨_,rfl,?_⟩;have n0_:=Aside0.mk (Kd.R_lower ho0 (yQ (by repeat (first|(with_reducible first|exact HB.out|apply yA|apply yB|apply yC)|exact HB.out))));have n1_:=Aside0.mk (yP (by repeat (first|(with_reducible first|exact HB.out|apply yA|apply yB|apply yC)|exact HB.out)) hb);clear HB;have HO236:=n0_;have HB:=n1_;clear n0_ n1_;(try clear hb);(try clear hb2);(try clear hk);(try clear hi);(try clear ho0)))
 go_ret
 exact ⟨by first|rfl|(simp [errW_none,errW_some]<;>rfl)|(simp [*,errW_none,errW_some]<;>rfl)|(simp [errW_none,errW_some];exact ⟨rfl,rfl⟩),by repeat (first|(with_reducible first|exact HB.out|apply yA|apply yB|apply yC)|exact HB.out)⟩

end Go.Proofs.Ytmlmnikafikchaa.P

namespace Go.Proofs.Ytmlmnikafikchaa.P
open Go.RowKit Go.Proofs.YtmlmnikafikchaaW.PrintWords Go.Proofs.YtmlmnikafikchaaW.PrintLast Go.Proofs.YtmlmnikafikchaaW.PrintMore
attribute [local go_sem] max2_int min2_int max_two min_two max_three min_three max_four min_four   -- for this text's walks alone
set_option linter.unusedVariables false
set_option linter.unusedSimpArgs false

/-! ### impl_set_has: function 26 -/
def impl_set_has.f (l0_0:List Bool) (l0_1:List Bool) (a1:Int):Option (Bool):=if a1<0 then (some false) else (if a1<(l0_0.length:Int) then (if 0≤a1 then (some (rdOf false l0_0 a1)) else (none)) else (if (l0_1.length:Int)=0 then (none) else (if 0≤(Int.tmod (wrap64 (a1 - (l0_0.length:Int))) (l0_1.length:Int)) then (if (Int.tmod (wrap64 (a1 - (l0_0.length:Int))) (l0_1.length:Int))<(l0_1.length:Int) then (some (rdOf false l0_1 (Int.tmod (wrap64 (a1 - (l0_0.length:Int))) (l0_1.length:Int)))) else (none)) else (none))))
set_option maxHeartbeats 8000000 in
set_option maxRecDepth 100000 in
theorem impl_set_has.calls (A0_0:Option Addr) (c0_0:Nat) (l0_0:List Bool) (A0_1:Option Addr) (c0_1:Nat) (l0_1:List Bool) (a1:Int) (r:Bool) (w:World) (hr0_0:Kd.C Kd.bool w A0_0 l0_0.length l0_0) (hc0_0:l0_0.length≤c0_0) (hr0_1:Kd.C Kd.bool w A0_1 l0_1.length l0_1) (hc0_1:l0_1.length≤c0_1) (h:impl_set_has.f l0_0 l0_1 a1=some r) :
  Calls Try.prog 26 #[.agg #[.slice A0_0 l0_0.length c0_0,.slice A0_1 l0_1.length c0_1],.int .i64 a1] w fun e w'=>e=.returned (.bool r)∧Below w.heap.size w w':=by
 have hu51:=Try.underlying51
 have HR0_0:=Aside0.mk hr0_0
 have HC0_0:=Aside0.mk hc0_0
 clear hr0_0 hc0_0
 have HR0_1:=Aside0.mk hr0_1
 have HC0_1:=Aside0.mk hc0_1
 clear hr0_1 hc0_1
 have HB:=Aside0.mk (Below.refl w.heap.size w)
 have H:(if a1<0 then (some false) else (if a1<(l0_0.length:Int) then (if 0≤a1 then (some (rdOf false l0_0 a1)) else (none)) else (if (l0_1.length:Int)=0 then (none) else (if 0≤(Int.tmod (wrap64 (a1 - (l0_0.length:Int))) (l0_1.length:Int)) then (if (Int.tmod (wrap64 (a1 - (l0_0.length:Int))) (l0_1.length:Int))<(l0_1.length:Int) then (some (rdOf false l0_1 (Int.tmod (wrap64 (a1 - (l0_0.length:Int))) (l0_1.length:Int)))) else (none)) else (none)))))=some r:=h
 clear h
 by_cases c3:a1<0
 ·rw [if_pos c3] at H
  have c3b0:decide (a1<0)=true:=decide_eq_true c3
  clear c3
  obtain rfl:=Option.some.inj H
  go_enter Try.func26,Try.ntmps26
  go_wp2_with (first|((with_reducible refine gate_dst (N:=2) rfl ?_);refine box_event ?hg (N:=2) ?hd (cs:=#[.slice A0_0 l0_0.length c0_0,.slice A0_1 l0_1.length c0_1]) (t:=51) ?hr ?_;(case hd=>rfl);(case hg=>rfl);(case hr=>first|(go_simp;done)|(go_simp;rfl));intro gb272 hg w4 hbox hb;have n0_:=Aside0.mk (yP (by repeat (first|(with_reducible first|exact HB.out|apply yA|apply yB|apply yC)|exact HB.out)) hb);have n1_:=Aside0.mk (hbox);have n2_:=Aside0.mk ((by rw [hg];exact (yQ (by repeat (first|(with_reducible first|exact HB.out|apply yA|apply yB|apply yC)|exact HB.out))):w.heap.size≤gb272));have n3_:=Aside0.mk ((by rw [hg];exact (yQ (by repeat (first|(with_reducible first|exact HB.out|apply yA|apply yB|apply yC)|exact HB.out))):w.heap.size≤gb272));clear HB;have HB:=n0_;have BK272:=n1_;have GW272:=n2_;have GE272:=n3_;clear n0_ n1_ n2_ n3_;clear hb hbox hg))
  repeat (go_quiet (first|((with_reducible refine gate_dst (N:=2) rfl ?_);refine box_event ?hg (N:=2) ?hd (cs:=#[.slice A0_0 l0_0.length c0_0,.slice A0_1 l0_1.length c0_1]) (t:=51) ?hr ?_;(case hd=>rfl);(case hg=>rfl);(case hr=>first|(go_simp;done)|(go_simp;rfl));intro gb272 hg w4 hbox hb;have n0_:=Aside0.mk (yP (by repeat (first|(with_reducible first|exact HB.out|apply yA|apply yB|apply yC)|exact HB.out)) hb);have n1_:=Aside0.mk (hbox);have n2_:=Aside0.mk ((by rw [hg];exact (yQ (by repeat (first|(with_reducible first|exact HB.out|apply yA|apply yB|apply yC)|exact HB.out))):w.heap.size≤gb272));have n3_:=Aside0.mk ((by rw [hg];exact (yQ (by repeat (first|(with_reducible first|exact HB.out|apply yA|apply yB|apply yC)|exact HB.out))):w.heap.size≤gb272));clear HB;have HB:=n0_;have BK272:=n1_;have GW272:=n2_;have GE272:=n3_;clear n0_ n1_ n2_ n3_;clear hb hbox hg));try go_wp2_with (first|((with_reducible refine gate_dst (N:=2) rfl ?_);refine box_event ?hg (N:=2) ?hd (cs:=#[.slice A0_0 l0_0.length c0_0,.slice A0_1 l0_1.length c0_1]) (t:=51) ?hr ?_;(case hd=>rfl);(case hg=>rfl);(case hr=>first|(go_simp;done)|(go_simp;rfl));intro gb272 hg w4 hbox hb;have n0_:=Aside0.mk (yP (by repeat (first|(with_reducible first|exact HB.out|apply yA|apply yB|apply yC)|exact HB.out)) hb);have n1_:=Aside0.mk (hbox);have n2_:=Aside0.mk ((by rw [hg];exact (yQ (by repeat (first|(with_reducible first|exact HB.out|apply yA|apply yB|apply yC)|exact HB.out))):w.heap.size≤gb272));have n3_:=Aside0.mk ((by rw [hg];exact (yQ (by repeat (first|(with_reducible first|exact HB.out|apply yA|apply yB|apply yC)|exact HB.out))):w.heap.size≤gb272));clear HB;have HB:=n0_;have BK272:=n1_;have GW272:=n2_;have GE272:=n3_;clear n0_ n1_ n2_ n3_;clear hb hbox hg)))
  go_ret
  exact ⟨by first|rfl|(simp [errW_none,errW_some]<;>rfl)|(simp [*,errW_none,errW_some]<;>rfl)|(simp [errW_none,errW_some];exact ⟨rfl,rfl⟩),by repeat (first|(with_reducible first|exact HB.out|apply yA|apply yB|apply yC|refine yD ?_ GE272.out)|exact HB.out)⟩
 ·rw [if_neg c3] at H
  have c3b0:decide (a1<0)=false:=decide_eq_false c3
  clear c3
  by_cases c5:a1<(l0_0.length:Int)
  ·rw [if_pos c5] at H
   have c5b0:decide (a1<(l0_0.length:Int))=true:=decide_eq_true c5
   clear c5
   by_cases c6:0≤a1
   ·rw [if_pos c6] at H
    have c6b0:decide (0≤a1)=true:=decide_eq_true c6
    clear c6
    obtain rfl:=Option.some.inj H
    go_enter Try.func26,Try.ntmps26
    go_wp2_with (first|((with_reducible refine gate_dst (N:=2) rfl ?_);refine box_event ?hg (N:=2) ?hd (cs:=#[.slice A0_0 l0_0.length c0_0,.slice A0_1 l0_1.length c0_1]) (t:=51) ?hr ?_;(case hd=>rfl);(case hg=>rfl);(case hr=>first|(go_simp;done)|(go_simp;rfl));intro gb272 hg w7 hbox hb;have n0_:=Aside0.mk (yP (by repeat (first|(with_reducible first|exact HB.out|apply yA|apply yB|apply yC)|exact HB.out)) hb);have n1_:=Aside0.mk (hbox);have n2_:=Aside0.mk ((by rw [hg];exact (yQ (by repeat (first|(with_reducible first|exact HB.out|apply yA|apply yB|apply yC)|exact HB.out))):w.heap.size≤gb272));have n3_:=Aside0.mk ((by rw [hg];exact (yQ (by repeat (first|(with_reducible first|exact HB.out|apply yA|apply yB|apply yC)|exact HB.out))):w.heap.size≤gb272));clear HB;have HB:=n0_;have BK272:=n1_;have GW272:=n2_;have GE272:=n3_;clear n0_ n1_ n2_ n3_;clear hb hbox hg;have hcz8_0:w7.cell? ⟨gb272,0,none⟩=some (.slice A0_0 l0_0.length c0_0):=(blk_cell BK272.out 0).trans rfl;have hcz8_1:w7.cell? ⟨gb272,1,none⟩=some (.slice A0_1 l0_1.length c0_1):=(blk_cell BK272.out 1).trans rfl;have hfz8_0:=blk_frozen BK272.out 0;have hfz8_1:=blk_frozen BK272.out 1;have p273:0≤(a1:Int):=of_decide_eq_true (by first|(with_reducible assumption)|assumption);have q273:a1<(l0_0.length:Int):=of_decide_eq_true (by first|(with_reducible assumption)|assumption);obtain ⟨ad273,e273,hx273_0⟩:=Kd.at_bool HR0_0.out a1 p273 q273;cases e273;replace hx273_0:=(HB.out.cell (World.block_lt_of_cell? w _ hx273_0)).trans hx273_0;replace p273:=eq_true p273;replace q273:=eq_true q273))
    repeat (go_quiet (first|((with_reducible refine gate_dst (N:=2) rfl ?_);refine box_event ?hg (N:=2) ?hd (cs:=#[.slice A0_0 l0_0.length c0_0,.slice A0_1 l0_1.length c0_1]) (t:=51) ?hr ?_;(case hd=>rfl);(case hg=>rfl);(case hr=>first|(go_simp;done)|(go_simp;rfl));intro gb272 hg w7 hbox hb;have n0_:=Aside0.mk (yP (by repeat (first|(with_reducible first|exact HB.out|apply yA|apply yB|apply yC)|exact HB.out)) hb);have n1_:=Aside0.mk (hbox);have n2_:=Aside0.mk ((by rw [hg];exact (yQ (by repeat (first|(with_reducible first|exact HB.out|apply yA|apply yB|apply yC)|exact HB.out))):w.heap.size≤gb272));have n3_:=Aside0.mk ((by rw [hg];exact (yQ (by repeat (first|(with_reducible first|exact HB.out|apply yA|apply yB|apply yC)|exact HB.out))):w.heap.size≤gb272));clear HB;have HB:=n0_;have BK272:=n1_;have GW272:=n2_;have GE272:=n3_;clear n0_ n1_ n2_ n3_;clear hb hbox hg;have hcz8_0:w7.cell? ⟨gb272,0,none⟩=some (.slice A0_0 l0_0.length c0_0):=(blk_cell BK272.out 0).trans rfl;have hcz8_1:w7.cell? ⟨gb272,1,none⟩=some (.slice A0_1 l0_1.length c0_1):=(blk_cell BK272.out 1).trans rfl;have hfz8_0:=blk_frozen BK272.out 0;have hfz8_1:=blk_frozen BK272.out 1;have p273:0≤(a1:Int):=of_decide_eq_true (by first|(with_reducible assumption)|assumption);have q273:a1<(l0_0.length:Int):=of_decide_eq_true (by first|(with_reducible assumption)|assumption);obtain ⟨ad273,e273,hx273_0⟩:=Kd.at_bool HR0_0.out a1 p273 q273;cases e273;replace hx273_0:=(HB.out.cell (World.block_lt_of_cell? w _ hx273_0)).trans hx273_0;replace p273:=eq_true p273;replace q273:=eq_true q273));try go_wp2_with (first|((with_reducible refine gate_dst (N:=2) rfl ?_);refine box_event ?hg (N:=2) ?hd (cs:=#[.slice A0_0 l0_0.length c0_0,.slice A0_1 l0_1.length c0_1]) (t:=51) ?hr ?_;(case hd=>rfl);(case hg=>rfl);(case hr=>first|(go_simp;done)|(go_simp;rfl));intro gb272 hg w7 hbox hb;have n0_:=Aside0.mk (yP (by repeat (first|(with_reducible first|exact HB.out|apply yA|apply yB|apply yC)|exact HB.out)) hb);have n1_:=Aside0.mk (hbox);have n2_:=Aside0.mk ((by rw [hg];exact (yQ (by repeat (first|(with_reducible first|exact HB.out|apply yA|apply yB|apply yC)|exact HB.out))):w.heap.size≤gb272));have n3_:=Aside0.mk ((by rw [hg];exact (yQ (by repeat (first|(with_reducible first|exact HB.out|apply yA|apply yB|apply yC)|exact HB.out))):w.heap.size≤gb272));clear HB;have HB:=n0_;have BK272:=n1_;have GW272:=n2_;have GE272:=n3_;clear n0_ n1_ n2_ n3_;clear hb hbox hg;have hcz8_0:w7.cell? ⟨gb272,0,none⟩=some (.slice A0_0 l0_0.length c0_0):=(blk_cell BK272.out 0).trans rfl;have hcz8_1:w7.cell? ⟨gb272,1,none⟩=some (.slice A0_1 l0_1.length c0_1):=(blk_cell BK272.out 1).trans rfl;have hfz8_0:=blk_frozen BK272.out 0;have hfz8_1:=blk_frozen BK272.out 1;have p273:0≤(a1:Int):=of_decide_eq_true (by first|(with_reducible assumption)|assumption);have q273:a1<(l0_0.length:Int):=of_decide_eq_true (by first|(with_reducible assumption)|assumption);obtain ⟨ad273,e273,hx273_0⟩:=Kd.at_bool HR0_0.out a1 p273 q273;cases e273;replace hx273_0:=(HB.out.cell (World.block_lt_of_cell? w _ hx273_0)).trans hx273_0;replace p273:=eq_true p273;replace q273:=eq_true q273)))
    go_ret
    exact ⟨by first|rfl|(simp [errW_none,errW_some]<;>rfl)|(simp [*,errW_none,errW_some]<;>rfl)|(simp [errW_none,errW_some];exact ⟨rfl,rfl⟩),by repeat (first|(with_reducible first|exact HB.out|apply yA|apply yB|apply yC|refine yD ?_ GE272.out)|exact HB.out)⟩
   ·rw [if_neg c6] at H
    exact absurd H (by simp)
  ·rw [if_neg c5] at H
   have c5b0:decide (a1<(l0_0.length:Int))=false:=decide_eq_false c5
   clear c5
   by_cases c9:(l0_1.length:Int)=0
   ·rw [if_pos c9] at H
    exact absurd H (by simp)
   ·rw [if_neg c9] at H
    have c9b0:((l0_1.length:Int) == 0)=false:=beq_eq_false_iff_ne.mpr c9
    have c9b1:((l0_1.length:Int) != 0)=true:=bne_iff_ne.mpr c9
    have c9b2:¬ (l0_1=[]):=fun h_=>c9 (by rw [h_];rfl)
    obtain ⟨ji10,hji10⟩:∃ j_:Int,(Int.tmod (wrap64 (a1 - (l0_0.length:Int))) (l0_1.length:Int))=j_:=⟨_,rfl⟩
    replace H:(if 0≤(ji10) then (if (ji10)<(l0_1.length:Int) then (some (rdOf false l0_1 (ji10))) else (none)) else (none))=some r:=by first|(rw [hji10] at H;exact H)|(simp only [hji10] at H ⊢;exact H)
    by_cases c11:0≤(ji10)
    ·rw [if_pos c11] at H
     have c11b0:decide (0≤(ji10))=true:=decide_eq_true c11
     clear c11
     by_cases c12:(ji10)<(l0_1.length:Int)
     ·rw [if_pos c12] at H
      have c12b0:decide ((ji10)<(l0_1.length:Int))=true:=decide_eq_true c12
      clear c12
      obtain rfl:=Option.some.inj H
      go_enter Try.func26,Try.ntmps26
      go_wp2_with (first|((with_reducible refine gate_dst (N:=2) rfl ?_);refine box_event ?hg (N:=2) ?hd (cs:=#[.slice A0_0 l0_0.length c0_0,.slice A0_1 l0_1.length c0_1]) (t:=51) ?hr ?_;(case hd=>rfl);(case hg=>rfl);(case hr=>first|(go_simp;done)|(go_simp;rfl));intro gb272 hg w13 hbox hb;have n0_:=Aside0.mk (yP (by repeat (first|(with_reducible first|exact HB.out|apply yA|apply yB|apply yC)|exact HB.out)) hb);have n1_:=Aside0.mk (hbox);have n2_:=Aside0.mk ((by rw [hg];exact (yQ (by repeat (first|(with_reducible first|exact HB.out|apply yA|apply yB|apply yC)|exact HB.out))):w.heap.size≤gb272));have n3_:=Aside0.mk ((by rw [hg];exact (yQ (by repeat (first|(with_reducible first|exact HB.out|apply yA|apply yB|apply yC)|exact HB.out))):w.heap.size≤gb272));clear HB;have HB:=n0_;have BK272:=n1_;have GW272:=n2_;have GE272:=n3_;clear n0_ n1_ n2_ n3_;clear hb hbox hg;have hcz14_0:w13.cell? ⟨gb272,0,none⟩=some (.slice A0_0 l0_0.length c0_0):=(blk_cell BK272.out 0).trans rfl;have hcz14_1:w13.cell? ⟨gb272,1,none⟩=some (.slice A0_1 l0_1.length c0_1):=(blk_cell BK272.out 1).trans rfl;have hfz14_0:=blk_frozen BK272.out 0;have hfz14_1:=blk_frozen BK272.out 1;have p274:0≤((ji10):Int):=of_decide_eq_true (by first|(with_reducible assumption)|assumption);have q274:(ji10)<(l0_1.length:Int):=of_decide_eq_true (by first|(with_reducible assumption)|assumption);obtain ⟨ad274,e274,hx274_0⟩:=Kd.at_bool HR0_1.out (ji10) p274 q274;cases e274;replace hx274_0:=(HB.out.cell (World.block_lt_of_cell? w _ hx274_0)).trans hx274_0;replace p274:=eq_true p274;replace q274:=eq_true q274))
      repeat (go_quiet (first|((with_reducible refine gate_dst (N:=2) rfl ?_);refine box_event ?hg (N:=2) ?hd (cs:=#[.slice A0_0 l0_0.length c0_0,.slice A0_1 l0_1.length c0_1]) (t:=51) ?hr ?_;(case hd=>rfl);(case hg=>rfl);(case hr=>first|(go_simp;done)|(go_simp;rfl));intro gb272 hg w13 hbox hb;have n0_:=Aside0.mk (yP (by repeat (first|(with_reducible first|exact HB.out|apply yA|apply yB|apply yC)|exact HB.out)) hb);have n1_:=Aside0.mk (hbox);have n2_:=Aside0.mk ((by rw [hg];exact (yQ (by repeat (first|(with_reducible first|exact HB.out|apply yA|apply yB|apply yC)|exact HB.out))):w.heap.size≤gb272));have n3_:=Aside0.mk ((by rw [hg];exact (yQ (by repeat (first|(with_reducible first|exact HB.out|apply yA|apply yB|apply yC)|exact HB.out))):w.heap.size≤gb272));clear HB;have HB:=n0_;have BK272:=n1_;have GW272:=n2_;have GE272:=n3_;clear n0_ n1_ n2_ n3_;clear hb hbox hg;have hcz14_0:w13.cell? ⟨gb272,0,none⟩=some (.slice A0_0 l0_0.length c0_0):=(blk_cell BK272.out 0).trans rfl;have hcz14_1:w13.cell? ⟨gb272,1,none⟩=some (.slice A0_1 l0_1.length c0_1):=(blk_cell BK272.out 1).trans rfl;have hfz14_0:=blk_frozen BK272.out 0;have hfz14_1:=blk_frozen BK272.out 1;have p274:0≤((ji10):Int):=of_decide_eq_true (by first|(with_reducible assumption)|assumption);have q274:(ji10)<(l0_1.length:Int):=of_decide_eq_true (by first|(with_reducible assumption)|assumption);obtain ⟨ad274,e274,hx274_0⟩:=Kd.at_bool HR0_1.out (ji10) p274 q274;cases e274;replace hx274_0:=(HB.out.cell (World.block_lt_of_cell? w _ hx274_0)).trans hx274_0;replace p274:=eq_true p274;replace q274:=eq_true q274));try go_wp2_with (first|((with_reducible refine gate_dst (N:=2) rfl ?_);refine box_event ?hg (N:=2) ?hd (cs:=#[.slice A0_0 l0_0.length c0_0,.slice A0_1 l0_1.length c0_1]) (t:=51) ?hr ?_;(case hd=>rfl);(case hg=>rfl);(case hr=>first|(go_simp;done)|(go_simp;rfl));intro gb272 hg w13 hbox hb;have n0_:=Aside0.mk (yP (by repeat (first|(with_reducible first|exact HB.out|apply yA|apply yB|apply yC)|exact HB.out)) hb);have n1_:=Aside0.mk (hbox);have n2_:=Aside0.mk ((by rw [hg];exact (yQ (by repeat (first|(with_reducible first|exact HB.out|apply yA|apply yB|apply yC)|exact HB.out))):w.heap.size≤gb272));have n3_:=Aside0.mk ((by rw [hg];exact (yQ (by repeat (first|(with_reducible first|exact HB.out|apply yA|apply yB|apply yC)|exact HB.out))):w.heap.size≤gb272));clear HB;have HB:=n0_;have BK272:=n1_;have GW272:=n2_;have GE272:=n3_;clear n0_ n1_ n2_ n3_;clear hb hbox hg;have hcz14_0:w13.cell? ⟨gb272,0,none⟩=some (.slice A0_0 l0_0.length c0_0):=(blk_cell BK272.out 0).trans rfl;have hcz14_1:w13.cell? ⟨gb272,1,none⟩=some (.slice A0_1 l0_1.length c0_1):=(blk_cell BK272.out 1).trans rfl;have hfz14_0:=blk_frozen BK272.out 0;have hfz14_1:=blk_frozen BK272.out 1;have p274:0≤((ji10):Int):=of_decide_eq_true (by first|(with_reducible assumption)|assumption);have q274:(ji10)<(l0_1.length:Int):=of_decide_eq_true (by first|(with_reducible assumption)|assumption);obtain ⟨ad274,e274,hx274_0⟩:=Kd.at_bool HR0_1.out (ji10) p274 q274;cases e274;replace hx274_0:=(HB.out.cell (World.block_lt_of_cell? w _ hx274_0)).trans hx274_0;replace p274:=eq_true p274;replace q274:=eq_true q274)))
      go_ret
      exact ⟨by first|rfl|(simp [errW_none,errW_some]<;>rfl)|(simp only [← hji10];first|rfl|(simp [errW_none,errW_some]<;>rfl))|(simp [*,errW_none,errW_some]<;>rfl),by repeat (first|(with_reducible first|exact HB.out|apply yA|apply yB|apply yC|refine yD ?_ GE272.out)|exact HB.out)⟩
     ·rw [if_neg c12] at H
      exact absurd H (by simp)
    ·rw [if_neg c11] at H
     exact absurd H (by simp)

end Go.Proofs.Ytmlmnikafikchaa.P

namespace Go.Proofs.Ytmlmnikafikchaa.P
open Go.RowKit Go.Proofs.YtmlmnikafikchaaW.PrintWords Go.Proofs.YtmlmnikafikchaaW.PrintLast Go.Proofs.YtmlmnikafikchaaW.PrintMore
attribute [local go_sem] max2_int min2_int max_two min_two max_three min_three max_four min_four   -- for this text's walks alone
set_option linter.unusedVariables false
set_option linter.unusedSimpArgs false

/-! ### impl_signs: function 49 -/
def impl_signs.l0:Nat→List Bool→List Int→Int→Int→Option (List Bool × Bool)
 | 0,_,_,_,_=>none
 | k+1,x4,x8,x9,x10=>if x10<x9 then (if 0≤x10 then (if x10<(x8.length:Int) then (if (rd x8 x10)=48 then (if x4.length<140737488355328 then (impl_signs.l0 k (x4++[((rd x8 x10) == 49)]) x8 x9 (wrap64 (x10+1))) else (none)) else (if (rd x8 x10)=49 then (if x4.length<140737488355328 then (impl_signs.l0 k (x4++[true]) x8 x9 (wrap64 (x10+1))) else (none)) else (some (([]:List Bool),false)))) else (none)) else (none)) else (some (x4,decide ((x4.length:Int)≤60)))
def impl_signs.f (k:Nat) (a0:ByteArray):Option (List Bool × Bool):=(bytesConv.f a0).bind fun t282=>(impl_signs.l0 k ([]:List Bool) t282 (t282.length:Int) 0)
theorem impl_signs.mono_l:∀ k,(∀ y0 y1 y2 y3,LeO (impl_signs.l0 k y0 y1 y2 y3) (impl_signs.l0 (k+1) y0 y1 y2 y3))
 | 0=>fun _ _ _ _ r h=>by simp [impl_signs.l0] at h
 | k+1=>by
  have ih0:=impl_signs.mono_l k
  ·intro y0 y1 y2 y3
   unfold impl_signs.l0
   repeat' first
   | (with_reducible exact ih0 _ _ _ _)
   | (with_reducible exact LeO.refl _)
   | (with_reducible exact LeO.none _)
   | (with_reducible refine LeO.ite ?_ ?_)
   | (with_reducible refine LeO.bind ?_ (fun _=>?_))
   | exact ih0 _ _ _ _
   | exact LeO.none _
   | refine LeO.ite ?_ ?_
   | refine LeO.bind ?_ (fun _=>?_)
theorem impl_signs.mono:∀ a0 k,LeO (impl_signs.f k a0) (impl_signs.f (k+1) a0):=by
 intro a0 k
 have ih0:=impl_signs.mono_l k
 unfold impl_signs.f
 repeat' first
   | (with_reducible exact ih0 _ _ _ _)
   | (with_reducible exact LeO.refl _)
   | (with_reducible exact LeO.none _)
   | (with_reducible refine LeO.ite ?_ ?_)
   | (with_reducible refine LeO.bind ?_ (fun _=>?_))
   | exact ih0 _ _ _ _
   | exact LeO.none _
   | refine LeO.ite ?_ ?_
   | refine LeO.bind ?_ (fun _=>?_)
set_option maxHeartbeats 8000000 in
set_option maxRecDepth 100000 in
theorem impl_signs.calls (k:Nat) (a0:ByteArray) (r1:List Bool) (r2:Bool) (w:World) (h:impl_signs.f k a0=some (r1,r2)) :
  Calls Try.prog 49 #[.string a0] w fun e w'=>∃ v0_:Value,e=.returned (.tuple #[v0_,.bool r2])∧Kd.R Kd.bool 4 w' w.heap.size (fun _=>True) v0_ r1∧Below w.heap.size w w':=by
 have HB:=Aside0.mk (Below.refl w.heap.size w)
 have H:((bytesConv.f a0).bind fun t282=>(impl_signs.l0 k ([]:List Bool) t282 (t282.length:Int) 0))=some (r1,r2):=h
 clear h
 replace H:=Option.bind_eq_some_iff.mp H
 obtain ⟨t282,A20,H⟩:=H
 replace H:(impl_signs.l0 k ([]:List Bool) t282 (t282.length:Int) 0)=some (r1,r2):=H
 have A2:=Aside0.mk A20
 clear A20
 have H':=Aside0.mk H
 clear H
 go_enter Try.func49,Try.ntmps49
 go_wp2_with (first|((with_reducible refine gate_dst (N:=8) rfl ?_);refine conv_event (P:=Try.prog) 8 rfl rfl 9 22 5 Try.underlying9 Try.underlying22 Try.underlying5 a0 A2.out ⟨_,rfl,rfl⟩ ?_;intro v283 w3 ho0 hb;have n0_:=Aside0.mk (Kd.V_lower (Kd.V_mono (ok':=fun k_=>True) ho0 (fun k_ hk_=>trivial)) (yQ (by repeat (first|(with_reducible first|exact HB.out|apply yA|apply yB|apply yC)|exact HB.out))));have n1_:=Aside0.mk (yP (by repeat (first|(with_reducible first|exact HB.out|apply yA|apply yB|apply yC)|exact HB.out)) hb);clear HB;have HO284:=n0_;have HB:=n1_;clear n0_ n1_;(try clear hb);(try clear hb2);(try clear hk);(try clear hi);(try clear ho0);obtain ⟨Ao4,co4,eo4⟩:=Kd.V_slice HO284.out;subst eo4))
 go_loopg [4,10] k (fun kq v4 v10 w'=>∃ (x4_1:List Bool) (x10_1:Int),v10=.int .i64 x10_1∧Aside0 (impl_signs.l0 kq x4_1 t282 (t282.length:Int) x10_1=some (r1,r2))∧Aside0 (kq≤k)∧Aside0 (Kd.R Kd.bool 4 w' w.heap.size (fun _=>True) v4 x4_1)∧Aside0 (Kd.V (Kd.int .u8) 5 w' w.heap.size (fun k_=>some k_≠(v4:Value).ownBlock) (.slice Ao4 t282.length co4) t282)∧Aside0 (Below w.heap.size w w'))
 case atStart=>exact ⟨(([]:List Bool)),(0),(by first|rfl|(simp;done)|(simp [*];done)|(simp [Int.tmod_eq_emod_of_nonneg];done)),H',⟨Nat.le_refl _⟩,⟨by first|exact Kd.R_nil _ _ _ _ _|exact Kd.N_nil _ _ _ _ _|exact Kd.V_nil _ _ _ _ _|exact Kd.Q_nil _ _ _ _ _|exact Kd.S_nil _ _ _ _ _⟩,⟨by (with_reducible repeat (first|apply Kd.V_alloc|apply Kd.V_drewN|apply Kd.V_drew));exact Kd.V_mono HO284.out (fun _ hk=>(by simp [Value.ownBlock]))⟩,⟨by repeat (first|(with_reducible first|exact HB.out|apply yA|apply yB|apply yC)|exact HB.out)⟩⟩
 case round =>
  clear H'
  try clear c1
  try clear p2
  try clear c4
  obtain ⟨x4_1,x10_1,rfl,HA,HK1,HO_4,HO_8,HB⟩:=hrel
  cases gk with
  | zero=>exact absurd HA.out (by simp [impl_signs.l0])
  | succ k1 =>
   have H:=HA.out
   clear HA
   simp only [impl_signs.l0] at H
   by_cases c5:x10_1<(t282.length:Int)
   ·rw [if_pos c5] at H
    have c5b0:decide (x10_1<(t282.length:Int))=true:=decide_eq_true c5
    clear c5
    by_cases c6:0≤x10_1
    ·rw [if_pos c6] at H
     have c6b0:decide (0≤x10_1)=true:=decide_eq_true c6
     clear c6
     by_cases c7:x10_1<(t282.length:Int)
     ·rw [if_pos c7] at H
      have c7b0:decide (x10_1<(t282.length:Int))=true:=decide_eq_true c7
      clear c7
      by_cases c8:(rd t282 x10_1)=48
      ·rw [if_pos c8] at H
       have c8b0:((rd t282 x10_1) == 48)=true:=beq_iff_eq.mpr c8
       have c8b1:((rd t282 x10_1) != 48)=false:=bne_eq_false_iff_eq.mpr c8
       clear c8
       by_cases c9:x4_1.length<140737488355328
       ·rw [if_pos c9] at H
        have LMc9:=Aside0.mk c9
        clear c9
        obtain ⟨y286,hy286⟩:∃ y_:List Bool,y_=(x4_1++[((rd t282 x10_1) == 49)]):=⟨_,rfl⟩
        replace H:(impl_signs.l0 k1 y286 t282 (t282.length:Int) (wrap64 (x10_1+1)))=some (r1,r2):=by first|(rw [hy286];with_reducible exact H)|(have H2_:=(Option.bind_some _ _).symm.trans H;rw [hy286];with_reducible exact H2_)|(have H2_:=(Option.bind_some _ _).symm.trans H;with_reducible exact H2_)|with_reducible exact H|(rw [hy286];exact H)|exact H
        have Ny286:=Aside0.mk hy286
        clear hy286
        have H':=Aside0.mk H
        clear H
        have p285:0≤(x10_1:Int):=of_decide_eq_true (by first|(with_reducible assumption)|assumption)
        have q285:x10_1<(t282.length:Int):=of_decide_eq_true (by first|(with_reducible assumption)|assumption)
        obtain ⟨ad285,e285,hx285_0⟩:=Kd.at_int (Kd.V_reads' HO_8.out).2.2 x10_1 p285 q285
        cases e285
        replace p285:=eq_true p285
        replace q285:=eq_true q285
        go_wp2_with (first|((with_reducible refine gate_builtin (b:=.append) (xs:=#[.tmp 20,.tmp 23]) rfl ?_);at_builtin;refine Kd.R_append Kd.bool (w0:=w) w.heap.size rfl (.tmp 20) (.tmp 23) 49 4 (.bool false) 1 rfl Try.underlying49 info4 rfl (by decide) (by omega) u4 x4_1 ((rd t282 x10_1) == 49) [.bool ((rd t282 x10_1) == 49)] (fun _=>True) (fun _=>False) rfl rfl ?aP (fun _ hk=>hk.elim) ?aF ?aO ?aB ?aS ?aL ?_;(case aP=>exact rfl);(case aB=>exact (by repeat (first|(with_reducible first|exact HB.out|apply yA|apply yB|apply yC)|exact HB.out)));(case aF=>exact (fun _ _=>trivial));(case aO=>exact (by (with_reducible repeat (first|apply yH|apply yI|apply yJ));exact HO_4.out));(case aS=>exact (yQ (by repeat (first|(with_reducible first|exact HB.out|apply yA|apply yB|apply yC)|exact HB.out))));(case aL=>have:=LMc9.out;omega);intro v287 w10 ho hb hg hat;rw [← Ny286.out] at ho;have n0_:=Aside0.mk (Kd.V_afterv (ok:=(fun _=>True)) (by (with_reducible repeat (first|apply Kd.V_alloc|apply Kd.V_drewN|apply Kd.V_drew));exact Kd.V_mono HO_8.out (fun _ hk=>⟨trivial,hk⟩)) hg hat);have n1_:=Aside0.mk (hb);have n2_:=Aside0.mk (ho);clear HO_8;clear HB;clear HO_4;have HO_8:=n0_;have HB:=n1_;have HO288:=n2_;clear n0_ n1_ n2_;clear ho hb hg hat))
        go_roundg k1
        case measure=>have:=HK1.out;omega
        case rel=>exact ⟨(y286),(wrap64 (x10_1+1)),(by first|rfl|(simp;done)|(simp [*];done)|(simp [Int.tmod_eq_emod_of_nonneg];done)),H',⟨by have:=HK1.out;omega⟩,⟨by (with_reducible repeat (first|apply yH|apply yI|apply yJ));exact HO288.out⟩,⟨by (with_reducible repeat (first|apply Kd.V_alloc|apply Kd.V_drewN|apply Kd.V_drew));exact Kd.V_mono HO_8.out (fun _ hk=>hk.2)⟩,⟨by repeat (first|(with_reducible first|exact HB.out|apply yA|apply yB|apply yC)|exact HB.out)⟩⟩
       ·rw [if_neg c9] at H
        exact absurd H (by simp)
      ·rw [if_neg c8] at H
       have c8b0:((rd t282 x10_1) == 48)=false:=beq_eq_false_iff_ne.mpr c8
       have c8b1:((rd t282 x10_1) != 48)=true:=bne_iff_ne.mpr c8
       by_cases c11:(rd t282 x10_1)=49
       ·rw [if_pos c11] at H
        have c11b0:((rd t282 x10_1) == 49)=true:=beq_iff_eq.mpr c11
        have c11b1:((rd t282 x10_1) != 49)=false:=bne_eq_false_iff_eq.mpr c11
        clear c11
        by_cases c12:x4_1.length<140737488355328
        ·rw [if_pos c12] at H
         have LMc12:=Aside0.mk c12
         clear c12
         obtain ⟨y289,hy289⟩:∃ y_:List Bool,y_=(x4_1++[true]):=⟨_,rfl⟩
         replace H:(impl_signs.l0 k1 y289 t282 (t282.length:Int) (wrap64 (x10_1+1)))=some (r1,r2):=by first|(rw [hy289];with_reducible exact H)|(have H2_:=(Option.bind_some _ _).symm.trans H;rw [hy289];with_reducible exact H2_)|(have H2_:=(Option.bind_some _ _).symm.trans H;with_reducible exact H2_)|with_reducible exact H|(rw [hy289];exact H)|exact H
         have Ny289:=Aside0.mk hy289
         clear hy289
         have H':=Aside0.mk H
         clear H
         have p285:0≤(x10_1:Int):=of_decide_eq_true (by first|(with_reducible assumption)|assumption)
         have q285:x10_1<(t282.length:Int):=of_decide_eq_true (by first|(with_reducible assumption)|assumption)
         obtain ⟨ad285,e285,hx285_0⟩:=Kd.at_int (Kd.V_reads' HO_8.out).2.2 x10_1 p285 q285
         cases e285
         replace p285:=eq_true p285
         replace q285:=eq_true q285
         go_wp2_with (first|((with_reducible refine gate_builtin (b:=.append) (xs:=#[.tmp 20,.tmp 23]) rfl ?_);at_builtin;refine Kd.R_append Kd.bool (w0:=w) w.heap.size rfl (.tmp 20) (.tmp 23) 49 4 (.bool false) 1 rfl Try.underlying49 info4 rfl (by decide) (by omega) u4 x4_1 true [.bool true] (fun _=>True) (fun _=>False) rfl rfl ?aP (fun _ hk=>hk.elim) ?aF ?aO ?aB ?aS ?aL ?_;(case aP=>exact rfl);(case aB=>exact (by repeat (first|(with_reducible first|exact HB.out|apply yA|apply yB|apply yC)|exact HB.out)));(case aF=>exact (fun _ _=>trivial));(case aO=>exact (by (with_reducible repeat (first|apply yH|apply yI|apply yJ));exact HO_4.out));(case aS=>exact (yQ (by repeat (first|(with_reducible first|exact HB.out|apply yA|apply yB|apply yC)|exact HB.out))));(case aL=>have:=LMc12.out;omega);intro v290 w13 ho hb hg hat;rw [← Ny289.out] at ho;have n0_:=Aside0.mk (Kd.V_afterv (ok:=(fun _=>True)) (by (with_reducible repeat (first|apply Kd.V_alloc|apply Kd.V_drewN|apply Kd.V_drew));exact Kd.V_mono HO_8.out (fun _ hk=>⟨trivial,hk⟩)) hg hat);have n1_:=Aside0.mk (hb);have n2_:=Aside0.mk (ho);clear HO_8;clear HB;clear HO_4;have HO_8:=n0_;have HB:=n1_;have HO291:=n2_;clear n0_ n1_ n2_;clear ho hb hg hat))
         go_roundg k1
         case measure=>have:=HK1.out;omega
         case rel=>exact ⟨(y289),(wrap64 (x10_1+1)),(by first|rfl|(simp;done)|(simp [*];done)|(simp [Int.tmod_eq_emod_of_nonneg];done)),H',⟨by have:=HK1.out;omega⟩,⟨by (with_reducible repeat (first|apply yH|apply yI|apply yJ));exact HO291.out⟩,⟨by (with_reducible repeat (first|apply Kd.V_alloc|apply Kd.V_drewN|apply Kd.V_drew));exact Kd.V_mono HO_8.out (fun _ hk=>hk.2)⟩,⟨by repeat (first|(with_reducible first|exact HB.out|apply yA|apply yB|apply yC)|exact HB.out)⟩⟩
        ·rw [if_neg c12] at H
         exact absurd H (by simp)
       ·rw [if_neg c11] at H
        have c11b0:((rd t282 x10_1) == 49)=false:=beq_eq_false_iff_ne.mpr c11
        have c11b1:((rd t282 x10_1) != 49)=true:=bne_iff_ne.mpr c11
        simp only [Option.some.injEq,Prod.mk.injEq] at H
        obtain ⟨rfl,rfl⟩:=H
        have p285:0≤(x10_1:Int):=of_decide_eq_true (by first|(with_reducible assumption)|assumption)
        have q285:x10_1<(t282.length:Int):=of_decide_eq_true (by first|(with_reducible assumption)|assumption)
        obtain ⟨ad285,e285,hx285_0⟩:=Kd.at_int (Kd.V_reads' HO_8.out).2.2 x10_1 p285 q285
        cases e285
        replace p285:=eq_true p285
        replace q285:=eq_true q285
        go_wp2
        go_ret2
        exact ⟨_,by first|rfl|(simp [errW_none,errW_some]<;>rfl)|(simp [*,errW_none,errW_some]<;>rfl)|(simp [errW_none,errW_some];exact ⟨rfl,rfl⟩),by first|exact Kd.R_nil _ _ _ _ _|exact Kd.N_nil _ _ _ _ _|exact Kd.V_nil _ _ _ _ _|exact Kd.Q_nil _ _ _ _ _|exact Kd.S_nil _ _ _ _ _,by repeat (first|(with_reducible first|exact HB.out|apply yA|apply yB|apply yC)|exact HB.out)⟩
     ·rw [if_neg c7] at H
      exact absurd H (by simp)
    ·rw [if_neg c6] at H
     exact absurd H (by simp)
   ·rw [if_neg c5] at H
    have c5b0:decide (x10_1<(t282.length:Int))=false:=decide_eq_false c5
    clear c5
    simp only [Option.some.injEq,Prod.mk.injEq] at H
    obtain ⟨rfl,rfl⟩:=H
    obtain ⟨Ao14,co14,eo14⟩:=Kd.R_slice HO_4.out
    subst eo14
    go_wp2
    go_ret2
    exact ⟨_,by first|rfl|(simp [errW_none,errW_some]<;>rfl)|(simp [*,errW_none,errW_some]<;>rfl)|(simp [errW_none,errW_some];exact ⟨rfl,rfl⟩),by (with_reducible repeat (first|apply yH|apply yI|apply yJ));exact HO_4.out,by repeat (first|(with_reducible first|exact HB.out|apply yA|apply yB|apply yC)|exact HB.out)⟩

end Go.Proofs.Ytmlmnikafikchaa.P

namespace Go.Proofs.Ytmlmnikafikchaa.P
open Go.RowKit Go.Proofs.YtmlmnikafikchaaW.PrintWords Go.Proofs.YtmlmnikafikchaaW.PrintLast Go.Proofs.YtmlmnikafikchaaW.PrintMore
attribute [local go_sem] max2_int min2_int max_two min_two max_three min_three max_four min_four   -- for this text's walks alone
set_option linter.unusedVariables false
set_option linter.unusedSimpArgs false

/-! ### impl_turns: function 54 -/
def impl_turns.l0:Nat→List Bool→Int→Int→Int→Option (Bool)
 | 0,_,_,_,_=>none
 | k+1,x0,x1,x7,x8=>if x8<x7 then (if 0≤x8 then (if x8<(x0.length:Int) then (if x1=0 then (none) else (if 0≤(Int.tmod x8 x1) then (if (Int.tmod x8 x1)<(x0.length:Int) then (if ((rdOf false x0 x8) != (rdOf false x0 (Int.tmod x8 x1)))=true then (some false) else (impl_turns.l0 k x0 x1 x7 (wrap64 (x8+1)))) else (none)) else (none))) else (none)) else (none)) else (if x1=0 then (none) else (some (((x0.length:Int) % x1) == 0)))
def impl_turns.f (k:Nat) (l0:List Bool) (a1:Int):Option (Bool):=impl_turns.l0 k l0 a1 (l0.length:Int) 0
theorem impl_turns.mono_l:∀ k,(∀ y0 y1 y2 y3,LeO (impl_turns.l0 k y0 y1 y2 y3) (impl_turns.l0 (k+1) y0 y1 y2 y3))
 | 0=>fun _ _ _ _ r h=>by simp [impl_turns.l0] at h
 | k+1=>by
  have ih0:=impl_turns.mono_l k
  ·intro y0 y1 y2 y3
   unfold impl_turns.l0
   repeat' first
   | (with_reducible exact ih0 _ _ _ _)
   | (with_reducible exact LeO.refl _)
   | (with_reducible exact LeO.none _)
   | (with_reducible refine LeO.ite ?_ ?_)
   | (with_reducible refine LeO.bind ?_ (fun _=>?_))
   | exact ih0 _ _ _ _
   | exact LeO.none _
   | refine LeO.ite ?_ ?_
   | refine LeO.bind ?_ (fun _=>?_)
theorem impl_turns.mono:∀ a0 a1 k,LeO (impl_turns.f k a0 a1) (impl_turns.f (k+1) a0 a1):=by
 intro a0 a1 k
 have ih0:=impl_turns.mono_l k
 unfold impl_turns.f
 repeat' first
   | (with_reducible exact ih0 _ _ _ _)
   | (with_reducible exact LeO.refl _)
   | (with_reducible exact LeO.none _)
   | (with_reducible refine LeO.ite ?_ ?_)
   | (with_reducible refine LeO.bind ?_ (fun _=>?_))
   | exact ih0 _ _ _ _
   | exact LeO.none _
   | refine LeO.ite ?_ ?_
   | refine LeO.bind ?_ (fun _=>?_)
set_option maxHeartbeats 8000000 in
set_option maxRecDepth 100000 in
theorem impl_turns.calls (k:Nat) (A0:Option Addr) (c0:Nat) (l0:List Bool) (a1:Int) (r:Bool) (w:World) (hr0:Kd.C Kd.bool w A0 l0.length l0) (hc0:l0.length≤c0) (h:impl_turns.f k l0 a1=some r) :
  Calls Try.prog 54 #[.slice A0 l0.length c0,.int .i64 a1] w fun e w'=>e=.returned (.bool r)∧Drawn0 w w':=by
 have HR0:=Aside0.mk hr0
 have HC0:=Aside0.mk hc0
 clear hr0 hc0
 have H:(impl_turns.l0 k l0 a1 (l0.length:Int) 0)=some r:=h
 clear h
 have H':=Aside0.mk H
 clear H
 go_enter Try.func54,Try.ntmps54
 go_wp2
 repeat (go_quiet (fail);try go_wp2)
 go_loopg [8] k (fun kq v8 w'=>∃ (x8_1:Int),v8=.int .i64 x8_1∧Aside0 (impl_turns.l0 kq l0 a1 (l0.length:Int) x8_1=some r)∧Aside0 (kq≤k)∧Drawn0 w w')
 case atStart=>exact ⟨(0),(by first|rfl|(simp;done)|(simp [*];done)|(simp [Int.tmod_eq_emod_of_nonneg];done)),H',⟨Nat.le_refl _⟩,by repeat (first|exact Drawn0.refl _|apply Drawn0.step)⟩
 case round =>
  clear H'
  try clear p2
  obtain ⟨x8_1,rfl,HA,HK1,⟨m1,rfl⟩⟩:=hrel
  cases gk with
  | zero=>exact absurd HA.out (by simp [impl_turns.l0])
  | succ k1 =>
   have H:=HA.out
   clear HA
   simp only [impl_turns.l0] at H
   by_cases c3:x8_1<(l0.length:Int)
   ·rw [if_pos c3] at H
    have c3b0:decide (x8_1<(l0.length:Int))=true:=decide_eq_true c3
    clear c3
    by_cases c4:0≤x8_1
    ·rw [if_pos c4] at H
     have c4b0:decide (0≤x8_1)=true:=decide_eq_true c4
     clear c4
     by_cases c5:x8_1<(l0.length:Int)
     ·rw [if_pos c5] at H
      have c5b0:decide (x8_1<(l0.length:Int))=true:=decide_eq_true c5
      clear c5
      by_cases c6:a1=0
      ·rw [if_pos c6] at H
       exact absurd H (by simp)
      ·rw [if_neg c6] at H
       have c6b0:(a1 == 0)=false:=beq_eq_false_iff_ne.mpr c6
       have c6b1:(a1 != 0)=true:=bne_iff_ne.mpr c6
       obtain ⟨ji7,hji7⟩:∃ j_:Int,(Int.tmod x8_1 a1)=j_:=⟨_,rfl⟩
       replace H:(if 0≤(ji7) then (if (ji7)<(l0.length:Int) then (if ((rdOf false l0 x8_1) != (rdOf false l0 (ji7)))=true then (some false) else (impl_turns.l0 k1 l0 a1 (l0.length:Int) (wrap64 (x8_1+1)))) else (none)) else (none))=some r:=by first|(rw [hji7] at H;exact H)|(simp only [hji7] at H ⊢;exact H)
       by_cases c8:0≤(ji7)
       ·rw [if_pos c8] at H
        have c8b0:decide (0≤(ji7))=true:=decide_eq_true c8
        clear c8
        by_cases c9:(ji7)<(l0.length:Int)
        ·rw [if_pos c9] at H
         have c9b0:decide ((ji7)<(l0.length:Int))=true:=decide_eq_true c9
         clear c9
         by_cases c10:((rdOf false l0 x8_1) != (rdOf false l0 (ji7)))=true
         ·rw [if_pos c10] at H
          have c10b0:((rdOf false l0 x8_1) != (rdOf false l0 (ji7)))=true:=c10
          (try (have c10b1:decide ((rdOf false l0 x8_1)=(rdOf false l0 (ji7)))=false:=by simpa using c10))
          (try (have c10b2:((rdOf false l0 x8_1) == (rdOf false l0 (ji7)))=false:=by simpa using c10))
          (try (have c10b3:¬ ((rdOf false l0 x8_1)=(rdOf false l0 (ji7))):=by simpa using c10))
          clear c10
          obtain rfl:=Option.some.inj H
          have p237:0≤(x8_1:Int):=of_decide_eq_true (by first|(with_reducible assumption)|assumption)
          have q237:x8_1<(l0.length:Int):=of_decide_eq_true (by first|(with_reducible assumption)|assumption)
          obtain ⟨ad237,e237,hx237_0⟩:=Kd.at_bool HR0.out x8_1 p237 q237
          cases e237
          replace p237:=eq_true p237
          replace q237:=eq_true q237
          have p238:0≤((ji7):Int):=of_decide_eq_true (by first|(with_reducible assumption)|assumption)
          have q238:(ji7)<(l0.length:Int):=of_decide_eq_true (by first|(with_reducible assumption)|assumption)
          obtain ⟨ad238,e238,hx238_0⟩:=Kd.at_bool HR0.out (ji7) p238 q238
          obtain rfl:ad237=ad238:=(by injection e238)
          replace p238:=eq_true p238
          replace q238:=eq_true q238
          go_wp2
          repeat (go_quiet (fail);try go_wp2)
          go_ret
          exact ⟨by first|rfl|(simp;done)|(simp only [← hji7]<;>(first|rfl|simp))|(simp [*];done),by repeat (first|exact Drawn0.refl _|apply Drawn0.step)⟩
         ·rw [if_neg c10] at H
          have c10b0:((rdOf false l0 x8_1) != (rdOf false l0 (ji7)))=false:=by simpa using c10
          (try (have c10b1:decide ((rdOf false l0 x8_1)=(rdOf false l0 (ji7)))=true:=by simpa using c10))
          (try (have c10b2:((rdOf false l0 x8_1) == (rdOf false l0 (ji7)))=true:=by simpa using c10))
          clear c10
          have H':=Aside0.mk H
          clear H
          have p237:0≤(x8_1:Int):=of_decide_eq_true (by first|(with_reducible assumption)|assumption)
          have q237:x8_1<(l0.length:Int):=of_decide_eq_true (by first|(with_reducible assumption)|assumption)
          obtain ⟨ad237,e237,hx237_0⟩:=Kd.at_bool HR0.out x8_1 p237 q237
          cases e237
          replace p237:=eq_true p237
          replace q237:=eq_true q237
          have p238:0≤((ji7):Int):=of_decide_eq_true (by first|(with_reducible assumption)|assumption)
          have q238:(ji7)<(l0.length:Int):=of_decide_eq_true (by first|(with_reducible assumption)|assumption)
          obtain ⟨ad238,e238,hx238_0⟩:=Kd.at_bool HR0.out (ji7) p238 q238
          obtain rfl:ad237=ad238:=(by injection e238)
          replace p238:=eq_true p238
          replace q238:=eq_true q238
          go_wp2
          repeat (go_quiet (fail);try go_wp2)
          go_roundg k1
          case measure=>have:=HK1.out;omega
          case rel=>exact ⟨(wrap64 (x8_1+1)),(by first|rfl|(simp;done)|(simp [*];done)|(simp [Int.tmod_eq_emod_of_nonneg];done)),H',⟨by have:=HK1.out;omega⟩,by repeat (first|exact Drawn0.refl _|apply Drawn0.step)⟩
        ·rw [if_neg c9] at H
         exact absurd H (by simp)
       ·rw [if_neg c8] at H
        exact absurd H (by simp)
     ·rw [if_neg c5] at H
      exact absurd H (by simp)
    ·rw [if_neg c4] at H
     exact absurd H (by simp)
   ·rw [if_neg c3] at H
    have c3b0:decide (x8_1<(l0.length:Int))=false:=decide_eq_false c3
    clear c3
    by_cases c11:a1=0
    ·rw [if_pos c11] at H
     exact absurd H (by simp)
    ·rw [if_neg c11] at H
     have c11b0:(a1 == 0)=false:=beq_eq_false_iff_ne.mpr c11
     have c11b1:(a1 != 0)=true:=bne_iff_ne.mpr c11
     obtain rfl:=Option.some.inj H
     go_wp2
     repeat (go_quiet (fail);try go_wp2)
     go_ret
     exact ⟨by first|rfl|(simp;done)|(simp [*];done),by repeat (first|exact Drawn0.refl _|apply Drawn0.step)⟩

end Go.Proofs.Ytmlmnikafikchaa.P

namespace Go.Proofs.Ytmlmnikafikchaa.P
open Go.RowKit Go.Proofs.YtmlmnikafikchaaW.PrintWords Go.Proofs.YtmlmnikafikchaaW.PrintLast Go.Proofs.YtmlmnikafikchaaW.PrintMore
attribute [local go_sem] max2_int min2_int max_two min_two max_three min_three max_four min_four   -- for this text's walks alone
set_option linter.unusedVariables false
set_option linter.unusedSimpArgs false

/-! ### impl_set_tidy: function 43 -/
mutual
def impl_set_tidy.l0:Nat→Int→List Bool→List Bool→Option (List Bool × List Bool)
 | 0,_,_,_=>none
 | k+1,x3,x240000,x240001=>(impl_turns.f k x240001 x3).bind fun t241=>(if t241=true then ((slices_Clone_bool_bool.f x240000).bind fun t242=>(if 0≤x3 then (if x3≤(x240001.length:Int) then ((slices_Clone_bool_bool.f (x240001.take (x3:Int).toNat)).bind fun t246=>(impl_set_tidy.l1 k x3 t242 t246)) else (none)) else (none))) else (impl_set_tidy.l0 k (wrap64 (x3+1)) x240000 x240001))
def impl_set_tidy.l1:Nat→Int→List Bool→List Bool→Option (List Bool × List Bool)
 | 0,_,_,_=>none
 | k+1,x3,x4,x5=>if (x4.length:Int) > 0 then (if 0≤(wrap64 ((x4.length:Int) - 1)) then (if (wrap64 ((x4.length:Int) - 1))<(x4.length:Int) then (if 0≤(wrap64 (x3 - 1)) then (if (wrap64 (x3 - 1))<(x5.length:Int) then (if ((rdOf false x4 (wrap64 ((x4.length:Int) - 1))) == (rdOf false x5 (wrap64 (x3 - 1))))=true then (if (wrap64 ((x4.length:Int) - 1))≤(x4.length:Int) then ((some (([rdOf false x5 (wrap64 (x3 - 1))]:List Bool):List Bool)).bind fun y255=>(if (wrap64 (x3 - 1))≤(x5.length:Int) then ((some (x5.take ((wrap64 (x3 - 1)):Int).toNat:List Bool)).bind fun y258=>(if y255.length+y258.length<140737488355328 then (impl_set_tidy.l1 k x3 (x4.take ((wrap64 ((x4.length:Int) - 1)):Int).toNat) (y255++y258)) else (none))) else (none))) else (none)) else (some (x4,x5))) else (none)) else (none)) else (none)) else (none)) else (some (x4,x5))
end
def impl_set_tidy.f (k:Nat) (l0_0:List Bool) (l0_1:List Bool):Option (List Bool × List Bool):=impl_set_tidy.l0 k 1 l0_0 l0_1
theorem impl_set_tidy.mono_l:∀ k,(∀ y0 y1 y2,LeO (impl_set_tidy.l0 k y0 y1 y2) (impl_set_tidy.l0 (k+1) y0 y1 y2))∧(∀ y0 y1 y2,LeO (impl_set_tidy.l1 k y0 y1 y2) (impl_set_tidy.l1 (k+1) y0 y1 y2))
 | 0=>⟨fun _ _ _ r h=>by simp [impl_set_tidy.l0] at h,fun _ _ _ r h=>by simp [impl_set_tidy.l1] at h⟩
 | k+1=>by
  obtain ⟨ih0,ih1⟩:=impl_set_tidy.mono_l k
  refine ⟨?_,?_⟩
  ·intro y0 y1 y2
   unfold impl_set_tidy.l0
   repeat' first
   | (with_reducible exact ih0 _ _ _)
   | (with_reducible exact ih1 _ _ _)
   | (with_reducible exact impl_turns.mono _ _ _)
   | (with_reducible exact LeO.refl _)
   | (with_reducible exact LeO.none _)
   | (with_reducible refine LeO.ite ?_ ?_)
   | (with_reducible refine LeO.bind ?_ (fun _=>?_))
   | exact ih0 _ _ _
   | exact ih1 _ _ _
   | exact impl_turns.mono _ _ _
   | exact LeO.none _
   | refine LeO.ite ?_ ?_
   | refine LeO.bind ?_ (fun _=>?_)
  ·intro y0 y1 y2
   unfold impl_set_tidy.l1
   repeat' first
   | (with_reducible exact ih0 _ _ _)
   | (with_reducible exact ih1 _ _ _)
   | (with_reducible exact impl_turns.mono _ _ _)
   | (with_reducible exact LeO.refl _)
   | (with_reducible exact LeO.none _)
   | (with_reducible refine LeO.ite ?_ ?_)
   | (with_reducible refine LeO.bind ?_ (fun _=>?_))
   | exact ih0 _ _ _
   | exact ih1 _ _ _
   | exact impl_turns.mono _ _ _
   | exact LeO.none _
   | refine LeO.ite ?_ ?_
   | refine LeO.bind ?_ (fun _=>?_)
theorem impl_set_tidy.mono:∀ a0 a1 k,LeO (impl_set_tidy.f k a0 a1) (impl_set_tidy.f (k+1) a0 a1):=by
 intro a0 a1 k
 obtain ⟨ih0,ih1⟩:=impl_set_tidy.mono_l k
 unfold impl_set_tidy.f
 repeat' first
   | (with_reducible exact ih0 _ _ _)
   | (with_reducible exact ih1 _ _ _)
   | (with_reducible exact impl_turns.mono _ _ _)
   | (with_reducible exact LeO.refl _)
   | (with_reducible exact LeO.none _)
   | (with_reducible refine LeO.ite ?_ ?_)
   | (with_reducible refine LeO.bind ?_ (fun _=>?_))
   | exact ih0 _ _ _
   | exact ih1 _ _ _
   | exact impl_turns.mono _ _ _
   | exact LeO.none _
   | refine LeO.ite ?_ ?_
   | refine LeO.bind ?_ (fun _=>?_)
def impl_set_tidy.T4:Bool × List (List Nat × List Nat):=(true,[([],[]),([0],[0]),([1],[1]),([],[]),([3],[3]),([],[]),([4,5],[4,5]),([6,2],[6]),([2,7,0,1,2],[2]),([7,8,0,1,2,3,4,5,6,7,8],[7])])
def impl_set_tidy.B4:List Nat:=[0,1,3,0,8,0,56,127,255,511]
theorem impl_set_tidy.tab4:rtab .any (opsOf Try.f43 4)=impl_set_tidy.T4:=by kernel_rfl
theorem impl_set_tidy.bits4:waitsOk impl_set_tidy.T4.2 impl_set_tidy.B4=true:=by kernel_rfl
def impl_set_tidy.T5:Bool × List (List Nat × List Nat):=(true,[([],[]),([0],[0]),([1],[1]),([2],[2]),([3],[3]),([3],[3]),([5,3],[3,5]),([6,3],[3,6]),([4,7,3],[3,4,7]),([8,3],[3,8]),([3],[3]),([3],[3]),([11,3],[3,11]),([10,12,3],[3,10,12]),([13,3],[3,13]),([9,14,3],[3,9,14]),([3,15],[3,15])])
def impl_set_tidy.B5:List Nat:=[0,1,3,7,15,15,47,111,255,511,15,15,2063,7183,15375,32767,65535]
theorem impl_set_tidy.tab5:rtab .any (opsOf Try.f43 5)=impl_set_tidy.T5:=by kernel_rfl
theorem impl_set_tidy.bits5:waitsOk impl_set_tidy.T5.2 impl_set_tidy.B5=true:=by kernel_rfl
def impl_set_tidy.T7:Bool × List (List Nat × List Nat):=(true,[([],[]),([],[]),([1],[1]),([0,2],[0,2]),([3],[3]),([4],[4]),([],[]),([],[]),([7],[7]),([6,8],[6,8]),([5,9],[5,9]),([10,10,0,1,2,3,4,5,6,7,8,9,10],[0,6,10])])
def impl_set_tidy.B7:List Nat:=[0,0,2,7,15,31,0,0,128,448,1023,2047]
theorem impl_set_tidy.tab7:rtab .any (opsOf Try.f43 7)=impl_set_tidy.T7:=by kernel_rfl
theorem impl_set_tidy.bits7:waitsOk impl_set_tidy.T7.2 impl_set_tidy.B7=true:=by kernel_rfl
set_option maxHeartbeats 8000000 in
set_option maxRecDepth 100000 in
theorem impl_set_tidy.calls (k:Nat) (A0_0:Option Addr) (c0_0:Nat) (l0_0:List Bool) (A0_1:Option Addr) (c0_1:Nat) (l0_1:List Bool) (r1:List Bool) (r2:List Bool) (w:World) (hr0_0:Kd.C Kd.bool w A0_0 l0_0.length l0_0) (hc0_0:l0_0.length≤c0_0) (hr0_1:Kd.C Kd.bool w A0_1 l0_1.length l0_1) (hc0_1:l0_1.length≤c0_1) (h:impl_set_tidy.f k l0_0 l0_1=some (r1,r2)) :
  Calls Try.prog 43 #[.agg #[.slice A0_0 l0_0.length c0_0,.slice A0_1 l0_1.length c0_1]] w fun e w'=>∃ v0_ v1_:Value,e=.returned (.agg #[v0_,v1_])∧Kd.R Kd.bool 4 w' w.heap.size (fun k_=>some k_≠(v1_:Value).ownBlock) v0_ r1∧Kd.R Kd.bool 4 w' w.heap.size (fun k_=>some k_≠(v0_:Value).ownBlock) v1_ r2∧Below w.heap.size w w':=by
 have hu51:=Try.underlying51
 have HR0_0:=Aside0.mk hr0_0
 have HC0_0:=Aside0.mk hc0_0
 clear hr0_0 hc0_0
 have HR0_1:=Aside0.mk hr0_1
 have HC0_1:=Aside0.mk hc0_1
 clear hr0_1 hc0_1
 have HB:=Aside0.mk (Below.refl w.heap.size w)
 have H:(impl_set_tidy.l0 k 1 l0_0 l0_1)=some (r1,r2):=h
 clear h
 have H':=Aside0.mk H
 clear H
 go_enter Try.func43,Try.ntmps43
 go_wp2_with (first|((with_reducible refine gate_dst (N:=1) rfl ?_);(try (refine gate_guard (by rfl) ?_;dsimp only));refine box_event ?hg (N:=1) ?hd (cs:=#[.slice A0_0 l0_0.length c0_0,.slice A0_1 l0_1.length c0_1]) (t:=51) ?hr ?_;(case hd=>rfl);(case hg=>rfl);(case hr=>first|(go_simp;done)|(go_simp;rfl));intro gb239 hg w2 hbox hb;have n0_:=Aside0.mk (yP (by repeat (first|(with_reducible first|exact HB.out|apply yA|apply yB|apply yC)|exact HB.out)) hb);have n1_:=Aside0.mk (hbox);have n2_:=Aside0.mk ((by rw [hg];exact (yQ (by repeat (first|(with_reducible first|exact HB.out|apply yA|apply yB|apply yC)|exact HB.out))):w.heap.size≤gb239));have n3_:=Aside0.mk ((by rw [hg];exact (yQ (by repeat (first|(with_reducible first|exact HB.out|apply yA|apply yB|apply yC)|exact HB.out))):w.heap.size≤gb239));clear HB;have HB:=n0_;have BK239:=n1_;have GW239:=n2_;have GE239:=n3_;clear n0_ n1_ n2_ n3_;clear hb hbox hg)|((with_reducible refine gate_dst (N:=2) rfl ?_);(try (refine gate_guard (by rfl) ?_;dsimp only));refine box_event ?hg (N:=2) ?hd (cs:=#[.slice none 0 0,.slice none 0 0]) (t:=51) ?hr ?_;(case hd=>rfl);(case hg=>rfl);(case hr=>first|(go_simp;done)|(go_simp;rfl));intro gb240 hg w3 hbox hb;have n0_:=Aside0.mk (blk_below (g:=gb239) (o:=.cells #[.slice A0_0 l0_0.length c0_0,.slice A0_1 l0_1.length c0_1] 51 (0,0)) (by (with_reducible repeat (first|refine yE ?_ _|refine yF ?_|refine yG ?_ _));exact BK239.out) hb);have n1_:=Aside0.mk (yP (by repeat (first|(with_reducible first|exact HB.out|apply yA|apply yB|apply yC|refine yD ?_ GE239.out)|exact HB.out)) hb);have n2_:=Aside0.mk (hbox);have n3_:=Aside0.mk ((by rw [hg];exact (yQ (by repeat (first|(with_reducible first|exact HB.out|apply yA|apply yB|apply yC|refine yD ?_ GE239.out)|exact HB.out))):w.heap.size≤gb240));have n4_:=Aside0.mk ((by rw [hg];exact (yQ (by repeat (first|(with_reducible first|exact HB.out|apply yA|apply yB|apply yC|refine yD ?_ GE239.out)|exact HB.out))):w.heap.size≤gb240));have n5_:=Aside0.mk ((by rw [hg];exact Nat.ne_of_lt (blk_lt (g:=gb239) (o:=.cells #[.slice A0_0 l0_0.length c0_0,.slice A0_1 l0_1.length c0_1] 51 (0,0)) (by (with_reducible repeat (first|refine yE ?_ _|refine yF ?_|refine yG ?_ _));exact BK239.out)):gb239≠gb240));have n6_:=Aside0.mk ((by rw [hg];exact Nat.ne_of_gt (blk_lt (g:=gb239) (o:=.cells #[.slice A0_0 l0_0.length c0_0,.slice A0_1 l0_1.length c0_1] 51 (0,0)) (by (with_reducible repeat (first|refine yE ?_ _|refine yF ?_|refine yG ?_ _));exact BK239.out)):gb240≠gb239));clear BK239;clear HB;have BK239:=n0_;have HB:=n1_;have BK240:=n2_;have GW240:=n3_;have GE240:=n4_;have NB239_240:=n5_;have NB240_239:=n6_;clear n0_ n1_ n2_ n3_ n4_ n5_ n6_;clear hb hbox hg))
 go_loopg [3] k (fun kq v3 w'=>∃ (x3_1:Int),v3=.int .i64 x3_1∧Aside0 (impl_set_tidy.l0 kq x3_1 l0_0 l0_1=some (r1,r2))∧Aside0 (kq≤k)∧Aside0 (w'.heap[gb239]?=some (.cells #[(.slice A0_0 l0_0.length c0_0),(.slice A0_1 l0_1.length c0_1)] 51 (0,0)))∧Aside0 (w'.heap[gb240]?=some (.cells #[(.slice none 0 0),(.slice none 0 0)] 51 (0,0)))∧Aside0 (Below w.heap.size w w'))
 case atStart=>exact ⟨(1),(by first|rfl|(simp;done)|(simp [*];done)|(simp [Int.tmod_eq_emod_of_nonneg];done)),H',⟨Nat.le_refl _⟩,⟨by (with_reducible repeat (first|refine yE ?_ _|refine yF ?_|refine yG ?_ _));exact BK239.out⟩,⟨by (with_reducible repeat (first|refine yE ?_ _|refine yF ?_|refine yG ?_ _));exact BK240.out⟩,⟨by repeat (first|(with_reducible first|exact HB.out|apply yA|apply yB|apply yC|refine yD ?_ GE239.out|refine yD ?_ GE240.out)|exact HB.out)⟩⟩
 case round =>
  clear H'
  try clear p2
  obtain ⟨x3_1,rfl,HA,HK1,BK239,BK240,HB⟩:=hrel
  cases gk with
  | zero=>exact absurd HA.out (by simp [impl_set_tidy.l0])
  | succ k1 =>
   have H:=HA.out
   clear HA
   simp only [impl_set_tidy.l0] at H
   replace H:=Option.bind_eq_some_iff.mp H
   obtain ⟨t241,A40,H⟩:=H
   replace H:(if t241=true then ((slices_Clone_bool_bool.f l0_0).bind fun t242=>(if 0≤x3_1 then (if x3_1≤(l0_1.length:Int) then ((slices_Clone_bool_bool.f (l0_1.take (x3_1:Int).toNat)).bind fun t246=>(impl_set_tidy.l1 k1 x3_1 t242 t246)) else (none)) else (none))) else (impl_set_tidy.l0 k1 (wrap64 (x3_1+1)) l0_0 l0_1))=some (r1,r2):=H
   have A4:=Aside0.mk A40
   clear A40
   by_cases c5:t241=true
   ·subst c5
    have H1:((slices_Clone_bool_bool.f l0_0).bind fun t242=>(if 0≤x3_1 then (if x3_1≤(l0_1.length:Int) then ((slices_Clone_bool_bool.f (l0_1.take (x3_1:Int).toNat)).bind fun t246=>(impl_set_tidy.l1 k1 x3_1 t242 t246)) else (none)) else (none)))=some (r1,r2):=by rw [if_pos rfl] at H;exact H
    clear H
    have H:=H1
    clear H1
    replace H:=Option.bind_eq_some_iff.mp H
    obtain ⟨t242,A60,H⟩:=H
    replace H:(if 0≤x3_1 then (if x3_1≤(l0_1.length:Int) then ((slices_Clone_bool_bool.f (l0_1.take (x3_1:Int).toNat)).bind fun t246=>(impl_set_tidy.l1 k1 x3_1 t242 t246)) else (none)) else (none))=some (r1,r2):=H
    have A6:=Aside0.mk A60
    clear A60
    by_cases c7:0≤x3_1
    ·rw [if_pos c7] at H
     have c7b0:=eq_true c7
     have c7b1:decide (0≤x3_1)=true:=decide_eq_true c7
     clear c7
     by_cases c8:x3_1≤(l0_1.length:Int)
     ·rw [if_pos c8] at H
      have c8b0:=eq_true c8
      have c8b1:decide (x3_1≤(l0_1.length:Int))=true:=decide_eq_true c8
      clear c8
      replace H:=Option.bind_eq_some_iff.mp H
      obtain ⟨t246,A90,H⟩:=H
      replace H:(impl_set_tidy.l1 k1 x3_1 t242 t246)=some (r1,r2):=H
      have A9:=Aside0.mk A90
      clear A90
      have H':=Aside0.mk H
      clear H
      have hnb10:=NB239_240.out
      have hnc10:=NB240_239.out
      have hcz11_0:wr.cell? ⟨gb239,0,none⟩=some (.slice A0_0 l0_0.length c0_0):=(blk_cell BK239.out 0).trans rfl
      have hcz11_1:wr.cell? ⟨gb239,1,none⟩=some (.slice A0_1 l0_1.length c0_1):=(blk_cell BK239.out 1).trans rfl
      have hfz11_0:=blk_frozen BK239.out 0
      have hfz11_1:=blk_frozen BK239.out 1
      try go_wp2_with (first|((with_reducible refine gate_callee (f:=54) rfl ?_);refine goesL_ (some 9) rfl rfl Try.func54 (by kernel_rfl) rfl #[.slice A0_1 l0_1.length c0_1,.int .i64 x3_1] rfl (by (try simp only [List.map_toArray,List.map_cons,List.map_nil]);first|done|rfl|(simp only [List.length_drop,List.length_take];rfl)) ?_;(with_reducible refine (impl_turns.calls k1 _ _ l0_1 x3_1 true _ ?side1 ?side2 A4.out).mono ?_);(case side1=>repeat (first|exact (Kd.C_below HR0_1.out HB.out)|(with_reducible refine Kd.C_alloc ?_ _)|(with_reducible refine Kd.C_drewN ?_ _)|(with_reducible refine Kd.C_drew ?_)));(case side2=>exact HC0_1.out);rintro e w' ⟨rfl,⟨nd,rfl⟩⟩;refine ⟨_,rfl,?_⟩))
      (try (rw [drewN_self wr];generalize hq_:World.drewN wr _=wr;have n0_:Aside0 (wr.heap[gb239]?=some (.cells #[.slice A0_0 l0_0.length c0_0,.slice A0_1 l0_1.length c0_1] 51 (0,0))):=⟨by rw [← hq_];exact (by (with_reducible repeat (first|refine yE ?_ _|refine yF ?_|refine yG ?_ _));exact BK239.out)⟩;have n1_:Aside0 (wr.heap[gb240]?=some (.cells #[.slice none 0 0,.slice none 0 0] 51 (0,0))):=⟨by rw [← hq_];exact (by (with_reducible repeat (first|refine yE ?_ _|refine yF ?_|refine yG ?_ _));exact BK240.out)⟩;have n2_:Aside0 (Below w.heap.size w wr):=⟨by rw [← hq_];exact (by repeat (first|(with_reducible first|exact HB.out|apply yA|apply yB|apply yC|refine yD ?_ GE239.out|refine yD ?_ GE240.out)|exact HB.out))⟩;clear BK239 BK240 HB hq_;have BK239:=n0_;have BK240:=n1_;have HB:=n2_;clear n0_ n1_ n2_))
      have n0_:=Aside0.mk (yF BK239.out)
      have n1_:=Aside0.mk (yF BK240.out)
      have n2_:=Aside0.mk (yC HB.out)
      clear BK239
      clear BK240
      clear HB
      have BK239:=n0_
      have BK240:=n1_
      have HB:=n2_
      clear n0_ n1_ n2_
      obtain ⟨i013,hi013,_,hsz13,_⟩:=info_parts info4
      obtain ⟨hcut13,hA13,hC13⟩:=print_take_of (P:=Try.prog) Value.bool false 49 4 .i64 Try.underlying49 hi013 hsz13 A0_1 c0_1 l0_1 x3_1 (of_decide_eq_true (by first|(with_reducible assumption)|assumption)) (of_decide_eq_true (by first|(with_reducible assumption)|assumption)) HC0_1.out
      have HR245:=Aside0.mk (Kd.C_of_reads (h1:=fun _=>rfl) (hA13 _ (Kd.reads_of_C HR0_1.out)))
      have HC245:=Aside0.mk hC13
      clear hA13 hC13 hi013 hsz13
      refine start_ (n:=10) (S:=fun w'=>w'.cell? ⟨gb239,0,none⟩=some (.slice A0_0 l0_0.length c0_0)∧w'.cell? ⟨gb239,1,none⟩=some (.slice A0_1 l0_1.length c0_1)) (ds:=[]) #[false,false,false,false,false,false,false,false,false,false] (by kernel_rfl) rfl rfl ⟨(blk_cell BK239.out 0).trans rfl,(blk_cell BK239.out 1).trans rfl⟩ (fun hHeld=>?_);refine with_tabW impl_set_tidy.tab4 impl_set_tidy.bits4 (fun HT_ HW_=>?_)
      generalize wr.drew=w12 at BK239 BK240 HB HR245 hHeld ⊢
      refine pure_ (i:=0) (N:=some 13) (v:=?_) (a':=?_) #[true,false,false,false,false,false,false,false,false,false] rfl rfl (any_of HT_.out (by kernel_rfl)) (fun _ _ _ h=>h) (Or.inl ⟨by rfl,?_⟩) ?_ ?_
      rotate_left
      ·intro w'
       go_simp
       with_reducible rfl
      rotate_left
      ·simp only [Act.put,yK,yL,yM,i64_w,i32_w]
       rfl
      refine pure_ (i:=3) (N:=some 16) (v:=?_) (a':=?_) #[true,false,false,true,false,false,false,false,false,false] rfl rfl (any_of HT_.out (by kernel_rfl)) (fun _ _ _ h=>h) (Or.inl ⟨by rfl,?_⟩) ?_ ?_
      rotate_left
      ·intro w'
       go_simp
       with_reducible rfl
      rotate_left
      ·simp only [Act.put,yK,yL,yM,i64_w,i32_w]
       rfl
      refine pure_ (i:=5) (N:=some 18) (v:=?_) (a':=?_) #[true,false,false,true,false,true,false,false,false,false] rfl rfl (any_of HT_.out (by kernel_rfl)) (fun _ _ _ h=>h) (Or.inl ⟨by rfl,?_⟩) ?_ ?_
      rotate_left
      ·intro w'
       go_simp
       with_reducible rfl
      rotate_left
      ·simp only [Act.put,yK,yL,yM,i64_w,i32_w]
       rfl
      refine take_ (i:=1) (N:=some 14) (v:=?_) (a':=?_) #[true,true,false,true,false,true,false,false,false,false] rfl rfl (take_ofW HT_.out HW_.out (by kernel_rfl)) (fun _ _ _ h=>h) (Or.inl ⟨by rfl,?_⟩) hHeld ?_ ?_
      rotate_left
      ·rintro w' ⟨s0,s1⟩
       go_simp
       with_reducible rfl
      rotate_left
      ·simp only [Act.put,yK,yL,yM,i64_w,i32_w]
       rfl
      refine take_ (i:=4) (N:=some 17) (v:=?_) (a':=?_) #[true,true,false,true,true,true,false,false,false,false] rfl rfl (take_ofW HT_.out HW_.out (by kernel_rfl)) (fun _ _ _ h=>h) (Or.inl ⟨by rfl,?_⟩) hHeld ?_ ?_
      rotate_left
      ·rintro w' ⟨s0,s1⟩
       go_simp
       with_reducible rfl
      rotate_left
      ·simp only [Act.put,yK,yL,yM,i64_w,i32_w]
       rfl
      refine pure_ (i:=6) (N:=some 19) (v:=?_) (a':=?_) #[true,true,false,true,true,true,true,false,false,false] rfl rfl (any_of HT_.out (by kernel_rfl)) (fun _ _ _ h=>h) (Or.inl ⟨by rfl,?_⟩) ?_ ?_
      rotate_left
      ·intro w'
       go_simp
       with_reducible rfl
      rotate_left
      ·simp only [Act.put,yK,yL,yM,i64_w,i32_w]
       rfl
      refine one_ (i:=2) (N:=some 15) #[true,true,true,true,true,true,true,false,false,false] rfl rfl (one_of HT_.out (by kernel_rfl)) (by decide) (fun K hK=>?_)
      refine goes_ Try.func55 (by kernel_rfl) rfl #[.slice A0_0 l0_0.length c0_0] (by rfl) rfl rfl (by (try simp only [List.map_toArray,List.map_cons,List.map_nil]);first|done|rfl|(simp only [List.length_drop,List.length_take];rfl)) ?_
      with_reducible refine (slices_Clone_bool_bool.calls _ _ l0_0 t242 _ ?side1 ?side2 A6.out).mono ?_
      (case side1=>repeat (first|exact (Kd.C_below HR0_0.out HB.out)|(with_reducible refine Kd.C_alloc ?_ _)|(with_reducible refine Kd.C_drewN ?_ _)|(with_reducible refine Kd.C_drew ?_)))
      (case side2=>exact HC0_0.out)
      rintro e w14 ⟨v243,rfl,ho0,hb⟩
      refine ⟨_,rfl,?_⟩
      have n0_:=Aside0.mk (Kd.R_lower ho0 (yQ (by repeat (first|(with_reducible first|exact HB.out|apply yA|apply yB|apply yC|refine yD ?_ GE239.out|refine yD ?_ GE240.out)|exact HB.out))))
      have n1_:=Aside0.mk (blk_below (g:=gb239) (o:=.cells #[.slice A0_0 l0_0.length c0_0,.slice A0_1 l0_1.length c0_1] 51 (0,0)) (by (with_reducible repeat (first|refine yE ?_ _|refine yF ?_|refine yG ?_ _));exact BK239.out) hb)
      have n2_:=Aside0.mk (blk_below (g:=gb240) (o:=.cells #[.slice none 0 0,.slice none 0 0] 51 (0,0)) (by (with_reducible repeat (first|refine yE ?_ _|refine yF ?_|refine yG ?_ _));exact BK240.out) hb)
      have n3_:=Aside0.mk (yP (by repeat (first|(with_reducible first|exact HB.out|apply yA|apply yB|apply yC|refine yD ?_ GE239.out|refine yD ?_ GE240.out)|exact HB.out)) hb)
      clear BK239
      clear BK240
      clear HB
      have HO244:=n0_
      have BK239:=n1_
      have BK240:=n2_
      have HB:=n3_
      clear n0_ n1_ n2_ n3_
      (try clear hb)
      (try clear hb2)
      (try clear hk)
      (try clear hi)
      (try clear ho0)
      refine hK.out _ _ ⟨(blk_cell BK239.out 0).trans rfl,(blk_cell BK239.out 1).trans rfl⟩ (fun hHeld=>?_)
      clear hK K
      refine norm_ (a':=?_) ?_ ?_
      rotate_left
      ·show Act.put _ (some 15) _=_
       simp only [Act.put,yK,yL,yM,i64_w,i32_w]
       rfl
      refine one_ (i:=7) (N:=some 20) #[true,true,true,true,true,true,true,true,false,false] rfl rfl (one_of HT_.out (by kernel_rfl)) (by decide) (fun K hK=>?_)
      refine goes_ Try.func55 (by kernel_rfl) rfl #[.slice A0_1 (l0_1.take (x3_1:Int).toNat).length c0_1] (by rfl) rfl rfl (by (try simp only [List.map_toArray,List.map_cons,List.map_nil]);first|done|(rw [show (l0_1.take (x3_1:Int).toNat).length=x3_1.toNat from (by rw [List.length_take];have h_:(x3_1:Int)≤(l0_1.length:Int):=of_decide_eq_true (by first|(with_reducible assumption)|assumption);omega)]<;>rfl)|rfl|(simp only [List.length_drop,List.length_take];rfl)) ?_
      with_reducible refine (slices_Clone_bool_bool.calls _ _ (l0_1.take (x3_1:Int).toNat) t246 _ ?side1 ?side2 A9.out).mono ?_
      (case side1=>repeat (first|exact (Kd.C_below HR245.out HB.out)|(with_reducible refine Kd.C_alloc ?_ _)|(with_reducible refine Kd.C_drewN ?_ _)|(with_reducible refine Kd.C_drew ?_)))
      (case side2=>exact HC245.out)
      rintro e w15 ⟨v247,rfl,ho0,hb⟩
      refine ⟨_,rfl,?_⟩
      have n0_:=Aside0.mk (Kd.R_elder' (by (with_reducible repeat (first|apply yH|apply yI|apply yJ));exact HO244.out) (Kd.R_base ho0) hb)
      have n1_:=Aside0.mk (Kd.R_lower (Kd.R_new' ho0 (Kd.R_lt (by (with_reducible repeat (first|apply yH|apply yI|apply yJ));exact HO244.out))) (yQ (by repeat (first|(with_reducible first|exact HB.out|apply yA|apply yB|apply yC|refine yD ?_ GE239.out|refine yD ?_ GE240.out)|exact HB.out))))
      have n2_:=Aside0.mk (blk_below (g:=gb239) (o:=.cells #[.slice A0_0 l0_0.length c0_0,.slice A0_1 l0_1.length c0_1] 51 (0,0)) (by (with_reducible repeat (first|refine yE ?_ _|refine yF ?_|refine yG ?_ _));exact BK239.out) hb)
      have n3_:=Aside0.mk (blk_below (g:=gb240) (o:=.cells #[.slice none 0 0,.slice none 0 0] 51 (0,0)) (by (with_reducible repeat (first|refine yE ?_ _|refine yF ?_|refine yG ?_ _));exact BK240.out) hb)
      have n4_:=Aside0.mk (yP (by repeat (first|(with_reducible first|exact HB.out|apply yA|apply yB|apply yC|refine yD ?_ GE239.out|refine yD ?_ GE240.out)|exact HB.out)) hb)
      clear HO244
      clear BK239
      clear BK240
      clear HB
      have HO244:=n0_
      have HO248:=n1_
      have BK239:=n2_
      have BK240:=n3_
      have HB:=n4_
      clear n0_ n1_ n2_ n3_ n4_
      (try clear hb)
      (try clear hb2)
      (try clear hk)
      (try clear hi)
      (try clear ho0)
      refine hK.out _ _ ⟨(blk_cell BK239.out 0).trans rfl,(blk_cell BK239.out 1).trans rfl⟩ (fun hHeld=>?_)
      clear hK K
      refine norm_ (a':=?_) ?_ ?_
      rotate_left
      ·show Act.put _ (some 20) _=_
       simp only [Act.put,yK,yL,yM,i64_w,i32_w]
       rfl
      refine pure_ (i:=8) (N:=some 4) (v:=?_) (a':=?_) #[true,true,true,true,true,true,true,true,true,false] rfl rfl (any_of HT_.out (by kernel_rfl)) (fun _ _ _ h=>h) (Or.inl ⟨by rfl,?_⟩) ?_ ?_
      rotate_left
      ·intro w'
       go_simp
       with_reducible rfl
      rotate_left
      ·simp only [Act.put,yK,yL,yM,i64_w,i32_w]
       rfl
      refine pure_ (i:=9) (N:=some 5) (v:=?_) (a':=?_) #[true,true,true,true,true,true,true,true,true,true] rfl rfl (any_of HT_.out (by kernel_rfl)) (fun _ _ _ h=>h) (Or.inl ⟨by rfl,?_⟩) ?_ ?_
      rotate_left
      ·intro w'
       go_simp
       with_reducible rfl
      rotate_left
      ·simp only [Act.put,yK,yL,yM,i64_w,i32_w]
       rfl
      refine done_ (done_of HT_.out (by kernel_rfl)) ?_
      try go_wp2
      go_loopg [4,5] k1 (fun kq v4 v5 w'=>∃ (x4_2:List Bool) (x5_2:List Bool),Aside0 (impl_set_tidy.l1 kq x3_1 x4_2 x5_2=some (r1,r2))∧Aside0 (kq≤k1)∧Aside0 (Kd.R Kd.bool 4 w' w.heap.size (fun k_=>some k_≠(v5:Value).ownBlock) v4 x4_2)∧Aside0 (Kd.R Kd.bool 4 w' w.heap.size (fun k_=>some k_≠(v4:Value).ownBlock) v5 x5_2)∧Aside0 (w'.heap[gb239]?=some (.cells #[(.slice A0_0 l0_0.length c0_0),(.slice A0_1 l0_1.length c0_1)] 51 (0,0)))∧Aside0 (w'.heap[gb240]?=some (.cells #[(.slice none 0 0),(.slice none 0 0)] 51 (0,0)))∧Aside0 (Below w.heap.size w w'))
      case atStart=>exact ⟨(t242),(t246),H',⟨Nat.le_refl _⟩,⟨by (with_reducible repeat (first|apply yH|apply yI|apply yJ));exact Kd.R_mono HO244.out (fun _ hk=>hk.2)⟩,⟨by (with_reducible repeat (first|apply yH|apply yI|apply yJ));exact Kd.R_mono HO248.out (fun _ hk=>hk.2)⟩,⟨by (with_reducible repeat (first|refine yE ?_ _|refine yF ?_|refine yG ?_ _));exact BK239.out⟩,⟨by (with_reducible repeat (first|refine yE ?_ _|refine yF ?_|refine yG ?_ _));exact BK240.out⟩,⟨by repeat (first|(with_reducible first|exact HB.out|apply yA|apply yB|apply yC|refine yD ?_ GE239.out|refine yD ?_ GE240.out)|exact HB.out)⟩⟩
      case round =>
       clear H'
       try clear c1
       try clear p2
       try clear c4
       try clear c5
       try clear p6
       try clear c7
       try clear c7b0
       try clear c7b1
       try clear c8
       try clear c8b0
       try clear c8b1
       try clear c10
       try clear hcz11_0
       try clear hcz11_1
       try clear hfz11_0
       try clear hfz11_1
       try clear p2
       obtain ⟨x4_2,x5_2,HA,HK2,HO_4,HO_5,BK239,BK240,HB⟩:=hrel
       cases gk with
       | zero=>exact absurd HA.out (by simp [impl_set_tidy.l1])
       | succ k2 =>
        have H:=HA.out
        clear HA
        simp only [impl_set_tidy.l1] at H
        by_cases c16:(x4_2.length:Int) > 0
        ·rw [if_pos c16] at H
         have c16b0:decide (0<(x4_2.length:Int))=true:=decide_eq_true c16
         have c16b1:decide (0<x4_2.length)=true:=decide_eq_true (by omega)
         clear c16
         obtain ⟨ji17,hji17⟩:∃ j_:Int,(wrap64 ((x4_2.length:Int) - 1))=j_:=⟨_,rfl⟩
         replace H:(if 0≤(ji17) then (if (ji17)<(x4_2.length:Int) then (if 0≤(wrap64 (x3_1 - 1)) then (if (wrap64 (x3_1 - 1))<(x5_2.length:Int) then (if ((rdOf false x4_2 (ji17)) == (rdOf false x5_2 (wrap64 (x3_1 - 1))))=true then (if (ji17)≤(x4_2.length:Int) then ((some (([rdOf false x5_2 (wrap64 (x3_1 - 1))]:List Bool):List Bool)).bind fun y255=>(if (wrap64 (x3_1 - 1))≤(x5_2.length:Int) then ((some (x5_2.take ((wrap64 (x3_1 - 1)):Int).toNat:List Bool)).bind fun y258=>(if y255.length+y258.length<140737488355328 then (impl_set_tidy.l1 k2 x3_1 (x4_2.take ((ji17):Int).toNat) (y255++y258)) else (none))) else (none))) else (none)) else (some (x4_2,x5_2))) else (none)) else (none)) else (none)) else (none))=some (r1,r2):=by first|(rw [hji17] at H;exact H)|(simp only [hji17] at H ⊢;exact H)
         have hji17w:(IntKind.i64.wrap ((x4_2.length:Int) - 1))=ji17:=(i64_w _).trans hji17
         by_cases c18:0≤(ji17)
         ·rw [if_pos c18] at H
          have c18b0:decide (0≤(ji17))=true:=decide_eq_true c18
          clear c18
          by_cases c19:(ji17)<(x4_2.length:Int)
          ·rw [if_pos c19] at H
           have c19b0:decide ((ji17)<(x4_2.length:Int))=true:=decide_eq_true c19
           clear c19
           obtain ⟨ji20,hji20⟩:∃ j_:Int,(wrap64 (x3_1 - 1))=j_:=⟨_,rfl⟩
           replace H:(if 0≤(ji20) then (if (ji20)<(x5_2.length:Int) then (if ((rdOf false x4_2 (ji17)) == (rdOf false x5_2 (ji20)))=true then (if (ji17)≤(x4_2.length:Int) then ((some (([rdOf false x5_2 (ji20)]:List Bool):List Bool)).bind fun y255=>(if (ji20)≤(x5_2.length:Int) then ((some (x5_2.take ((ji20):Int).toNat:List Bool)).bind fun y258=>(if y255.length+y258.length<140737488355328 then (impl_set_tidy.l1 k2 x3_1 (x4_2.take ((ji17):Int).toNat) (y255++y258)) else (none))) else (none))) else (none)) else (some (x4_2,x5_2))) else (none)) else (none))=some (r1,r2):=by first|(rw [hji20] at H;exact H)|(simp only [hji20] at H ⊢;exact H)
           have hji20w:(IntKind.i64.wrap (x3_1 - 1))=ji20:=(i64_w _).trans hji20
           by_cases c21:0≤(ji20)
           ·rw [if_pos c21] at H
            have c21b0:decide (0≤(ji20))=true:=decide_eq_true c21
            clear c21
            by_cases c22:(ji20)<(x5_2.length:Int)
            ·rw [if_pos c22] at H
             have c22b0:decide ((ji20)<(x5_2.length:Int))=true:=decide_eq_true c22
             clear c22
             by_cases c23:((rdOf false x4_2 (ji17)) == (rdOf false x5_2 (ji20)))=true
             ·rw [if_pos c23] at H
              have c23b0:((rdOf false x4_2 (ji17)) == (rdOf false x5_2 (ji20)))=true:=c23
              (try (have c23b1:decide ((rdOf false x4_2 (ji17))=(rdOf false x5_2 (ji20)))=true:=by simpa using c23))
              (try (have c23b2:((rdOf false x4_2 (ji17)) == (rdOf false x5_2 (ji20)))=true:=by simpa using c23))
              clear c23
              by_cases c24:(ji17)≤(x4_2.length:Int)
              ·rw [if_pos c24] at H
               have c24b0:=eq_true c24
               have c24b1:decide ((ji17)≤(x4_2.length:Int))=true:=decide_eq_true c24
               clear c24
               obtain ⟨y251,hy251⟩:∃ y_:List Bool,y_=(x4_2.take ((ji17):Int).toNat):=⟨_,rfl⟩
               replace H:((some (([rdOf false x5_2 (ji20)]:List Bool):List Bool)).bind fun y255=>(if (ji20)≤(x5_2.length:Int) then ((some (x5_2.take ((ji20):Int).toNat:List Bool)).bind fun y258=>(if y255.length+y258.length<140737488355328 then (impl_set_tidy.l1 k2 x3_1 y251 (y255++y258)) else (none))) else (none)))=some (r1,r2):=by first|(rw [hy251];with_reducible exact H)|(have H2_:=(Option.bind_some _ _).symm.trans H;rw [hy251];with_reducible exact H2_)|(have H2_:=(Option.bind_some _ _).symm.trans H;with_reducible exact H2_)|with_reducible exact H|(rw [hy251];exact H)|exact H
               have Ny251:=Aside0.mk hy251
               clear hy251
               obtain ⟨y255,hy255⟩:∃ y_:List Bool,y_=(([rdOf false x5_2 (ji20)]:List Bool)):=⟨_,rfl⟩
               replace H:(if (ji20)≤(x5_2.length:Int) then ((some (x5_2.take ((ji20):Int).toNat:List Bool)).bind fun y258=>(if y255.length+y258.length<140737488355328 then (impl_set_tidy.l1 k2 x3_1 y251 (y255++y258)) else (none))) else (none))=some (r1,r2):=by first|(rw [hy255];with_reducible exact H)|(have H2_:=(Option.bind_some _ _).symm.trans H;rw [hy255];with_reducible exact H2_)|(have H2_:=(Option.bind_some _ _).symm.trans H;with_reducible exact H2_)|with_reducible exact H|(rw [hy255];exact H)|exact H
               have Ny255:=Aside0.mk hy255
               clear hy255
               have c25b0:=eq_true (of_decide_eq_true (by first|(with_reducible assumption)|assumption):0≤(ji20))
               by_cases c26:(ji20)≤(x5_2.length:Int)
               ·rw [if_pos c26] at H
                have c26b0:=eq_true c26
                have c26b1:decide ((ji20)≤(x5_2.length:Int))=true:=decide_eq_true c26
                clear c26
                obtain ⟨y258,hy258⟩:∃ y_:List Bool,y_=(x5_2.take ((ji20):Int).toNat):=⟨_,rfl⟩
                replace H:(if y255.length+y258.length<140737488355328 then (impl_set_tidy.l1 k2 x3_1 y251 (y255++y258)) else (none))=some (r1,r2):=by first|(rw [hy258];with_reducible exact H)|(have H2_:=(Option.bind_some _ _).symm.trans H;rw [hy258];with_reducible exact H2_)|(have H2_:=(Option.bind_some _ _).symm.trans H;with_reducible exact H2_)|with_reducible exact H|(rw [hy258];exact H)|exact H
                have Ny258:=Aside0.mk hy258
                clear hy258
                by_cases c27:y255.length+y258.length<140737488355328
                ·rw [if_pos c27] at H
                 have LMc27:=Aside0.mk c27
                 clear c27
                 obtain ⟨y262,hy262⟩:∃ y_:List Bool,y_=(y255++y258):=⟨_,rfl⟩
                 replace H:(impl_set_tidy.l1 k2 x3_1 y251 y262)=some (r1,r2):=by first|(rw [hy262];with_reducible exact H)|(have H2_:=(Option.bind_some _ _).symm.trans H;rw [hy262];with_reducible exact H2_)|(have H2_:=(Option.bind_some _ _).symm.trans H;with_reducible exact H2_)|with_reducible exact H|(rw [hy262];exact H)|exact H
                 have Ny262:=Aside0.mk hy262
                 clear hy262
                 have H':=Aside0.mk H
                 clear H
                 try go_wp2
                 have n0_:=Aside0.mk (yJ HO_4.out)
                 have n1_:=Aside0.mk (yJ HO_5.out)
                 have n2_:=Aside0.mk (yF BK239.out)
                 have n3_:=Aside0.mk (yF BK240.out)
                 have n4_:=Aside0.mk (yC HB.out)
                 clear HO_4
                 clear HO_5
                 clear BK239
                 clear BK240
                 clear HB
                 have HO_4:=n0_
                 have HO_5:=n1_
                 have BK239:=n2_
                 have BK240:=n3_
                 have HB:=n4_
                 clear n0_ n1_ n2_ n3_ n4_
                 obtain ⟨Ao29,co29,eo29⟩:=Kd.R_slice HO_4.out
                 (first|subst eo29|(injection eo29 with f1_ f2_ f3_;have f4_:=f1_.symm;have f5_:=f3_.symm;clear f1_ f2_ f3_;subst f4_;subst f5_))
                 have p249:0≤((ji17):Int):=of_decide_eq_true (by first|(with_reducible assumption)|assumption)
                 have q249:(ji17)<(x4_2.length:Int):=of_decide_eq_true (by first|(with_reducible assumption)|assumption)
                 obtain ⟨ad249,e249,hx249_0⟩:=Kd.at_bool (Kd.R_reads' HO_4.out).2.2 (ji17) p249 q249
                 cases e249
                 replace p249:=eq_true p249
                 replace q249:=eq_true q249
                 obtain ⟨Ao30,co30,eo30⟩:=Kd.R_slice HO_5.out
                 (first|subst eo30|(injection eo30 with f1_ f2_ f3_;have f4_:=f1_.symm;have f5_:=f3_.symm;clear f1_ f2_ f3_;subst f4_;subst f5_))
                 have p250:0≤((ji20):Int):=of_decide_eq_true (by first|(with_reducible assumption)|assumption)
                 have q250:(ji20)<(x5_2.length:Int):=of_decide_eq_true (by first|(with_reducible assumption)|assumption)
                 obtain ⟨ad250,e250,hx250_0⟩:=Kd.at_bool (Kd.R_reads' HO_5.out).2.2 (ji20) p250 q250
                 cases e250
                 replace p250:=eq_true p250
                 replace q250:=eq_true q250
                 refine start_ (n:=17) (S:=fun w'=>w'.cell? (ad249.add ((ji17)).toNat)=some (.bool (rdOf false x4_2 (ji17)))∧w'.cell? (ad250.add ((ji20)).toNat)=some (.bool (rdOf false x5_2 (ji20)))) (ds:=[]) #[false,false,false,false,false,false,false,false,false,false,false,false,false,false,false,false,false] (by kernel_rfl) rfl rfl ⟨hx249_0,hx250_0⟩ (fun hHeld=>?_);refine with_tabW impl_set_tidy.tab5 impl_set_tidy.bits5 (fun HT_ HW_=>?_)
                 generalize wr.drew=w28 at HO_4 HO_5 BK239 BK240 HB hx249_0 hx250_0 hHeld ⊢
                 refine pure_ (i:=0) (N:=some 21) (v:=?_) (a':=?_) #[true,false,false,false,false,false,false,false,false,false,false,false,false,false,false,false,false] rfl rfl (any_of HT_.out (by kernel_rfl)) (fun _ _ _ h=>h) (Or.inl ⟨by rfl,?_⟩) ?_ ?_
                 rotate_left
                 ·intro w'
                  go_simp
                  with_reducible rfl
                 rotate_left
                 ·simp only [Act.put,yK,yL,yM,i64_w,i32_w]
                  rfl
                 refine pure_ (i:=1) (N:=some 22) (v:=?_) (a':=?_) #[true,true,false,false,false,false,false,false,false,false,false,false,false,false,false,false,false] rfl rfl (any_of HT_.out (by kernel_rfl)) (fun _ _ _ h=>h) (Or.inl ⟨by rfl,?_⟩) ?_ ?_
                 rotate_left
                 ·intro w'
                  go_simp
                  with_reducible rfl
                 rotate_left
                 ·simp only [Act.put,yK,yL,yM,i64_w,i32_w]
                  rfl
                 refine pure_ (i:=2) (N:=some 23) (v:=?_) (a':=?_) #[true,true,true,false,false,false,false,false,false,false,false,false,false,false,false,false,false] rfl rfl (any_of HT_.out (by kernel_rfl)) (fun _ _ _ h=>h) (Or.inl ⟨by rfl,?_⟩) ?_ ?_
                 rotate_left
                 ·intro w'
                  go_simp
                  with_reducible rfl
                 rotate_left
                 ·simp only [Act.put,yK,yL,yM,i64_w,i32_w]
                  rfl
                 refine pure_ (i:=3) (N:=some 24) (v:=?_) (a':=?_) #[true,true,true,true,false,false,false,false,false,false,false,false,false,false,false,false,false] rfl rfl (any_of HT_.out (by kernel_rfl)) (fun _ _ _ h=>h) (Or.inl ⟨by rfl,?_⟩) ?_ ?_
                 rotate_left
                 ·intro w'
                  go_simp
                  with_reducible rfl
                 rotate_left
                 ·simp only [Act.put,yK,yL,yM,i64_w,i32_w]
                  rfl
                 refine pure_ (i:=4) (N:=some 25) (v:=?_) (a':=?_) #[true,true,true,true,true,false,false,false,false,false,false,false,false,false,false,false,false] rfl rfl (any_of HT_.out (by kernel_rfl)) (fun _ _ _ h=>h) (Or.inl ⟨by rfl,?_⟩) ?_ ?_
                 rotate_left
                 ·intro w'
                  go_simp
                  with_reducible rfl
                 rotate_left
                 ·simp only [Act.put,yK,yL,yM,i64_w,i32_w]
                  rfl
                 refine pure_ (i:=5) (N:=some 26) (v:=?_) (a':=?_) #[true,true,true,true,true,true,false,false,false,false,false,false,false,false,false,false,false] rfl rfl (any_of HT_.out (by kernel_rfl)) (fun _ _ _ h=>h) (Or.inl ⟨by rfl,?_⟩) ?_ ?_
                 rotate_left
                 ·intro w'
                  go_simp
                  with_reducible rfl
                 rotate_left
                 ·simp only [Act.put,yK,yL,yM,i64_w,i32_w]
                  rfl
                 refine pure_ (i:=6) (N:=some 27) (v:=?_) (a':=?_) #[true,true,true,true,true,true,true,false,false,false,false,false,false,false,false,false,false] rfl rfl (any_of HT_.out (by kernel_rfl)) (fun _ _ _ h=>h) (Or.inl ⟨by rfl,?_⟩) ?_ ?_
                 rotate_left
                 ·intro w'
                  go_simp
                  with_reducible rfl
                 rotate_left
                 ·simp only [Act.put,yK,yL,yM,i64_w,i32_w]
                  rfl
                 refine pure_ (i:=7) (N:=some 28) (v:=?_) (a':=?_) #[true,true,true,true,true,true,true,true,false,false,false,false,false,false,false,false,false] rfl rfl (any_of HT_.out (by kernel_rfl)) (fun _ _ _ h=>h) (Or.inl ⟨by rfl,?_⟩) ?_ ?_
                 rotate_left
                 ·intro w'
                  go_simp
                  with_reducible rfl
                 rotate_left
                 ·simp only [Act.put,yK,yL,yM,i64_w,i32_w]
                  rfl
                 refine pure_ (i:=8) (N:=some 29) (v:=?_) (a':=?_) #[true,true,true,true,true,true,true,true,true,false,false,false,false,false,false,false,false] rfl rfl (any_of HT_.out (by kernel_rfl)) (fun _ _ _ h=>h) (Or.inl ⟨by rfl,?_⟩) ?_ ?_
                 rotate_left
                 ·intro w'
                  go_simp
                  with_reducible rfl
                 rotate_left
                 ·simp only [Act.put,yK,yL,yM,i64_w,i32_w]
                  rfl
                 refine pure_ (i:=10) (N:=some 31) (v:=?_) (a':=?_) #[true,true,true,true,true,true,true,true,true,false,true,false,false,false,false,false,false] rfl rfl (any_of HT_.out (by kernel_rfl)) (fun _ _ _ h=>h) (Or.inl ⟨by rfl,?_⟩) ?_ ?_
                 rotate_left
                 ·intro w'
                  go_simp
                  with_reducible rfl
                 rotate_left
                 ·simp only [Act.put,yK,yL,yM,i64_w,i32_w]
                  rfl
                 refine pure_ (i:=11) (N:=some 32) (v:=?_) (a':=?_) #[true,true,true,true,true,true,true,true,true,false,true,true,false,false,false,false,false] rfl rfl (any_of HT_.out (by kernel_rfl)) (fun _ _ _ h=>h) (Or.inl ⟨by rfl,?_⟩) ?_ ?_
                 rotate_left
                 ·intro w'
                  go_simp
                  with_reducible rfl
                 rotate_left
                 ·simp only [Act.put,yK,yL,yM,i64_w,i32_w]
                  rfl
                 refine pure_ (i:=12) (N:=some 33) (v:=?_) (a':=?_) #[true,true,true,true,true,true,true,true,true,false,true,true,true,false,false,false,false] rfl rfl (any_of HT_.out (by kernel_rfl)) (fun _ _ _ h=>h) (Or.inl ⟨by rfl,?_⟩) ?_ ?_
                 rotate_left
                 ·intro w'
                  go_simp
                  with_reducible rfl
                 rotate_left
                 ·simp only [Act.put,yK,yL,yM,i64_w,i32_w]
                  rfl
                 refine pure_ (i:=13) (N:=some 34) (v:=?_) (a':=?_) #[true,true,true,true,true,true,true,true,true,false,true,true,true,true,false,false,false] rfl rfl (any_of HT_.out (by kernel_rfl)) (fun _ _ _ h=>h) (Or.inl ⟨by rfl,?_⟩) ?_ ?_
                 rotate_left
                 ·intro w'
                  go_simp
                  with_reducible rfl
                 rotate_left
                 ·simp only [Act.put,yK,yL,yM,i64_w,i32_w]
                  rfl
                 refine take_ (i:=9) (N:=some 30) (v:=?_) (a':=?_) #[true,true,true,true,true,true,true,true,true,true,true,true,true,true,false,false,false] rfl rfl (take_ofW HT_.out HW_.out (by kernel_rfl)) (fun _ _ _ h=>h) (Or.inl ⟨by rfl,?_⟩) hHeld ?_ ?_
                 rotate_left
                 ·rintro w' ⟨s0,s1⟩
                  go_simp
                  with_reducible rfl
                 rotate_left
                 ·simp only [Act.put,yK,yL,yM,i64_w,i32_w]
                  rfl
                 refine take_ (i:=14) (N:=some 35) (v:=?_) (a':=?_) #[true,true,true,true,true,true,true,true,true,true,true,true,true,true,true,false,false] rfl rfl (take_ofW HT_.out HW_.out (by kernel_rfl)) (fun _ _ _ h=>h) (Or.inl ⟨by rfl,?_⟩) hHeld ?_ ?_
                 rotate_left
                 ·rintro w' ⟨s0,s1⟩
                  go_simp
                  with_reducible rfl
                 rotate_left
                 ·simp only [Act.put,yK,yL,yM,i64_w,i32_w]
                  rfl
                 refine pure_ (i:=15) (N:=some 36) (v:=?_) (a':=?_) #[true,true,true,true,true,true,true,true,true,true,true,true,true,true,true,true,false] rfl rfl (any_of HT_.out (by kernel_rfl)) (fun _ _ _ h=>h) (Or.inl ⟨by rfl,?_⟩) ?_ ?_
                 rotate_left
                 ·intro w'
                  go_simp
                  with_reducible rfl
                 rotate_left
                 ·simp only [Act.put,yK,yL,yM,i64_w,i32_w]
                  rfl
                 refine pure_ (i:=16) (N:=some 37) (v:=?_) (a':=?_) #[true,true,true,true,true,true,true,true,true,true,true,true,true,true,true,true,true] rfl rfl (any_of HT_.out (by kernel_rfl)) (fun _ _ _ h=>h) (Or.inl ⟨by rfl,?_⟩) ?_ ?_
                 rotate_left
                 ·intro w'
                  go_simp
                  with_reducible rfl
                 rotate_left
                 ·simp only [Act.put,yK,yL,yM,i64_w,i32_w]
                  rfl
                 refine done_ (done_of HT_.out (by kernel_rfl)) ?_
                 have q31:((ji17):Int)≤((x4_2.length:Int):Int):=of_decide_eq_true (by first|(with_reducible assumption)|assumption)
                 obtain ⟨i031,hi031,_,hsz31,_⟩:=info_parts info4
                 have hcut31:=cut_to (P:=Try.prog) 49 4 .i64 Try.underlying49 hi031 (some ad249) x4_2.length co29 (ji17) (of_decide_eq_true (by first|(with_reducible assumption)|assumption)) q31 (Kd.R_reads' HO_4.out).2.1
                 have hr31:=Kd.R_take (m:=((ji17):Int).toNat) HO_4.out (by omega)
                 have hy31:y251.length=((ji17):Int).toNat:=(by rw [Ny251.out,List.length_take];omega)
                 rw [← Ny251.out] at hr31
                 rw [← hy31] at hr31 hcut31
                 clear hy31 hi031 hsz31 HO_4
                 have HO253:=Aside0.mk hr31
                 clear hr31
                 replace q31:=eq_true q31
                 try go_wp2
                 have n0_:=Aside0.mk (yJ HO253.out)
                 have n1_:=Aside0.mk (yJ HO_5.out)
                 have n2_:=Aside0.mk (yF BK239.out)
                 have n3_:=Aside0.mk (yF BK240.out)
                 have n4_:=Aside0.mk (yC HB.out)
                 clear HO253
                 clear HO_5
                 clear BK239
                 clear BK240
                 clear HB
                 have HO253:=n0_
                 have HO_5:=n1_
                 have BK239:=n2_
                 have BK240:=n3_
                 have HB:=n4_
                 clear n0_ n1_ n2_ n3_ n4_
                 have p254:0≤((ji20):Int):=of_decide_eq_true (by first|(with_reducible assumption)|assumption)
                 have q254:(ji20)<(x5_2.length:Int):=of_decide_eq_true (by first|(with_reducible assumption)|assumption)
                 obtain ⟨ad254,e254,hx254_0⟩:=Kd.at_bool (Kd.R_reads' HO_5.out).2.2 (ji20) p254 q254
                 obtain rfl:ad250=ad254:=(by injection e254)
                 replace p254:=eq_true p254
                 replace q254:=eq_true q254
                 have q33:((ji20):Int)≤((x5_2.length:Int):Int):=of_decide_eq_true (by first|(with_reducible assumption)|assumption)
                 obtain ⟨i033,hi033,_,hsz33,_⟩:=info_parts info4
                 have hroom33:x5_2.length≤co30:=(Kd.R_reads' HO_5.out).2.1
                 have hC33:Kd.C Kd.bool _ (some ad250) x5_2.length x5_2:=(Kd.R_reads' HO_5.out).2.2
                 have hcut33:=cut_to (P:=Try.prog) 49 4 .i64 Try.underlying49 hi033 (some ad250) x5_2.length co30 (ji20) (of_decide_eq_true (by first|(with_reducible assumption)|assumption)) q33 hroom33
                 have hr33:=Kd.C_take (m:=((ji20):Int).toNat) hC33 (by omega)
                 have hy33:y258.length=((ji20):Int).toNat:=(by rw [Ny258.out,List.length_take];omega)
                 rw [← Ny258.out] at hr33
                 rw [← hy33] at hcut33
                 have HR261:=Aside0.mk hr33
                 have HC261:=Aside0.mk (show y258.length≤co30 from by omega)
                 clear hr33 hC33 hroom33 hi033 hsz33
                 have KY33:=Aside0.mk hy33
                 clear hy33
                 have KL33:=Aside0.mk (show ((ji20):Int).toNat≤x5_2.length from by omega)
                 replace q33:=eq_true q33
                 refine start_ (n:=12) (S:=fun w'=>w'.cell? (ad250.add ((ji20)).toNat)=some (.bool (rdOf false x5_2 (ji20)))) (ds:=[10]) #[false,false,false,false,false,false,false,false,false,false,false,false] (by kernel_rfl) rfl rfl (hx254_0) (fun hHeld=>?_);refine with_tabW impl_set_tidy.tab7 impl_set_tidy.bits7 (fun HT_ HW_=>?_)
                 generalize w28.drew=w32 at HO253 HO_5 BK239 BK240 HB HR261 hx254_0 hHeld ⊢
                 refine pure_ (i:=0) (N:=some 43) (v:=?_) (a':=?_) #[true,false,false,false,false,false,false,false,false,false,false,false] rfl rfl (any_of HT_.out (by kernel_rfl)) (fun _ _ _ h=>h) (Or.inl ⟨by rfl,?_⟩) ?_ ?_
                 rotate_left
                 ·intro w'
                  go_simp
                  with_reducible rfl
                 rotate_left
                 ·simp only [Act.put,yK,yL,yM,i64_w,i32_w]
                  rfl
                 refine pure_ (i:=1) (N:=some 44) (v:=?_) (a':=?_) #[true,true,false,false,false,false,false,false,false,false,false,false] rfl rfl (any_of HT_.out (by kernel_rfl)) (fun _ _ _ h=>h) (Or.inl ⟨by rfl,?_⟩) ?_ ?_
                 rotate_left
                 ·intro w'
                  go_simp
                  with_reducible rfl
                 rotate_left
                 ·simp only [Act.put,yK,yL,yM,i64_w,i32_w]
                  rfl
                 refine pure_ (i:=2) (N:=some 45) (v:=?_) (a':=?_) #[true,true,true,false,false,false,false,false,false,false,false,false] rfl rfl (any_of HT_.out (by kernel_rfl)) (fun _ _ _ h=>h) (Or.inl ⟨by rfl,?_⟩) ?_ ?_
                 rotate_left
                 ·intro w'
                  go_simp
                  with_reducible rfl
                 rotate_left
                 ·simp only [Act.put,yK,yL,yM,i64_w,i32_w]
                  rfl
                 refine pure_ (i:=3) (N:=some 46) (v:=?_) (a':=?_) #[true,true,true,true,false,false,false,false,false,false,false,false] rfl rfl (any_of HT_.out (by kernel_rfl)) (fun _ _ _ h=>h) (Or.inl ⟨by rfl,?_⟩) ?_ ?_
                 rotate_left
                 ·intro w'
                  go_simp
                  with_reducible rfl
                 rotate_left
                 ·simp only [Act.put,yK,yL,yM,i64_w,i32_w]
                  rfl
                 refine pure_ (i:=6) (N:=some 49) (v:=?_) (a':=?_) #[true,true,true,true,false,false,true,false,false,false,false,false] rfl rfl (any_of HT_.out (by kernel_rfl)) (fun _ _ _ h=>h) (Or.inl ⟨by rfl,?_⟩) ?_ ?_
                 rotate_left
                 ·intro w'
                  go_simp
                  with_reducible rfl
                 rotate_left
                 ·simp only [Act.put,yK,yL,yM,i64_w,i32_w]
                  rfl
                 refine pure_ (i:=7) (N:=some 50) (v:=?_) (a':=?_) #[true,true,true,true,false,false,true,true,false,false,false,false] rfl rfl (any_of HT_.out (by kernel_rfl)) (fun _ _ _ h=>h) (Or.inl ⟨by rfl,?_⟩) ?_ ?_
                 rotate_left
                 ·intro w'
                  go_simp
                  with_reducible rfl
                 rotate_left
                 ·simp only [Act.put,yK,yL,yM,i64_w,i32_w]
                  rfl
                 refine pure_ (i:=8) (N:=some 51) (v:=?_) (a':=?_) #[true,true,true,true,false,false,true,true,true,false,false,false] rfl rfl (any_of HT_.out (by kernel_rfl)) (fun _ _ _ h=>h) (Or.inl ⟨by rfl,?_⟩) ?_ ?_
                 rotate_left
                 ·intro w'
                  go_simp
                  with_reducible rfl
                 rotate_left
                 ·simp only [Act.put,yK,yL,yM,i64_w,i32_w]
                  rfl
                 refine pure_ (i:=9) (N:=some 52) (v:=?_) (a':=?_) #[true,true,true,true,false,false,true,true,true,true,false,false] rfl rfl (any_of HT_.out (by kernel_rfl)) (fun _ _ _ h=>h) (Or.inl ⟨by rfl,?_⟩) ?_ ?_
                 rotate_left
                 ·intro w'
                  go_simp
                  with_reducible rfl
                 rotate_left
                 ·simp only [Act.put,yK,yL,yM,i64_w,i32_w]
                  rfl
                 refine take_ (i:=4) (N:=some 47) (v:=?_) (a':=?_) #[true,true,true,true,true,false,true,true,true,true,false,false] rfl rfl (take_ofW HT_.out HW_.out (by kernel_rfl)) (fun _ _ _ h=>h) (Or.inl ⟨by rfl,?_⟩) hHeld ?_ ?_
                 rotate_left
                 ·intro w' s0
                  go_simp
                  with_reducible rfl
                 rotate_left
                 ·simp only [Act.put,yK,yL,yM,i64_w,i32_w]
                  rfl
                 refine one_ (i:=5) (N:=some 48) #[true,true,true,true,true,true,true,true,true,true,false,false] rfl rfl (one_of HT_.out (by kernel_rfl)) (by decide) (fun K hK=>?_)
                 refine Kd.R_lit_step Kd.bool _ 4 ?hg (N:=48) ?hd (xs:=([rdOf false x5_2 (ji20)]:List Bool)) (inner:=[.bool (rdOf false x5_2 (ji20))]) (ok:=fun _=>True) (okp:=fun _=>True) ?hr ?hp (fun _ hk=>hk) trivial (Below.refl _ _) (Nat.le_refl _) (by simp) ?_;(case hd=>rfl);(case hg=>rfl);(case hr=>first|(go_simp;done)|(go_simp;rfl));(case hp=>exact (Reps.one (show Kd.M Kd.bool _ _ _ (rdOf false x5_2 (ji20)) [.bool (rdOf false x5_2 (ji20))] from rfl) (Reps.none _ _)))
                 intro v256 w34 ho35 hb hg_ hnew_
                 have HS0_:=(hb.cell (World.block_lt_of_cell? _ _ (hHeld))).trans (hHeld)
                 clear hg_ hnew_
                 (first|rw [← Ny255.out] at ho35|(simp only [Int.reduceToNat] at ho35;rw [← Ny255.out] at ho35))
                 have n0_:=Aside0.mk (Kd.R_elder' (by (with_reducible repeat (first|apply yH|apply yI|apply yJ));exact HO253.out) (Kd.R_base ho35) hb)
                 have n1_:=Aside0.mk (Kd.R_elder' (by (with_reducible repeat (first|apply yH|apply yI|apply yJ));exact HO_5.out) (Kd.R_base ho35) hb)
                 have n2_:=Aside0.mk (Kd.R_lower (Kd.R_new' (Kd.R_new' ho35 (Kd.R_lt (by (with_reducible repeat (first|apply yH|apply yI|apply yJ));exact HO253.out))) (Kd.R_lt (by (with_reducible repeat (first|apply yH|apply yI|apply yJ));exact HO_5.out))) (yQ (by repeat (first|(with_reducible first|exact HB.out|apply yA|apply yB|apply yC|refine yD ?_ GE239.out|refine yD ?_ GE240.out)|exact HB.out))))
                 have n3_:=Aside0.mk (blk_below (g:=gb239) (o:=.cells #[.slice A0_0 l0_0.length c0_0,.slice A0_1 l0_1.length c0_1] 51 (0,0)) (by (with_reducible repeat (first|refine yE ?_ _|refine yF ?_|refine yG ?_ _));exact BK239.out) hb)
                 have n4_:=Aside0.mk (blk_below (g:=gb240) (o:=.cells #[.slice none 0 0,.slice none 0 0] 51 (0,0)) (by (with_reducible repeat (first|refine yE ?_ _|refine yF ?_|refine yG ?_ _));exact BK240.out) hb)
                 have n5_:=Aside0.mk (Kd.C_below (by repeat (first|(with_reducible exact HR261.out)|(with_reducible refine Kd.C_alloc ?_ _)|(with_reducible refine Kd.C_drewN ?_ _)|(with_reducible refine Kd.C_drew ?_)|exact HR261.out)) hb)
                 have n6_:=Aside0.mk (yP (by repeat (first|(with_reducible first|exact HB.out|apply yA|apply yB|apply yC|refine yD ?_ GE239.out|refine yD ?_ GE240.out)|exact HB.out)) hb)
                 clear HO253
                 clear HO_5
                 clear BK239
                 clear BK240
                 clear HR261
                 clear HB
                 have HO253:=n0_
                 have HO_5:=n1_
                 have HO257:=n2_
                 have BK239:=n3_
                 have BK240:=n4_
                 have HR261:=n5_
                 have HB:=n6_
                 clear n0_ n1_ n2_ n3_ n4_ n5_ n6_
                 clear hb ho35
                 refine hK.out _ _ (HS0_) (fun hHeld=>?_)
                 clear hK K
                 refine norm_ (a':=?_) ?_ ?_
                 rotate_left
                 ·show Act.put _ (some 48) _=_
                  simp only [Act.put,yK,yL,yM,i64_w,i32_w]
                  rfl
                 refine last_ (i:=10) (N:=some 53) #[true,true,true,true,true,true,true,true,true,true,true,false] rfl rfl (one_of HT_.out (by kernel_rfl)) (by decide) (fun K hK=>?_)
                 refine Kd.R_append_rows_step Kd.bool (w0:=w) w.heap.size (by rfl) (.tmp 48) (.tmp 52) 49 4 (.bool false) 1 rfl Try.underlying49 info4 rfl (by decide) (by omega) v256 y255 y258 _ _ _ (fun k_=>some k_≠(.slice (some ad249) y251.length co29:Value).ownBlock∧some k_≠(.slice (some ad250) x5_2.length co30:Value).ownBlock) (fun _=>False) rfl rfl ?aO ?aR (fun _ _ h=>h) (fun _ h=>h.elim) ?aF ?aB ?aS ?aL ?_
                 (case aR=>repeat (first|exact (by repeat (first|(with_reducible exact HR261.out)|(with_reducible refine Kd.C_alloc ?_ _)|(with_reducible refine Kd.C_drewN ?_ _)|(with_reducible refine Kd.C_drew ?_)|exact HR261.out))|(with_reducible refine Kd.C_alloc ?_ _)|(with_reducible refine Kd.C_drewN ?_ _)|(with_reducible refine Kd.C_drew ?_)))
                 (case aB=>exact (by repeat (first|(with_reducible first|exact HB.out|apply yA|apply yB|apply yC|refine yD ?_ GE239.out|refine yD ?_ GE240.out)|exact HB.out)))
                 (case aF=>exact (fun k_ hk=>⟨Kd.fresh' (Kd.R_lt (by (with_reducible repeat (first|apply yH|apply yI|apply yJ));exact HO253.out)) k_ hk,Kd.fresh' (Kd.R_lt (by (with_reducible repeat (first|apply yH|apply yI|apply yJ));exact HO_5.out)) k_ hk⟩))
                 (case aO=>exact (by (with_reducible repeat (first|apply yH|apply yI|apply yJ));exact Kd.R_mono HO257.out (fun _ hk=>⟨hk.1.2,hk.2⟩)))
                 (case aS=>exact (yQ (by repeat (first|(with_reducible first|exact HB.out|apply yA|apply yB|apply yC|refine yD ?_ GE239.out|refine yD ?_ GE240.out)|exact HB.out))))
                 (case aL=>have:=LMc27.out;omega)
                 intro v263 w36 ho hb hg hat
                 rw [← Ny262.out] at ho
                 have n0_:=Aside0.mk (Kd.R_after (ok:=(fun k_=>some k_≠(.slice (some ad250) x5_2.length co30:Value).ownBlock)) (by (with_reducible repeat (first|apply yH|apply yI|apply yJ));exact HO253.out) hg hat)
                 have n1_:=Aside0.mk (Kd.R_after (ok:=(fun k_=>some k_≠(.slice (some ad249) y251.length co29:Value).ownBlock)) (by (with_reducible repeat (first|apply yH|apply yI|apply yJ));exact HO_5.out) hg hat)
                 have n2_:=Aside0.mk (blk_grown (g:=gb239) (o:=.cells #[.slice A0_0 l0_0.length c0_0,.slice A0_1 l0_1.length c0_1] 51 (0,0)) (by (with_reducible repeat (first|refine yE ?_ _|refine yF ?_|refine yG ?_ _));exact BK239.out) hg (Kd.R_ne HO257.out BK239.out (by decide)))
                 have n3_:=Aside0.mk (blk_grown (g:=gb240) (o:=.cells #[.slice none 0 0,.slice none 0 0] 51 (0,0)) (by (with_reducible repeat (first|refine yE ?_ _|refine yF ?_|refine yG ?_ _));exact BK240.out) hg (Kd.R_ne HO257.out BK240.out (by decide)))
                 have n4_:=Aside0.mk (hb)
                 have n5_:=Aside0.mk ((show Kd.C Kd.bool w36 (some ad250) y258.length y258 from by rw [Ny258.out];exact Kd.C_take (m:=((ji20):Int).toNat) ((Kd.R_reads' (Kd.R_after (ok:=(fun k_=>some k_≠(.slice (some ad249) y251.length co29:Value).ownBlock)) (by (with_reducible repeat (first|apply yH|apply yI|apply yJ));exact HO_5.out) hg hat)).2.2) KL33.out))
                 have n6_:=Aside0.mk (ho)
                 clear HO253
                 clear HO_5
                 clear BK239
                 clear BK240
                 clear HB
                 clear HR261
                 clear HO257
                 have HO253:=n0_
                 have HO_5:=n1_
                 have BK239:=n2_
                 have BK240:=n3_
                 have HB:=n4_
                 have HR261:=n5_
                 have HO264:=n6_
                 clear n0_ n1_ n2_ n3_ n4_ n5_ n6_
                 clear ho hb hg hat
                 refine hK.out _ _ ?_
                 clear hK K
                 refine norm_ (a':=?_) ?_ ?_
                 rotate_left
                 ·show Act.put _ (some 53) _=_
                  simp only [Act.put,yK,yL,yM,i64_w,i32_w]
                  rfl
                 refine pure_ (i:=11) (N:=some 5) (v:=?_) (a':=?_) #[true,true,true,true,true,true,true,true,true,true,true,true] rfl rfl (any_of HT_.out (by kernel_rfl)) (fun _ _ _ h=>h) (Or.inl ⟨by rfl,?_⟩) ?_ ?_
                 rotate_left
                 ·intro w'
                  go_simp
                  with_reducible rfl
                 rotate_left
                 ·simp only [Act.put,yK,yL,yM,i64_w,i32_w]
                  rfl
                 refine done_ (done_of HT_.out (by kernel_rfl)) ?_
                 try go_wp2
                 go_roundg k2
                 case measure=>have:=HK1.out;have:=HK2.out;omega
                 case rel=>exact ⟨(y251),(y262),H',⟨by have:=HK1.out;have:=HK2.out;omega⟩,⟨by (with_reducible repeat (first|apply yH|apply yI|apply yJ));exact Kd.R_mono HO253.out (fun _ hk=>hk.2)⟩,⟨by (with_reducible repeat (first|apply yH|apply yI|apply yJ));exact Kd.R_mono HO264.out (fun _ hk=>hk.1)⟩,⟨by (with_reducible repeat (first|refine yE ?_ _|refine yF ?_|refine yG ?_ _));exact BK239.out⟩,⟨by (with_reducible repeat (first|refine yE ?_ _|refine yF ?_|refine yG ?_ _));exact BK240.out⟩,⟨by repeat (first|(with_reducible first|exact HB.out|apply yA|apply yB|apply yC|refine yD ?_ GE239.out|refine yD ?_ GE240.out)|exact HB.out)⟩⟩
                ·rw [if_neg c27] at H
                 exact absurd H (by simp)
               ·rw [if_neg c26] at H
                exact absurd H (by simp)
              ·rw [if_neg c24] at H
               exact absurd H (by simp)
             ·rw [if_neg c23] at H
              have c23b0:((rdOf false x4_2 (ji17)) == (rdOf false x5_2 (ji20)))=false:=by simpa using c23
              (try (have c23b1:decide ((rdOf false x4_2 (ji17))=(rdOf false x5_2 (ji20)))=false:=by simpa using c23))
              (try (have c23b2:((rdOf false x4_2 (ji17)) == (rdOf false x5_2 (ji20)))=false:=by simpa using c23))
              (try (have c23b3:¬ ((rdOf false x4_2 (ji17))=(rdOf false x5_2 (ji20))):=by simpa using c23))
              clear c23
              simp only [Option.some.injEq,Prod.mk.injEq] at H
              obtain ⟨rfl,rfl⟩:=H
              try go_wp2
              have n0_:=Aside0.mk (yJ HO_4.out)
              have n1_:=Aside0.mk (yJ HO_5.out)
              have n2_:=Aside0.mk (yF BK239.out)
              have n3_:=Aside0.mk (yF BK240.out)
              have n4_:=Aside0.mk (yC HB.out)
              clear HO_4
              clear HO_5
              clear BK239
              clear BK240
              clear HB
              have HO_4:=n0_
              have HO_5:=n1_
              have BK239:=n2_
              have BK240:=n3_
              have HB:=n4_
              clear n0_ n1_ n2_ n3_ n4_
              obtain ⟨Ao38,co38,eo38⟩:=Kd.R_slice HO_4.out
              (first|subst eo38|(injection eo38 with f1_ f2_ f3_;have f4_:=f1_.symm;have f5_:=f3_.symm;clear f1_ f2_ f3_;subst f4_;subst f5_))
              have p249:0≤((ji17):Int):=of_decide_eq_true (by first|(with_reducible assumption)|assumption)
              have q249:(ji17)<(x4_2.length:Int):=of_decide_eq_true (by first|(with_reducible assumption)|assumption)
              obtain ⟨ad249,e249,hx249_0⟩:=Kd.at_bool (Kd.R_reads' HO_4.out).2.2 (ji17) p249 q249
              cases e249
              replace p249:=eq_true p249
              replace q249:=eq_true q249
              obtain ⟨Ao39,co39,eo39⟩:=Kd.R_slice HO_5.out
              (first|subst eo39|(injection eo39 with f1_ f2_ f3_;have f4_:=f1_.symm;have f5_:=f3_.symm;clear f1_ f2_ f3_;subst f4_;subst f5_))
              have p250:0≤((ji20):Int):=of_decide_eq_true (by first|(with_reducible assumption)|assumption)
              have q250:(ji20)<(x5_2.length:Int):=of_decide_eq_true (by first|(with_reducible assumption)|assumption)
              obtain ⟨ad250,e250,hx250_0⟩:=Kd.at_bool (Kd.R_reads' HO_5.out).2.2 (ji20) p250 q250
              cases e250
              replace p250:=eq_true p250
              replace q250:=eq_true q250
              refine start_ (n:=17) (S:=fun w'=>w'.cell? (ad249.add ((ji17)).toNat)=some (.bool (rdOf false x4_2 (ji17)))∧w'.cell? (ad250.add ((ji20)).toNat)=some (.bool (rdOf false x5_2 (ji20)))) (ds:=[]) #[false,false,false,false,false,false,false,false,false,false,false,false,false,false,false,false,false] (by kernel_rfl) rfl rfl ⟨hx249_0,hx250_0⟩ (fun hHeld=>?_);refine with_tabW impl_set_tidy.tab5 impl_set_tidy.bits5 (fun HT_ HW_=>?_)
              generalize wr.drew=w37 at HO_4 HO_5 BK239 BK240 HB hx249_0 hx250_0 hHeld ⊢
              refine pure_ (i:=0) (N:=some 21) (v:=?_) (a':=?_) #[true,false,false,false,false,false,false,false,false,false,false,false,false,false,false,false,false] rfl rfl (any_of HT_.out (by kernel_rfl)) (fun _ _ _ h=>h) (Or.inl ⟨by rfl,?_⟩) ?_ ?_
              rotate_left
              ·intro w'
               go_simp
               with_reducible rfl
              rotate_left
              ·simp only [Act.put,yK,yL,yM,i64_w,i32_w]
               rfl
              refine pure_ (i:=1) (N:=some 22) (v:=?_) (a':=?_) #[true,true,false,false,false,false,false,false,false,false,false,false,false,false,false,false,false] rfl rfl (any_of HT_.out (by kernel_rfl)) (fun _ _ _ h=>h) (Or.inl ⟨by rfl,?_⟩) ?_ ?_
              rotate_left
              ·intro w'
               go_simp
               with_reducible rfl
              rotate_left
              ·simp only [Act.put,yK,yL,yM,i64_w,i32_w]
               rfl
              refine pure_ (i:=2) (N:=some 23) (v:=?_) (a':=?_) #[true,true,true,false,false,false,false,false,false,false,false,false,false,false,false,false,false] rfl rfl (any_of HT_.out (by kernel_rfl)) (fun _ _ _ h=>h) (Or.inl ⟨by rfl,?_⟩) ?_ ?_
              rotate_left
              ·intro w'
               go_simp
               with_reducible rfl
              rotate_left
              ·simp only [Act.put,yK,yL,yM,i64_w,i32_w]
               rfl
              refine pure_ (i:=3) (N:=some 24) (v:=?_) (a':=?_) #[true,true,true,true,false,false,false,false,false,false,false,false,false,false,false,false,false] rfl rfl (any_of HT_.out (by kernel_rfl)) (fun _ _ _ h=>h) (Or.inl ⟨by rfl,?_⟩) ?_ ?_
              rotate_left
              ·intro w'
               go_simp
               with_reducible rfl
              rotate_left
              ·simp only [Act.put,yK,yL,yM,i64_w,i32_w]
               rfl
              refine pure_ (i:=4) (N:=some 25) (v:=?_) (a':=?_) #[true,true,true,true,true,false,false,false,false,false,false,false,false,false,false,false,false] rfl rfl (any_of HT_.out (by kernel_rfl)) (fun _ _ _ h=>h) (Or.inl ⟨by rfl,?_⟩) ?_ ?_
              rotate_left
              ·intro w'
               go_simp
               with_reducible rfl
              rotate_left
              ·simp only [Act.put,yK,yL,yM,i64_w,i32_w]
               rfl
              refine pure_ (i:=5) (N:=some 26) (v:=?_) (a':=?_) #[true,true,true,true,true,true,false,false,false,false,false,false,false,false,false,false,false] rfl rfl (any_of HT_.out (by kernel_rfl)) (fun _ _ _ h=>h) (Or.inl ⟨by rfl,?_⟩) ?_ ?_
              rotate_left
              ·intro w'
               go_simp
               with_reducible rfl
              rotate_left
              ·simp only [Act.put,yK,yL,yM,i64_w,i32_w]
               rfl
              refine pure_ (i:=6) (N:=some 27) (v:=?_) (a':=?_) #[true,true,true,true,true,true,true,false,false,false,false,false,false,false,false,false,false] rfl rfl (any_of HT_.out (by kernel_rfl)) (fun _ _ _ h=>h) (Or.inl ⟨by rfl,?_⟩) ?_ ?_
              rotate_left
              ·intro w'
               go_simp
               with_reducible rfl
              rotate_left
              ·simp only [Act.put,yK,yL,yM,i64_w,i32_w]
               rfl
              refine pure_ (i:=7) (N:=some 28) (v:=?_) (a':=?_) #[true,true,true,true,true,true,true,true,false,false,false,false,false,false,false,false,false] rfl rfl (any_of HT_.out (by kernel_rfl)) (fun _ _ _ h=>h) (Or.inl ⟨by rfl,?_⟩) ?_ ?_
              rotate_left
              ·intro w'
               go_simp
               with_reducible rfl
              rotate_left
              ·simp only [Act.put,yK,yL,yM,i64_w,i32_w]
               rfl
              refine pure_ (i:=8) (N:=some 29) (v:=?_) (a':=?_) #[true,true,true,true,true,true,true,true,true,false,false,false,false,false,false,false,false] rfl rfl (any_of HT_.out (by kernel_rfl)) (fun _ _ _ h=>h) (Or.inl ⟨by rfl,?_⟩) ?_ ?_
              rotate_left
              ·intro w'
               go_simp
               with_reducible rfl
              rotate_left
              ·simp only [Act.put,yK,yL,yM,i64_w,i32_w]
               rfl
              refine pure_ (i:=10) (N:=some 31) (v:=?_) (a':=?_) #[true,true,true,true,true,true,true,true,true,false,true,false,false,false,false,false,false] rfl rfl (any_of HT_.out (by kernel_rfl)) (fun _ _ _ h=>h) (Or.inl ⟨by rfl,?_⟩) ?_ ?_
              rotate_left
              ·intro w'
               go_simp
               with_reducible rfl
              rotate_left
              ·simp only [Act.put,yK,yL,yM,i64_w,i32_w]
               rfl
              refine pure_ (i:=11) (N:=some 32) (v:=?_) (a':=?_) #[true,true,true,true,true,true,true,true,true,false,true,true,false,false,false,false,false] rfl rfl (any_of HT_.out (by kernel_rfl)) (fun _ _ _ h=>h) (Or.inl ⟨by rfl,?_⟩) ?_ ?_
              rotate_left
              ·intro w'
               go_simp
               with_reducible rfl
              rotate_left
              ·simp only [Act.put,yK,yL,yM,i64_w,i32_w]
               rfl
              refine pure_ (i:=12) (N:=some 33) (v:=?_) (a':=?_) #[true,true,true,true,true,true,true,true,true,false,true,true,true,false,false,false,false] rfl rfl (any_of HT_.out (by kernel_rfl)) (fun _ _ _ h=>h) (Or.inl ⟨by rfl,?_⟩) ?_ ?_
              rotate_left
              ·intro w'
               go_simp
               with_reducible rfl
              rotate_left
              ·simp only [Act.put,yK,yL,yM,i64_w,i32_w]
               rfl
              refine pure_ (i:=13) (N:=some 34) (v:=?_) (a':=?_) #[true,true,true,true,true,true,true,true,true,false,true,true,true,true,false,false,false] rfl rfl (any_of HT_.out (by kernel_rfl)) (fun _ _ _ h=>h) (Or.inl ⟨by rfl,?_⟩) ?_ ?_
              rotate_left
              ·intro w'
               go_simp
               with_reducible rfl
              rotate_left
              ·simp only [Act.put,yK,yL,yM,i64_w,i32_w]
               rfl
              refine take_ (i:=9) (N:=some 30) (v:=?_) (a':=?_) #[true,true,true,true,true,true,true,true,true,true,true,true,true,true,false,false,false] rfl rfl (take_ofW HT_.out HW_.out (by kernel_rfl)) (fun _ _ _ h=>h) (Or.inl ⟨by rfl,?_⟩) hHeld ?_ ?_
              rotate_left
              ·rintro w' ⟨s0,s1⟩
               go_simp
               with_reducible rfl
              rotate_left
              ·simp only [Act.put,yK,yL,yM,i64_w,i32_w]
               rfl
              refine take_ (i:=14) (N:=some 35) (v:=?_) (a':=?_) #[true,true,true,true,true,true,true,true,true,true,true,true,true,true,true,false,false] rfl rfl (take_ofW HT_.out HW_.out (by kernel_rfl)) (fun _ _ _ h=>h) (Or.inl ⟨by rfl,?_⟩) hHeld ?_ ?_
              rotate_left
              ·rintro w' ⟨s0,s1⟩
               go_simp
               with_reducible rfl
              rotate_left
              ·simp only [Act.put,yK,yL,yM,i64_w,i32_w]
               rfl
              refine pure_ (i:=15) (N:=some 36) (v:=?_) (a':=?_) #[true,true,true,true,true,true,true,true,true,true,true,true,true,true,true,true,false] rfl rfl (any_of HT_.out (by kernel_rfl)) (fun _ _ _ h=>h) (Or.inl ⟨by rfl,?_⟩) ?_ ?_
              rotate_left
              ·intro w'
               go_simp
               with_reducible rfl
              rotate_left
              ·simp only [Act.put,yK,yL,yM,i64_w,i32_w]
               rfl
              refine pure_ (i:=16) (N:=some 37) (v:=?_) (a':=?_) #[true,true,true,true,true,true,true,true,true,true,true,true,true,true,true,true,true] rfl rfl (any_of HT_.out (by kernel_rfl)) (fun _ _ _ h=>h) (Or.inl ⟨by rfl,?_⟩) ?_ ?_
              rotate_left
              ·intro w'
               go_simp
               with_reducible rfl
              rotate_left
              ·simp only [Act.put,yK,yL,yM,i64_w,i32_w]
               rfl
              refine done_ (done_of HT_.out (by kernel_rfl)) ?_
              have hnb40:=NB240_239.out
              have hnc40:=NB239_240.out
              have hcz41_0:w37.cell? ⟨gb240,0,none⟩=some (.slice none 0 0):=(blk_cell BK240.out 0).trans rfl
              have hcz41_1:w37.cell? ⟨gb240,1,none⟩=some (.slice none 0 0):=(blk_cell BK240.out 1).trans rfl
              have hfz41_0:=blk_frozen BK240.out 0
              have hfz41_1:=blk_frozen BK240.out 1
              try go_wp2
              refine bodyPost_ret (results_cell_row rfl _ _ gb240 51 #[.slice (some ad249) x4_2.length co38,.slice (some ad250) x5_2.length co39] (0,0) _ rfl (by (with_reducible repeat (first|refine yE ?_ _|refine yF ?_|refine yG ?_ _));refine blk_put (cs:=#[.slice (some ad249) x4_2.length co38,.slice none 0 0]) ?_ 1 _ rfl;(with_reducible repeat (first|refine yE ?_ _|refine yF ?_|refine yG ?_ _));refine blk_put (cs:=#[.slice none 0 0,.slice none 0 0]) ?_ 0 _ rfl;(with_reducible repeat (first|refine yE ?_ _|refine yF ?_|refine yG ?_ _));exact BK240.out) Try.underlying51 rfl (by kernel_rfl)) rfl ?_
              exact ⟨_,_,by first|rfl|(simp [errW_none,errW_some]<;>rfl)|(simp only [← hji17,← hji20];first|rfl|(simp [errW_none,errW_some]<;>rfl))|(simp [*,errW_none,errW_some]<;>rfl),by (with_reducible repeat (first|apply yH|apply yI|apply yJ));exact Kd.R_mono (Kd.R_far (p:=⟨gb240,1,none⟩) (Kd.R_far (p:=⟨gb240,0,none⟩) (Kd.R_types HO_4.out BK240.out (by decide)) (fun _ hk=>hk.2) (.slice (some ad249) x4_2.length co38)) (fun _ hk=>hk.2) (.slice (some ad250) x5_2.length co39)) (fun _ hk=>hk.1),by (with_reducible repeat (first|apply yH|apply yI|apply yJ));exact Kd.R_mono (Kd.R_far (p:=⟨gb240,1,none⟩) (Kd.R_far (p:=⟨gb240,0,none⟩) (Kd.R_types HO_5.out BK240.out (by decide)) (fun _ hk=>hk.2) (.slice (some ad249) x4_2.length co38)) (fun _ hk=>hk.2) (.slice (some ad250) x5_2.length co39)) (fun _ hk=>hk.1),by repeat (first|(with_reducible first|exact HB.out|apply yA|apply yB|apply yC|refine yD ?_ GE239.out|refine yD ?_ GE240.out)|exact HB.out)⟩
            ·rw [if_neg c22] at H
             exact absurd H (by simp)
           ·rw [if_neg c21] at H
            exact absurd H (by simp)
          ·rw [if_neg c19] at H
           exact absurd H (by simp)
         ·rw [if_neg c18] at H
          exact absurd H (by simp)
        ·rw [if_neg c16] at H
         have c16b0:decide (0<(x4_2.length:Int))=false:=decide_eq_false c16
         have c16b1:decide (0<x4_2.length)=false:=decide_eq_false (by omega)
         clear c16
         simp only [Option.some.injEq,Prod.mk.injEq] at H
         obtain ⟨rfl,rfl⟩:=H
         try go_wp2
         have n0_:=Aside0.mk (yJ HO_4.out)
         have n1_:=Aside0.mk (yJ HO_5.out)
         have n2_:=Aside0.mk (yF BK239.out)
         have n3_:=Aside0.mk (yF BK240.out)
         have n4_:=Aside0.mk (yC HB.out)
         clear HO_4
         clear HO_5
         clear BK239
         clear BK240
         clear HB
         have HO_4:=n0_
         have HO_5:=n1_
         have BK239:=n2_
         have BK240:=n3_
         have HB:=n4_
         clear n0_ n1_ n2_ n3_ n4_
         obtain ⟨Ao43,co43,eo43⟩:=Kd.R_slice HO_4.out
         (first|subst eo43|(injection eo43 with f1_ f2_ f3_;have f4_:=f1_.symm;have f5_:=f3_.symm;clear f1_ f2_ f3_;subst f4_;subst f5_))
         refine start_ (n:=17) (S:=fun w'=>True) (ds:=[]) #[false,false,false,false,false,false,false,false,false,false,false,false,false,false,false,false,false] (by kernel_rfl) rfl rfl trivial (fun hHeld=>?_);refine with_tabW impl_set_tidy.tab5 impl_set_tidy.bits5 (fun HT_ HW_=>?_)
         generalize wr.drew=w42 at HO_4 HO_5 BK239 BK240 HB hHeld ⊢
         refine pure_ (i:=0) (N:=some 21) (v:=?_) (a':=?_) #[true,false,false,false,false,false,false,false,false,false,false,false,false,false,false,false,false] rfl rfl (any_of HT_.out (by kernel_rfl)) (fun _ _ _ h=>h) (Or.inl ⟨by rfl,?_⟩) ?_ ?_
         rotate_left
         ·intro w'
          go_simp
          with_reducible rfl
         rotate_left
         ·simp only [Act.put,yK,yL,yM,i64_w,i32_w]
          rfl
         refine pure_ (i:=1) (N:=some 22) (v:=?_) (a':=?_) #[true,true,false,false,false,false,false,false,false,false,false,false,false,false,false,false,false] rfl rfl (any_of HT_.out (by kernel_rfl)) (fun _ _ _ h=>h) (Or.inl ⟨by rfl,?_⟩) ?_ ?_
         rotate_left
         ·intro w'
          go_simp
          with_reducible rfl
         rotate_left
         ·simp only [Act.put,yK,yL,yM,i64_w,i32_w]
          rfl
         refine pure_ (i:=2) (N:=some 23) (v:=?_) (a':=?_) #[true,true,true,false,false,false,false,false,false,false,false,false,false,false,false,false,false] rfl rfl (any_of HT_.out (by kernel_rfl)) (fun _ _ _ h=>h) (Or.inl ⟨by rfl,?_⟩) ?_ ?_
         rotate_left
         ·intro w'
          go_simp
          with_reducible rfl
         rotate_left
         ·simp only [Act.put,yK,yL,yM,i64_w,i32_w]
          rfl
         refine pure_ (i:=3) (N:=some 24) (v:=?_) (a':=?_) #[true,true,true,true,false,false,false,false,false,false,false,false,false,false,false,false,false] rfl rfl (any_of HT_.out (by kernel_rfl)) (fun _ _ _ h=>h) (Or.inl ⟨by rfl,?_⟩) ?_ ?_
         rotate_left
         ·intro w'
          go_simp
          with_reducible rfl
         rotate_left
         ·simp only [Act.put,yK,yL,yM,i64_w,i32_w]
          rfl
         refine pure_ (i:=4) (N:=some 25) (v:=undef) (a':=?_) #[true,true,true,true,true,false,false,false,false,false,false,false,false,false,false,false,false] rfl rfl (any_of HT_.out (by kernel_rfl)) (fun _ _ _ h=>h) (Or.inr ⟨by rfl,rfl⟩) ?_ ?_
         rotate_left
         ·simp only [Act.put,yK,yL,yM,i64_w,i32_w]
          rfl
         refine pure_ (i:=5) (N:=some 26) (v:=undef) (a':=?_) #[true,true,true,true,true,true,false,false,false,false,false,false,false,false,false,false,false] rfl rfl (any_of HT_.out (by kernel_rfl)) (fun _ _ _ h=>h) (Or.inr ⟨by rfl,rfl⟩) ?_ ?_
         rotate_left
         ·simp only [Act.put,yK,yL,yM,i64_w,i32_w]
          rfl
         refine pure_ (i:=6) (N:=some 27) (v:=undef) (a':=?_) #[true,true,true,true,true,true,true,false,false,false,false,false,false,false,false,false,false] rfl rfl (any_of HT_.out (by kernel_rfl)) (fun _ _ _ h=>h) (Or.inr ⟨by rfl,rfl⟩) ?_ ?_
         rotate_left
         ·simp only [Act.put,yK,yL,yM,i64_w,i32_w]
          rfl
         refine pure_ (i:=7) (N:=some 28) (v:=undef) (a':=?_) #[true,true,true,true,true,true,true,true,false,false,false,false,false,false,false,false,false] rfl rfl (any_of HT_.out (by kernel_rfl)) (fun _ _ _ h=>h) (Or.inr ⟨by rfl,rfl⟩) ?_ ?_
         rotate_left
         ·simp only [Act.put,yK,yL,yM,i64_w,i32_w]
          rfl
         refine pure_ (i:=8) (N:=some 29) (v:=undef) (a':=?_) #[true,true,true,true,true,true,true,true,true,false,false,false,false,false,false,false,false] rfl rfl (any_of HT_.out (by kernel_rfl)) (fun _ _ _ h=>h) (Or.inr ⟨by rfl,rfl⟩) ?_ ?_
         rotate_left
         ·simp only [Act.put,yK,yL,yM,i64_w,i32_w]
          rfl
         refine pure_ (i:=9) (N:=some 30) (v:=undef) (a':=?_) #[true,true,true,true,true,true,true,true,true,true,false,false,false,false,false,false,false] rfl rfl (any_of HT_.out (by kernel_rfl)) (fun _ _ _ h=>h) (Or.inr ⟨by rfl,rfl⟩) ?_ ?_
         rotate_left
         ·simp only [Act.put,yK,yL,yM,i64_w,i32_w]
          rfl
         refine pure_ (i:=10) (N:=some 31) (v:=undef) (a':=?_) #[true,true,true,true,true,true,true,true,true,true,true,false,false,false,false,false,false] rfl rfl (any_of HT_.out (by kernel_rfl)) (fun _ _ _ h=>h) (Or.inr ⟨by rfl,rfl⟩) ?_ ?_
         rotate_left
         ·simp only [Act.put,yK,yL,yM,i64_w,i32_w]
          rfl
         refine pure_ (i:=11) (N:=some 32) (v:=undef) (a':=?_) #[true,true,true,true,true,true,true,true,true,true,true,true,false,false,false,false,false] rfl rfl (any_of HT_.out (by kernel_rfl)) (fun _ _ _ h=>h) (Or.inr ⟨by rfl,rfl⟩) ?_ ?_
         rotate_left
         ·simp only [Act.put,yK,yL,yM,i64_w,i32_w]
          rfl
         refine pure_ (i:=12) (N:=some 33) (v:=undef) (a':=?_) #[true,true,true,true,true,true,true,true,true,true,true,true,true,false,false,false,false] rfl rfl (any_of HT_.out (by kernel_rfl)) (fun _ _ _ h=>h) (Or.inr ⟨by rfl,rfl⟩) ?_ ?_
         rotate_left
         ·simp only [Act.put,yK,yL,yM,i64_w,i32_w]
          rfl
         refine pure_ (i:=13) (N:=some 34) (v:=undef) (a':=?_) #[true,true,true,true,true,true,true,true,true,true,true,true,true,true,false,false,false] rfl rfl (any_of HT_.out (by kernel_rfl)) (fun _ _ _ h=>h) (Or.inr ⟨by rfl,rfl⟩) ?_ ?_
         rotate_left
         ·simp only [Act.put,yK,yL,yM,i64_w,i32_w]
          rfl
         refine pure_ (i:=14) (N:=some 35) (v:=undef) (a':=?_) #[true,true,true,true,true,true,true,true,true,true,true,true,true,true,true,false,false] rfl rfl (any_of HT_.out (by kernel_rfl)) (fun _ _ _ h=>h) (Or.inr ⟨by rfl,rfl⟩) ?_ ?_
         rotate_left
         ·simp only [Act.put,yK,yL,yM,i64_w,i32_w]
          rfl
         refine pure_ (i:=15) (N:=some 36) (v:=undef) (a':=?_) #[true,true,true,true,true,true,true,true,true,true,true,true,true,true,true,true,false] rfl rfl (any_of HT_.out (by kernel_rfl)) (fun _ _ _ h=>h) (Or.inr ⟨by rfl,rfl⟩) ?_ ?_
         rotate_left
         ·simp only [Act.put,yK,yL,yM,i64_w,i32_w]
          rfl
         refine pure_ (i:=16) (N:=some 37) (v:=?_) (a':=?_) #[true,true,true,true,true,true,true,true,true,true,true,true,true,true,true,true,true] rfl rfl (any_of HT_.out (by kernel_rfl)) (fun _ _ _ h=>h) (Or.inl ⟨by rfl,?_⟩) ?_ ?_
         rotate_left
         ·intro w'
          go_simp
          with_reducible rfl
         rotate_left
         ·simp only [Act.put,yK,yL,yM,i64_w,i32_w]
          rfl
         refine done_ (done_of HT_.out (by kernel_rfl)) ?_
         obtain ⟨Ao44,co44,eo44⟩:=Kd.R_slice HO_5.out
         subst eo44
         have hnb45:=NB240_239.out
         have hnc45:=NB239_240.out
         have hcz46_0:w42.cell? ⟨gb240,0,none⟩=some (.slice none 0 0):=(blk_cell BK240.out 0).trans rfl
         have hcz46_1:w42.cell? ⟨gb240,1,none⟩=some (.slice none 0 0):=(blk_cell BK240.out 1).trans rfl
         have hfz46_0:=blk_frozen BK240.out 0
         have hfz46_1:=blk_frozen BK240.out 1
         try go_wp2
         refine bodyPost_ret (results_cell_row rfl _ _ gb240 51 #[.slice Ao43 x4_2.length co43,.slice Ao44 x5_2.length co44] (0,0) _ rfl (by (with_reducible repeat (first|refine yE ?_ _|refine yF ?_|refine yG ?_ _));refine blk_put (cs:=#[.slice Ao43 x4_2.length co43,.slice none 0 0]) ?_ 1 _ rfl;(with_reducible repeat (first|refine yE ?_ _|refine yF ?_|refine yG ?_ _));refine blk_put (cs:=#[.slice none 0 0,.slice none 0 0]) ?_ 0 _ rfl;(with_reducible repeat (first|refine yE ?_ _|refine yF ?_|refine yG ?_ _));exact BK240.out) Try.underlying51 rfl (by kernel_rfl)) rfl ?_
         exact ⟨_,_,by first|rfl|(simp [errW_none,errW_some]<;>rfl)|(simp [*,errW_none,errW_some]<;>rfl)|(simp [errW_none,errW_some];exact ⟨rfl,rfl⟩),by (with_reducible repeat (first|apply yH|apply yI|apply yJ));exact Kd.R_mono (Kd.R_far (p:=⟨gb240,1,none⟩) (Kd.R_far (p:=⟨gb240,0,none⟩) (Kd.R_types HO_4.out BK240.out (by decide)) (fun _ hk=>hk.2) (.slice Ao43 x4_2.length co43)) (fun _ hk=>hk.2) (.slice Ao44 x5_2.length co44)) (fun _ hk=>hk.1),by (with_reducible repeat (first|apply yH|apply yI|apply yJ));exact Kd.R_mono (Kd.R_far (p:=⟨gb240,1,none⟩) (Kd.R_far (p:=⟨gb240,0,none⟩) (Kd.R_types HO_5.out BK240.out (by decide)) (fun _ hk=>hk.2) (.slice Ao43 x4_2.length co43)) (fun _ hk=>hk.2) (.slice Ao44 x5_2.length co44)) (fun _ hk=>hk.1),by repeat (first|(with_reducible first|exact HB.out|apply yA|apply yB|apply yC|refine yD ?_ GE239.out|refine yD ?_ GE240.out)|exact HB.out)⟩
     ·rw [if_neg c8] at H
      exact absurd H (by simp)
    ·rw [if_neg c7] at H
     exact absurd H (by simp)
   ·replace c5:=Bool.eq_false_iff.mpr c5
    subst c5
    have H1:(impl_set_tidy.l0 k1 (wrap64 (x3_1+1)) l0_0 l0_1)=some (r1,r2):=by rw [if_neg (show ¬ (false=true) by decide)] at H;exact H
    clear H
    have H:=H1
    clear H1
    have H':=Aside0.mk H
    clear H
    have hnb47:=NB239_240.out
    have hnc47:=NB240_239.out
    have hcz48_0:wr.cell? ⟨gb239,0,none⟩=some (.slice A0_0 l0_0.length c0_0):=(blk_cell BK239.out 0).trans rfl
    have hcz48_1:wr.cell? ⟨gb239,1,none⟩=some (.slice A0_1 l0_1.length c0_1):=(blk_cell BK239.out 1).trans rfl
    have hfz48_0:=blk_frozen BK239.out 0
    have hfz48_1:=blk_frozen BK239.out 1
    go_wp2_with (first|((with_reducible refine gate_callee (f:=54) rfl ?_);refine goesL_ (some 9) rfl rfl Try.func54 (by kernel_rfl) rfl #[.slice A0_1 l0_1.length c0_1,.int .i64 x3_1] rfl (by (try simp only [List.map_toArray,List.map_cons,List.map_nil]);first|done|rfl|(simp only [List.length_drop,List.length_take];rfl)) ?_;(with_reducible refine (impl_turns.calls k1 _ _ l0_1 x3_1 false _ ?side1 ?side2 A4.out).mono ?_);(case side1=>repeat (first|exact (Kd.C_below HR0_1.out HB.out)|(with_reducible refine Kd.C_alloc ?_ _)|(with_reducible refine Kd.C_drewN ?_ _)|(with_reducible refine Kd.C_drew ?_)));(case side2=>exact HC0_1.out);rintro e w' ⟨rfl,⟨nd,rfl⟩⟩;refine ⟨_,rfl,?_⟩))
    go_roundg k1
    case measure=>have:=HK1.out;omega
    case rel=>exact ⟨(wrap64 (x3_1+1)),(by first|rfl|(simp;done)|(simp [*];done)|(simp [Int.tmod_eq_emod_of_nonneg];done)),H',⟨by have:=HK1.out;omega⟩,⟨by (with_reducible repeat (first|refine yE ?_ _|refine yF ?_|refine yG ?_ _));exact BK239.out⟩,⟨by (with_reducible repeat (first|refine yE ?_ _|refine yF ?_|refine yG ?_ _));exact BK240.out⟩,⟨by repeat (first|(with_reducible first|exact HB.out|apply yA|apply yB|apply yC|refine yD ?_ GE239.out|refine yD ?_ GE240.out)|exact HB.out)⟩⟩

end Go.Proofs.Ytmlmnikafikchaa.P

namespace Go.Proofs.Ytmlmnikafikchaa.P
open Go.RowKit Go.Proofs.YtmlmnikafikchaaW.PrintWords Go.Proofs.YtmlmnikafikchaaW.PrintLast Go.Proofs.YtmlmnikafikchaaW.PrintMore
attribute [local go_sem] max2_int min2_int max_two min_two max_three min_three max_four min_four   -- for this text's walks alone
set_option linter.unusedVariables false
set_option linter.unusedSimpArgs false

/-! ### slices_Index_bool_bool: function 50 -/
def slices_Index_bool_bool.l0:Nat→List Bool→Bool→Int→Int→Option (Int)
 | 0,_,_,_,_=>none
 | k+1,x0,x1,x7,x8=>if x8<x7 then (if 0≤x8 then (if x8<(x0.length:Int) then (if (x1 == (rdOf false x0 x8))=true then (some x8) else (slices_Index_bool_bool.l0 k x0 x1 x7 (wrap64 (x8+1)))) else (none)) else (none)) else (some (-1))
def slices_Index_bool_bool.f (k:Nat) (l0:List Bool) (a1:Bool):Option (Int):=slices_Index_bool_bool.l0 k l0 a1 (l0.length:Int) 0
theorem slices_Index_bool_bool.mono_l:∀ k,(∀ y0 y1 y2 y3,LeO (slices_Index_bool_bool.l0 k y0 y1 y2 y3) (slices_Index_bool_bool.l0 (k+1) y0 y1 y2 y3))
 | 0=>fun _ _ _ _ r h=>by simp [slices_Index_bool_bool.l0] at h
 | k+1=>by
  have ih0:=slices_Index_bool_bool.mono_l k
  ·intro y0 y1 y2 y3
   unfold slices_Index_bool_bool.l0
   repeat' first
   | (with_reducible exact ih0 _ _ _ _)
   | (with_reducible exact LeO.refl _)
   | (with_reducible exact LeO.none _)
   | (with_reducible refine LeO.ite ?_ ?_)
   | (with_reducible refine LeO.bind ?_ (fun _=>?_))
   | exact ih0 _ _ _ _
   | exact LeO.none _
   | refine LeO.ite ?_ ?_
   | refine LeO.bind ?_ (fun _=>?_)
theorem slices_Index_bool_bool.mono:∀ a0 a1 k,LeO (slices_Index_bool_bool.f k a0 a1) (slices_Index_bool_bool.f (k+1) a0 a1):=by
 intro a0 a1 k
 have ih0:=slices_Index_bool_bool.mono_l k
 unfold slices_Index_bool_bool.f
 repeat' first
   | (with_reducible exact ih0 _ _ _ _)
   | (with_reducible exact LeO.refl _)
   | (with_reducible exact LeO.none _)
   | (with_reducible refine LeO.ite ?_ ?_)
   | (with_reducible refine LeO.bind ?_ (fun _=>?_))
   | exact ih0 _ _ _ _
   | exact LeO.none _
   | refine LeO.ite ?_ ?_
   | refine LeO.bind ?_ (fun _=>?_)
set_option maxHeartbeats 8000000 in
set_option maxRecDepth 100000 in
theorem slices_Index_bool_bool.calls (k:Nat) (A0:Option Addr) (c0:Nat) (l0:List Bool) (a1:Bool) (r:Int) (w:World) (hr0:Kd.C Kd.bool w A0 l0.length l0) (hc0:l0.length≤c0) (h:slices_Index_bool_bool.f k l0 a1=some r) :
  Calls Try.prog 50 #[.slice A0 l0.length c0,.bool a1] w fun e w'=>e=.returned (.int .i64 r)∧Drawn0 w w':=by
 have HR0:=Aside0.mk hr0
 have HC0:=Aside0.mk hc0
 clear hr0 hc0
 have H:(slices_Index_bool_bool.l0 k l0 a1 (l0.length:Int) 0)=some r:=h
 clear h
 have H':=Aside0.mk H
 clear H
 go_enter Try.func50,Try.ntmps50
 go_wp2
 go_loopg [8] k (fun kq v8 w'=>∃ (x8_1:Int),v8=.int .i64 x8_1∧Aside0 (slices_Index_bool_bool.l0 kq l0 a1 (l0.length:Int) x8_1=some r)∧Aside0 (kq≤k)∧Drawn0 w w')
 case atStart=>exact ⟨(0),(by first|rfl|(simp;done)|(simp [*];done)|(simp [Int.tmod_eq_emod_of_nonneg];done)),H',⟨Nat.le_refl _⟩,by repeat (first|exact Drawn0.refl _|apply Drawn0.step)⟩
 case round =>
  clear H'
  try clear p2
  obtain ⟨x8_1,rfl,HA,HK1,⟨m1,rfl⟩⟩:=hrel
  cases gk with
  | zero=>exact absurd HA.out (by simp [slices_Index_bool_bool.l0])
  | succ k1 =>
   have H:=HA.out
   clear HA
   simp only [slices_Index_bool_bool.l0] at H
   by_cases c3:x8_1<(l0.length:Int)
   ·rw [if_pos c3] at H
    have c3b0:decide (x8_1<(l0.length:Int))=true:=decide_eq_true c3
    clear c3
    by_cases c4:0≤x8_1
    ·rw [if_pos c4] at H
     have c4b0:decide (0≤x8_1)=true:=decide_eq_true c4
     clear c4
     by_cases c5:x8_1<(l0.length:Int)
     ·rw [if_pos c5] at H
      have c5b0:decide (x8_1<(l0.length:Int))=true:=decide_eq_true c5
      clear c5
      by_cases c6:(a1 == (rdOf false l0 x8_1))=true
      ·rw [if_pos c6] at H
       have c6b0:(a1 == (rdOf false l0 x8_1))=true:=c6
       (try (have c6b1:decide (a1=(rdOf false l0 x8_1))=true:=by simpa using c6))
       (try (have c6b2:(a1 == (rdOf false l0 x8_1))=true:=by simpa using c6))
       clear c6
       obtain rfl:=Option.some.inj H
       have p306:0≤(x8_1:Int):=of_decide_eq_true (by first|(with_reducible assumption)|assumption)
       have q306:x8_1<(l0.length:Int):=of_decide_eq_true (by first|(with_reducible assumption)|assumption)
       obtain ⟨ad306,e306,hx306_0⟩:=Kd.at_bool HR0.out x8_1 p306 q306
       cases e306
       replace p306:=eq_true p306
       replace q306:=eq_true q306
       go_wp2
       go_ret
       exact ⟨by first|rfl|(simp;done)|(simp [*];done),by repeat (first|exact Drawn0.refl _|apply Drawn0.step)⟩
      ·rw [if_neg c6] at H
       have c6b0:(a1 == (rdOf false l0 x8_1))=false:=by simpa using c6
       (try (have c6b1:decide (a1=(rdOf false l0 x8_1))=false:=by simpa using c6))
       (try (have c6b2:(a1 == (rdOf false l0 x8_1))=false:=by simpa using c6))
       (try (have c6b3:¬ (a1=(rdOf false l0 x8_1)):=by simpa using c6))
       clear c6
       have H':=Aside0.mk H
       clear H
       have p306:0≤(x8_1:Int):=of_decide_eq_true (by first|(with_reducible assumption)|assumption)
       have q306:x8_1<(l0.length:Int):=of_decide_eq_true (by first|(with_reducible assumption)|assumption)
       obtain ⟨ad306,e306,hx306_0⟩:=Kd.at_bool HR0.out x8_1 p306 q306
       cases e306
       replace p306:=eq_true p306
       replace q306:=eq_true q306
       go_wp2
       go_roundg k1
       case measure=>have:=HK1.out;omega
       case rel=>exact ⟨(wrap64 (x8_1+1)),(by first|rfl|(simp;done)|(simp [*];done)|(simp [Int.tmod_eq_emod_of_nonneg];done)),H',⟨by have:=HK1.out;omega⟩,by repeat (first|exact Drawn0.refl _|apply Drawn0.step)⟩
     ·rw [if_neg c5] at H
      exact absurd H (by simp)
    ·rw [if_neg c4] at H
     exact absurd H (by simp)
   ·rw [if_neg c3] at H
    have c3b0:decide (x8_1<(l0.length:Int))=false:=decide_eq_false c3
    clear c3
    obtain rfl:=Option.some.inj H
    go_wp2
    go_ret
    exact ⟨by first|rfl|(simp;done)|(simp [*];done),by repeat (first|exact Drawn0.refl _|apply Drawn0.step)⟩

end Go.Proofs.Ytmlmnikafikchaa.P

namespace Go.Proofs.Ytmlmnikafikchaa.P
open Go.RowKit Go.Proofs.YtmlmnikafikchaaW.PrintWords Go.Proofs.YtmlmnikafikchaaW.PrintLast Go.Proofs.YtmlmnikafikchaaW.PrintMore
attribute [local go_sem] max2_int min2_int max_two min_two max_three min_three max_four min_four   -- for this text's walks alone
set_option linter.unusedVariables false
set_option linter.unusedSimpArgs false

/-! ### slices_Contains_bool_bool: function 28 -/
def slices_Contains_bool_bool.f (k:Nat) (l0:List Bool) (a1:Bool):Option (Bool):=(slices_Index_bool_bool.f k l0 a1).bind fun t307=>(some (decide (t307 ≥ 0)))
theorem slices_Contains_bool_bool.mono:∀ a0 a1 k,LeO (slices_Contains_bool_bool.f k a0 a1) (slices_Contains_bool_bool.f (k+1) a0 a1):=by
 intro a0 a1 k
 unfold slices_Contains_bool_bool.f
 repeat' first
   | (with_reducible exact slices_Index_bool_bool.mono _ _ _)
   | (with_reducible exact LeO.refl _)
   | (with_reducible exact LeO.none _)
   | (with_reducible refine LeO.ite ?_ ?_)
   | (with_reducible refine LeO.bind ?_ (fun _=>?_))
   | exact slices_Index_bool_bool.mono _ _ _
   | exact LeO.none _
   | refine LeO.ite ?_ ?_
   | refine LeO.bind ?_ (fun _=>?_)
set_option maxHeartbeats 8000000 in
set_option maxRecDepth 100000 in
theorem slices_Contains_bool_bool.calls (k:Nat) (A0:Option Addr) (c0:Nat) (l0:List Bool) (a1:Bool) (r:Bool) (w:World) (hr0:Kd.C Kd.bool w A0 l0.length l0) (hc0:l0.length≤c0) (h:slices_Contains_bool_bool.f k l0 a1=some r) :
  Calls Try.prog 28 #[.slice A0 l0.length c0,.bool a1] w fun e w'=>e=.returned (.bool r)∧Drawn0 w w':=by
 have HR0:=Aside0.mk hr0
 have HC0:=Aside0.mk hc0
 clear hr0 hc0
 have H:((slices_Index_bool_bool.f k l0 a1).bind fun t307=>(some (decide (t307 ≥ 0))))=some r:=h
 clear h
 replace H:=Option.bind_eq_some_iff.mp H
 obtain ⟨t307,A30,H⟩:=H
 replace H:(some (decide (t307 ≥ 0)))=some r:=H
 have A3:=Aside0.mk A30
 clear A30
 obtain rfl:=Option.some.inj H
 go_enter Try.func28,Try.ntmps28
 go_wp2_with (first|((with_reducible refine gate_callee (f:=50) rfl ?_);refine goesL_ (some 7) rfl rfl Try.func50 (by kernel_rfl) rfl #[.slice A0 l0.length c0,.bool a1] rfl (by (try simp only [List.map_toArray,List.map_cons,List.map_nil]);first|done|rfl|(simp only [List.length_drop,List.length_take];rfl)) ?_;(with_reducible refine (slices_Index_bool_bool.calls k _ _ l0 a1 t307 _ ?side1 ?side2 A3.out).mono ?_);(case side1=>repeat (first|exact HR0.out|(with_reducible refine Kd.C_alloc ?_ _)|(with_reducible refine Kd.C_drewN ?_ _)|(with_reducible refine Kd.C_drew ?_)));(case side2=>exact HC0.out);rintro e w' ⟨rfl,⟨nd,rfl⟩⟩;refine ⟨_,rfl,?_⟩))
 go_ret
 exact ⟨by first|rfl|(simp;done)|(simp [*];done),by repeat (first|exact Drawn0.refl _|apply Drawn0.step)⟩

end Go.Proofs.Ytmlmnikafikchaa.P

namespace Go.Proofs.Ytmlmnikafikchaa.P
open Go.RowKit Go.Proofs.YtmlmnikafikchaaW.PrintWords Go.Proofs.YtmlmnikafikchaaW.PrintLast Go.Proofs.YtmlmnikafikchaaW.PrintMore
attribute [local go_sem] max2_int min2_int max_two min_two max_three min_three max_four min_four   -- for this text's walks alone
set_option linter.unusedVariables false
set_option linter.unusedSimpArgs false

/-! ### spec_l1Divisor: function 52 -/
def spec_l1Divisor.l0:Nat→Int→Int→Option (Int)
 | 0,_,_=>none
 | k+1,x0,x1=>if x1 > 0 then (if x1=0 then (none) else (spec_l1Divisor.l0 k x1 (Int.tmod x0 x1))) else (some x0)
def spec_l1Divisor.f (k:Nat) (a0:Int) (a1:Int):Option (Int):=spec_l1Divisor.l0 k a0 a1
theorem spec_l1Divisor.mono_l:∀ k,(∀ y0 y1,LeO (spec_l1Divisor.l0 k y0 y1) (spec_l1Divisor.l0 (k+1) y0 y1))
 | 0=>fun _ _ r h=>by simp [spec_l1Divisor.l0] at h
 | k+1=>by
  have ih0:=spec_l1Divisor.mono_l k
  ·intro y0 y1
   unfold spec_l1Divisor.l0
   repeat' first
   | (with_reducible exact ih0 _ _)
   | (with_reducible exact LeO.refl _)
   | (with_reducible exact LeO.none _)
   | (with_reducible refine LeO.ite ?_ ?_)
   | (with_reducible refine LeO.bind ?_ (fun _=>?_))
   | exact ih0 _ _
   | exact LeO.none _
   | refine LeO.ite ?_ ?_
   | refine LeO.bind ?_ (fun _=>?_)
theorem spec_l1Divisor.mono:∀ a0 a1 k,LeO (spec_l1Divisor.f k a0 a1) (spec_l1Divisor.f (k+1) a0 a1):=by
 intro a0 a1 k
 have ih0:=spec_l1Divisor.mono_l k
 unfold spec_l1Divisor.f
 repeat' first
   | (with_reducible exact ih0 _ _)
   | (with_reducible exact LeO.refl _)
   | (with_reducible exact LeO.none _)
   | (with_reducible refine LeO.ite ?_ ?_)
   | (with_reducible refine LeO.bind ?_ (fun _=>?_))
   | exact ih0 _ _
   | exact LeO.none _
   | refine LeO.ite ?_ ?_
   | refine LeO.bind ?_ (fun _=>?_)
set_option maxHeartbeats 8000000 in
set_option maxRecDepth 100000 in
theorem spec_l1Divisor.calls (k:Nat) (a0:Int) (a1:Int) (r:Int) (w:World) (h:spec_l1Divisor.f k a0 a1=some r) :
  Calls Try.prog 52 #[.int .i64 a0,.int .i64 a1] w fun e w'=>e=.returned (.int .i64 r)∧Drawn0 w w':=by
 have H:(spec_l1Divisor.l0 k a0 a1)=some r:=h
 clear h
 have H':=Aside0.mk H
 clear H
 go_enter Try.func52,Try.ntmps52
 go_wp2
 go_loopg [0,1] k (fun kq v0 v1 w'=>∃ (x0_1:Int) (x1_1:Int),v0=.int .i64 x0_1∧v1=.int .i64 x1_1∧Aside0 (spec_l1Divisor.l0 kq x0_1 x1_1=some r)∧Aside0 (kq≤k)∧Drawn0 w w')
 case atStart=>exact ⟨(a0),(a1),(by first|rfl|(simp;done)|(simp [*];done)|(simp [Int.tmod_eq_emod_of_nonneg];done)),(by first|rfl|(simp;done)|(simp [*];done)|(simp [Int.tmod_eq_emod_of_nonneg];done)),H',⟨Nat.le_refl _⟩,by repeat (first|exact Drawn0.refl _|apply Drawn0.step)⟩
 case round =>
  clear H'
  try clear p2
  obtain ⟨x0_1,x1_1,rfl,rfl,HA,HK1,⟨m1,rfl⟩⟩:=hrel
  cases gk with
  | zero=>exact absurd HA.out (by simp [spec_l1Divisor.l0])
  | succ k1 =>
   have H:=HA.out
   clear HA
   simp only [spec_l1Divisor.l0] at H
   by_cases c3:x1_1 > 0
   ·rw [if_pos c3] at H
    have c3b0:decide (0<x1_1)=true:=decide_eq_true c3
    clear c3
    by_cases c4:x1_1=0
    ·rw [if_pos c4] at H
     exact absurd H (by simp)
    ·rw [if_neg c4] at H
     have c4b0:(x1_1 == 0)=false:=beq_eq_false_iff_ne.mpr c4
     have c4b1:(x1_1 != 0)=true:=bne_iff_ne.mpr c4
     have H':=Aside0.mk H
     clear H
     go_wp2
     go_roundg k1
     case measure=>have:=HK1.out;omega
     case rel=>exact ⟨(x1_1),(Int.tmod x0_1 x1_1),(by first|rfl|(simp;done)|(simp [*];done)|(simp [Int.tmod_eq_emod_of_nonneg];done)),(by first|rfl|(simp;done)|(simp [*];done)|(simp [Int.tmod_eq_emod_of_nonneg];done)),H',⟨by have:=HK1.out;omega⟩,by repeat (first|exact Drawn0.refl _|apply Drawn0.step)⟩
   ·rw [if_neg c3] at H
    have c3b0:decide (0<x1_1)=false:=decide_eq_false c3
    clear c3
    obtain rfl:=Option.some.inj H
    go_wp2
    go_ret
    exact ⟨by first|rfl|(simp;done)|(simp [*];done),by repeat (first|exact Drawn0.refl _|apply Drawn0.step)⟩

end Go.Proofs.Ytmlmnikafikchaa.P

namespace Go.Proofs.Ytmlmnikafikchaa.P
open Go.RowKit Go.Proofs.YtmlmnikafikchaaW.PrintWords Go.Proofs.YtmlmnikafikchaaW.PrintLast Go.Proofs.YtmlmnikafikchaaW.PrintMore
attribute [local go_sem] max2_int min2_int max_two min_two max_three min_three max_four min_four   -- for this text's walks alone
set_option linter.unusedVariables false
set_option linter.unusedSimpArgs false

/-! ### spec_l3Has: function 53 -/
def spec_l3Has.f (l0:List Int) (a1:Int):Option (Bool):=if 1<(l0.length:Int) then (if (rd l0 1)=0 then (if 0<(l0.length:Int) then (some (a1 == (rd l0 0))) else (none)) else (if 0<(l0.length:Int) then (if a1 ≥ (rd l0 0) then (some ((Int.tmod (wrap64 (a1 - (rd l0 0))) (rd l0 1)) == 0)) else (some false)) else (none))) else (none)
set_option maxHeartbeats 8000000 in
set_option maxRecDepth 100000 in
theorem spec_l3Has.calls (A0:Option Addr) (c0:Nat) (l0:List Int) (a1:Int) (r:Bool) (w:World) (hr0:Kd.C (Kd.int .i64) w A0 l0.length l0) (hc0:l0.length≤c0) (h:spec_l3Has.f l0 a1=some r) :
  Calls Try.prog 53 #[.slice A0 l0.length c0,.int .i64 a1] w fun e w'=>e=.returned (.bool r)∧Drawn0 w w':=by
 have HR0:=Aside0.mk hr0
 have HC0:=Aside0.mk hc0
 clear hr0 hc0
 have H:(if 1<(l0.length:Int) then (if (rd l0 1)=0 then (if 0<(l0.length:Int) then (some (a1 == (rd l0 0))) else (none)) else (if 0<(l0.length:Int) then (if a1 ≥ (rd l0 0) then (some ((Int.tmod (wrap64 (a1 - (rd l0 0))) (rd l0 1)) == 0)) else (some false)) else (none))) else (none))=some r:=h
 clear h
 by_cases c3:1<(l0.length:Int)
 ·rw [if_pos c3] at H
  have c3b0:decide (1<(l0.length:Int))=true:=decide_eq_true c3
  have c3b1:decide (1<l0.length)=true:=decide_eq_true (by omega)
  clear c3
  by_cases c4:(rd l0 1)=0
  ·rw [if_pos c4] at H
   have c4b0:((rd l0 1) == 0)=true:=beq_iff_eq.mpr c4
   have c4b1:((rd l0 1) != 0)=false:=bne_eq_false_iff_eq.mpr c4
   clear c4
   by_cases c5:0<(l0.length:Int)
   ·rw [if_pos c5] at H
    have c5b0:decide (0<(l0.length:Int))=true:=decide_eq_true c5
    have c5b1:decide (0<l0.length)=true:=decide_eq_true (by omega)
    clear c5
    obtain rfl:=Option.some.inj H
    have p221:0≤(1:Int):=(by omega)
    have q221:1<(l0.length:Int):=of_decide_eq_true (by first|(with_reducible assumption)|assumption)
    obtain ⟨ad221,e221,hx221_0⟩:=Kd.at_int HR0.out 1 p221 q221
    cases e221
    (try simp only [show (1:Int).toNat=1 from rfl,Nat.reduceMul,Nat.reduceEqDiff,Go.Addr.add,↓reduceIte] at hx221_0)
    have qi221:(1<l0.length)=True:=eq_true (by omega)
    (try rw [show ((1:Int)).toNat=1 from rfl] at hx221_0)
    replace p221:=eq_true p221
    replace q221:=eq_true q221
    have p222:0≤(0:Int):=(by omega)
    have q222:0<(l0.length:Int):=of_decide_eq_true (by first|(with_reducible assumption)|assumption)
    obtain ⟨ad222,e222,hx222_0⟩:=Kd.at_int HR0.out 0 p222 q222
    obtain rfl:ad221=ad222:=(by injection e222)
    have qi222:(0<l0.length)=True:=eq_true (by omega)
    (try rw [show ((0:Int)).toNat=0 from rfl] at hx222_0)
    (try rw [Addr.add_zero'] at hx222_0)
    replace p222:=eq_true p222
    replace q222:=eq_true q222
    go_enter Try.func53,Try.ntmps53
    go_wp2
    repeat (go_quiet (fail);try go_wp2)
    go_ret
    exact ⟨by first|rfl|(simp;done)|(simp [*];done),by repeat (first|exact Drawn0.refl _|apply Drawn0.step)⟩
   ·rw [if_neg c5] at H
    exact absurd H (by simp)
  ·rw [if_neg c4] at H
   have c4b0:((rd l0 1) == 0)=false:=beq_eq_false_iff_ne.mpr c4
   have c4b1:((rd l0 1) != 0)=true:=bne_iff_ne.mpr c4
   by_cases c6:0<(l0.length:Int)
   ·rw [if_pos c6] at H
    have c6b0:decide (0<(l0.length:Int))=true:=decide_eq_true c6
    have c6b1:decide (0<l0.length)=true:=decide_eq_true (by omega)
    clear c6
    by_cases c7:a1 ≥ (rd l0 0)
    ·rw [if_pos c7] at H
     have c7b0:decide ((rd l0 0)≤a1)=true:=decide_eq_true c7
     clear c7
     obtain rfl:=Option.some.inj H
     have p221:0≤(1:Int):=(by omega)
     have q221:1<(l0.length:Int):=of_decide_eq_true (by first|(with_reducible assumption)|assumption)
     obtain ⟨ad221,e221,hx221_0⟩:=Kd.at_int HR0.out 1 p221 q221
     cases e221
     (try simp only [show (1:Int).toNat=1 from rfl,Nat.reduceMul,Nat.reduceEqDiff,Go.Addr.add,↓reduceIte] at hx221_0)
     have qi221:(1<l0.length)=True:=eq_true (by omega)
     (try rw [show ((1:Int)).toNat=1 from rfl] at hx221_0)
     replace p221:=eq_true p221
     replace q221:=eq_true q221
     have p223:0≤(0:Int):=(by omega)
     have q223:0<(l0.length:Int):=of_decide_eq_true (by first|(with_reducible assumption)|assumption)
     obtain ⟨ad223,e223,hx223_0⟩:=Kd.at_int HR0.out 0 p223 q223
     obtain rfl:ad221=ad223:=(by injection e223)
     have qi223:(0<l0.length)=True:=eq_true (by omega)
     (try rw [show ((0:Int)).toNat=0 from rfl] at hx223_0)
     (try rw [Addr.add_zero'] at hx223_0)
     replace p223:=eq_true p223
     replace q223:=eq_true q223
     have p224:0≤(0:Int):=(by omega)
     have q224:0<(l0.length:Int):=of_decide_eq_true (by first|(with_reducible assumption)|assumption)
     obtain ⟨ad224,e224,hx224_0⟩:=Kd.at_int HR0.out 0 p224 q224
     obtain rfl:ad221=ad224:=(by injection e224)
     have qi224:(0<l0.length)=True:=eq_true (by omega)
     (try rw [show ((0:Int)).toNat=0 from rfl] at hx224_0)
     (try rw [Addr.add_zero'] at hx224_0)
     replace p224:=eq_true p224
     replace q224:=eq_true q224
     have p225:0≤(1:Int):=(by omega)
     have q225:1<(l0.length:Int):=of_decide_eq_true (by first|(with_reducible assumption)|assumption)
     obtain ⟨ad225,e225,hx225_0⟩:=Kd.at_int HR0.out 1 p225 q225
     obtain rfl:ad221=ad225:=(by injection e225)
     (try simp only [show (1:Int).toNat=1 from rfl,Nat.reduceMul,Nat.reduceEqDiff,Go.Addr.add,↓reduceIte] at hx225_0)
     have qi225:(1<l0.length)=True:=eq_true (by omega)
     (try rw [show ((1:Int)).toNat=1 from rfl] at hx225_0)
     replace p225:=eq_true p225
     replace q225:=eq_true q225
     go_enter Try.func53,Try.ntmps53
     go_wp2
     repeat (go_quiet (fail);try go_wp2)
     go_ret
     exact ⟨by first|rfl|(simp;done)|(simp [*];done),by repeat (first|exact Drawn0.refl _|apply Drawn0.step)⟩
    ·rw [if_neg c7] at H
     have c7b0:decide ((rd l0 0)≤a1)=false:=decide_eq_false c7
     clear c7
     obtain rfl:=Option.some.inj H
     have p221:0≤(1:Int):=(by omega)
     have q221:1<(l0.length:Int):=of_decide_eq_true (by first|(with_reducible assumption)|assumption)
     obtain ⟨ad221,e221,hx221_0⟩:=Kd.at_int HR0.out 1 p221 q221
     cases e221
     (try simp only [show (1:Int).toNat=1 from rfl,Nat.reduceMul,Nat.reduceEqDiff,Go.Addr.add,↓reduceIte] at hx221_0)
     have qi221:(1<l0.length)=True:=eq_true (by omega)
     (try rw [show ((1:Int)).toNat=1 from rfl] at hx221_0)
     replace p221:=eq_true p221
     replace q221:=eq_true q221
     have p223:0≤(0:Int):=(by omega)
     have q223:0<(l0.length:Int):=of_decide_eq_true (by first|(with_reducible assumption)|assumption)
     obtain ⟨ad223,e223,hx223_0⟩:=Kd.at_int HR0.out 0 p223 q223
     obtain rfl:ad221=ad223:=(by injection e223)
     have qi223:(0<l0.length)=True:=eq_true (by omega)
     (try rw [show ((0:Int)).toNat=0 from rfl] at hx223_0)
     (try rw [Addr.add_zero'] at hx223_0)
     replace p223:=eq_true p223
     replace q223:=eq_true q223
     go_enter Try.func53,Try.ntmps53
     go_wp2
     repeat (go_quiet (fail);try go_wp2)
     go_ret
     exact ⟨by first|rfl|(simp;done)|(simp [*];done),by repeat (first|exact Drawn0.refl _|apply Drawn0.step)⟩
   ·rw [if_neg c6] at H
    exact absurd H (by simp)
 ·rw [if_neg c3] at H
  exact absurd H (by simp)

end Go.Proofs.Ytmlmnikafikchaa.P

namespace Go.Proofs.Ytmlmnikafikchaa.P
open Go.RowKit Go.Proofs.YtmlmnikafikchaaW.PrintWords Go.Proofs.YtmlmnikafikchaaW.PrintLast Go.Proofs.YtmlmnikafikchaaW.PrintMore
attribute [local go_sem] max2_int min2_int max_two min_two max_three min_three max_four min_four   -- for this text's walks alone
set_option linter.unusedVariables false
set_option linter.unusedSimpArgs false

/-! ### spec_l3Many: function 41 -/
def spec_l3Many.l0:Nat→List (List Int)→Int→Int→Int→Option (Int)
 | 0,_,_,_,_=>none
 | k+1,x0,x1,x5,x6=>if x6<(x0.length:Int) then (if 0≤x6 then ((spec_l3Has.f (rd_L2 x0 x6) x1).bind fun t227=>(if t227=true then (spec_l3Many.l0 k x0 x1 (wrap64 (x5+1)) (wrap64 (x6+1))) else (spec_l3Many.l0 k x0 x1 x5 (wrap64 (x6+1))))) else (none)) else (some x5)
def spec_l3Many.f (k:Nat) (l0:List (List Int)) (a1:Int):Option (Int):=spec_l3Many.l0 k l0 a1 0 0
theorem spec_l3Many.mono_l:∀ k,(∀ y0 y1 y2 y3,LeO (spec_l3Many.l0 k y0 y1 y2 y3) (spec_l3Many.l0 (k+1) y0 y1 y2 y3))
 | 0=>fun _ _ _ _ r h=>by simp [spec_l3Many.l0] at h
 | k+1=>by
  have ih0:=spec_l3Many.mono_l k
  ·intro y0 y1 y2 y3
   unfold spec_l3Many.l0
   repeat' first
   | (with_reducible exact ih0 _ _ _ _)
   | (with_reducible exact LeO.refl _)
   | (with_reducible exact LeO.none _)
   | (with_reducible refine LeO.ite ?_ ?_)
   | (with_reducible refine LeO.bind ?_ (fun _=>?_))
   | exact ih0 _ _ _ _
   | exact LeO.none _
   | refine LeO.ite ?_ ?_
   | refine LeO.bind ?_ (fun _=>?_)
theorem spec_l3Many.mono:∀ a0 a1 k,LeO (spec_l3Many.f k a0 a1) (spec_l3Many.f (k+1) a0 a1):=by
 intro a0 a1 k
 have ih0:=spec_l3Many.mono_l k
 unfold spec_l3Many.f
 repeat' first
   | (with_reducible exact ih0 _ _ _ _)
   | (with_reducible exact LeO.refl _)
   | (with_reducible exact LeO.none _)
   | (with_reducible refine LeO.ite ?_ ?_)
   | (with_reducible refine LeO.bind ?_ (fun _=>?_))
   | exact ih0 _ _ _ _
   | exact LeO.none _
   | refine LeO.ite ?_ ?_
   | refine LeO.bind ?_ (fun _=>?_)
set_option maxHeartbeats 8000000 in
set_option maxRecDepth 100000 in
theorem spec_l3Many.calls (k:Nat) (A0:Option Addr) (c0:Nat) (l0:List (List Int)) (a1:Int) (r:Int) (w:World) (hr0:Kd.C (Kd.slice 3 (Kd.int .i64)) w A0 l0.length l0) (hc0:l0.length≤c0) (h:spec_l3Many.f k l0 a1=some r) :
  Calls Try.prog 41 #[.slice A0 l0.length c0,.int .i64 a1] w fun e w'=>e=.returned (.int .i64 r)∧Drawn0 w w':=by
 have HR0:=Aside0.mk hr0
 have HC0:=Aside0.mk hc0
 clear hr0 hc0
 have H:(spec_l3Many.l0 k l0 a1 0 0)=some r:=h
 clear h
 have H':=Aside0.mk H
 clear H
 go_enter Try.func41,Try.ntmps41
 go_wp2
 go_loopg [5,6] k (fun kq v5 v6 w'=>∃ (x5_1:Int) (x6_1:Int),v5=.int .i64 x5_1∧v6=.int .i64 x6_1∧Aside0 (spec_l3Many.l0 kq l0 a1 x5_1 x6_1=some r)∧Aside0 (kq≤k)∧Drawn0 w w')
 case atStart=>exact ⟨(0),(0),(by first|rfl|(simp;done)|(simp [*];done)|(simp [Int.tmod_eq_emod_of_nonneg];done)),(by first|rfl|(simp;done)|(simp [*];done)|(simp [Int.tmod_eq_emod_of_nonneg];done)),H',⟨Nat.le_refl _⟩,by repeat (first|exact Drawn0.refl _|apply Drawn0.step)⟩
 case round =>
  clear H'
  try clear p2
  obtain ⟨x5_1,x6_1,rfl,rfl,HA,HK1,⟨m1,rfl⟩⟩:=hrel
  cases gk with
  | zero=>exact absurd HA.out (by simp [spec_l3Many.l0])
  | succ k1 =>
   have H:=HA.out
   clear HA
   simp only [spec_l3Many.l0] at H
   by_cases c3:x6_1<(l0.length:Int)
   ·rw [if_pos c3] at H
    have c3b0:decide (x6_1<(l0.length:Int))=true:=decide_eq_true c3
    clear c3
    by_cases c4:0≤x6_1
    ·rw [if_pos c4] at H
     have c4b0:decide (0≤x6_1)=true:=decide_eq_true c4
     clear c4
     replace H:=Option.bind_eq_some_iff.mp H
     obtain ⟨t227,A50,H⟩:=H
     replace H:(if t227=true then (spec_l3Many.l0 k1 l0 a1 (wrap64 (x5_1+1)) (wrap64 (x6_1+1))) else (spec_l3Many.l0 k1 l0 a1 x5_1 (wrap64 (x6_1+1))))=some r:=H
     have A5:=Aside0.mk A50
     clear A50
     by_cases c6:t227=true
     ·subst c6
      have H1:(spec_l3Many.l0 k1 l0 a1 (wrap64 (x5_1+1)) (wrap64 (x6_1+1)))=some r:=by rw [if_pos rfl] at H;exact H
      clear H
      have H:=H1
      clear H1
      have H':=Aside0.mk H
      clear H
      have p226:0≤(x6_1:Int):=of_decide_eq_true (by first|(with_reducible assumption)|assumption)
      have q226:x6_1<(l0.length:Int):=of_decide_eq_true (by first|(with_reducible assumption)|assumption)
      obtain ⟨ad226,A226_0,c226_0,e226,hx226_0,hl226_0,hi226_0⟩:=at_L2 HR0.out x6_1 p226 q226
      cases e226
      have HR226_0:=Aside0.mk hi226_0
      have HC226_0:=Aside0.mk hl226_0
      clear hi226_0 hl226_0
      replace p226:=eq_true p226
      replace q226:=eq_true q226
      go_wp2_with (first|((with_reducible refine gate_callee (f:=53) rfl ?_);refine goesL_ (some 18) rfl rfl Try.func53 (by kernel_rfl) rfl #[.slice A226_0 (rd_L2 l0 x6_1).length c226_0,.int .i64 a1] rfl (by (try simp only [List.map_toArray,List.map_cons,List.map_nil]);first|done|rfl|(simp only [List.length_drop,List.length_take];rfl)) ?_;(with_reducible refine (spec_l3Has.calls _ _ (rd_L2 l0 x6_1) a1 true _ ?side1 ?side2 A5.out).mono ?_);(case side1=>repeat (first|exact HR226_0.out|(with_reducible refine Kd.C_alloc ?_ _)|(with_reducible refine Kd.C_drewN ?_ _)|(with_reducible refine Kd.C_drew ?_)));(case side2=>exact HC226_0.out);rintro e w' ⟨rfl,⟨nd,rfl⟩⟩;refine ⟨_,rfl,?_⟩))
      go_roundg k1
      case measure=>have:=HK1.out;omega
      case rel=>exact ⟨(wrap64 (x5_1+1)),(wrap64 (x6_1+1)),(by first|rfl|(simp;done)|(simp [*];done)|(simp [Int.tmod_eq_emod_of_nonneg];done)),(by first|rfl|(simp;done)|(simp [*];done)|(simp [Int.tmod_eq_emod_of_nonneg];done)),H',⟨by have:=HK1.out;omega⟩,by repeat (first|exact Drawn0.refl _|apply Drawn0.step)⟩
     ·replace c6:=Bool.eq_false_iff.mpr c6
      subst c6
      have H1:(spec_l3Many.l0 k1 l0 a1 x5_1 (wrap64 (x6_1+1)))=some r:=by rw [if_neg (show ¬ (false=true) by decide)] at H;exact H
      clear H
      have H:=H1
      clear H1
      have H':=Aside0.mk H
      clear H
      have p226:0≤(x6_1:Int):=of_decide_eq_true (by first|(with_reducible assumption)|assumption)
      have q226:x6_1<(l0.length:Int):=of_decide_eq_true (by first|(with_reducible assumption)|assumption)
      obtain ⟨ad226,A226_0,c226_0,e226,hx226_0,hl226_0,hi226_0⟩:=at_L2 HR0.out x6_1 p226 q226
      cases e226
      have HR226_0:=Aside0.mk hi226_0
      have HC226_0:=Aside0.mk hl226_0
      clear hi226_0 hl226_0
      replace p226:=eq_true p226
      replace q226:=eq_true q226
      go_wp2_with (first|((with_reducible refine gate_callee (f:=53) rfl ?_);refine goesL_ (some 18) rfl rfl Try.func53 (by kernel_rfl) rfl #[.slice A226_0 (rd_L2 l0 x6_1).length c226_0,.int .i64 a1] rfl (by (try simp only [List.map_toArray,List.map_cons,List.map_nil]);first|done|rfl|(simp only [List.length_drop,List.length_take];rfl)) ?_;(with_reducible refine (spec_l3Has.calls _ _ (rd_L2 l0 x6_1) a1 false _ ?side1 ?side2 A5.out).mono ?_);(case side1=>repeat (first|exact HR226_0.out|(with_reducible refine Kd.C_alloc ?_ _)|(with_reducible refine Kd.C_drewN ?_ _)|(with_reducible refine Kd.C_drew ?_)));(case side2=>exact HC226_0.out);rintro e w' ⟨rfl,⟨nd,rfl⟩⟩;refine ⟨_,rfl,?_⟩))
      go_roundg k1
      case measure=>have:=HK1.out;omega
      case rel=>exact ⟨(x5_1),(wrap64 (x6_1+1)),(by first|rfl|(simp;done)|(simp [*];done)|(simp [Int.tmod_eq_emod_of_nonneg];done)),(by first|rfl|(simp;done)|(simp [*];done)|(simp [Int.tmod_eq_emod_of_nonneg];done)),H',⟨by have:=HK1.out;omega⟩,by repeat (first|exact Drawn0.refl _|apply Drawn0.step)⟩
    ·rw [if_neg c4] at H
     exact absurd H (by simp)
   ·rw [if_neg c3] at H
    have c3b0:decide (x6_1<(l0.length:Int))=false:=decide_eq_false c3
    clear c3
    obtain rfl:=Option.some.inj H
    go_wp2
    go_ret
    exact ⟨by first|rfl|(simp;done)|(simp [*];done),by repeat (first|exact Drawn0.refl _|apply Drawn0.step)⟩

end Go.Proofs.Ytmlmnikafikchaa.P
