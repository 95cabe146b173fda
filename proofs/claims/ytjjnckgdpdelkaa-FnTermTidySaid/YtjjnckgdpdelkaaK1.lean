/- What these laws reach, joined by a program of this session: contracts (written by that program over the kit's print, or by hand) and plain lemmas. -/
import Derived.Test.YtjjnckgdpdelkaaProg
import Derived.Below
import Derived.Deep.Draws
import Derived.Deep.AppendLies
import Derived.Maps.AppendAt
import Derived.OwnWalk
import Derived.Laws.BytesArg
import Derived.Laws.MakeOwn
import Derived.Laws.OwnMore
import Derived.Deep.OwnRows
import Derived.Tactics
import Derived.Lib.ConvBytes
import Derived.Laws.Slices
import Derived.WalkKit
import Derived.KernelRfl
import Derived.RowKit3
import Derived.Deep.LoopGhost
import Derived.Deep.QuietTactic
import Derived.BigQuiet
import Derived.WideLaws
import Derived.Deep.DeepCutAuto
import Derived.Deep.CutBlock
import Derived.Deep.RegionHeld3
import Derived.Laws.Rows
import Derived.Lib.AppendStr
import Derived.ArgAppend
import Derived.Laws.IdiomCopy
import Derived.OrdersHeld
import Derived.Laws.BitsLemmas
import Derived.RowKit
import Derived.Test.YtjjnckgdpdelkaaV
open Go.Proofs.YtjjnckgdpdelkaaW.PrintWords renaming below_alloc → yA, pw_below_drewN → yB, below_drew1 → yC, below_set → yD, blk_drewN → yE, blk_drew → yF, blk_alloc → yG, below_step → yP, below_size → yQ
open Go.Proofs.YtjjnckgdpdelkaaW.PrintWords.Kd renaming R_alloc → yH, R_drewN → yI, R_drew → yJ
open List renaming setIfInBounds_toArray → yK, set_cons_zero → yL, set_cons_succ → yM
namespace Go.Proofs.Ytjjnckgdpdelkaa.P
open Go.RowKit Go.Proofs.YtjjnckgdpdelkaaW.PrintWords Go.Proofs.YtjjnckgdpdelkaaW.PrintLast Go.Proofs.YtjjnckgdpdelkaaW.PrintMore
attribute [local go_sem] max2_int min2_int max_two min_two max_three min_three max_four min_four   -- for this text's walks alone
set_option linter.unusedVariables false
set_option linter.unusedSimpArgs false

def errW : Option Int → Value
  | none => .nilIface
  | some c => .iface 0 (.int .i64 c)
theorem errW_none : errW none = .nilIface := rfl
theorem errW_some (c : Int) : errW (some c) = .iface 0 (.int .i64 c) := rfl

theorem bne_f {a b : Bool} (h : ¬ (a != b) = true) : (a == b) = true := by cases a <;> cases b <;> simp_all
theorem bne_t {a b : Bool} (h : (a != b) = true) : (a == b) = false := by cases a <;> cases b <;> simp_all
theorem bne_ft {a : Bool} (h : ¬ (a != (!false)) = true) : (!a) = false := by cases a <;> simp_all
theorem bne_tt {a : Bool} (h : (a != (!false)) = true) : (!a) = true := by cases a <;> simp_all

theorem info3 : (Try.prog.info? 3).map (fun i => (i.zero, i.size, i.bytes)) = some (some (.int .i64 0), 1, 8) := by kernel_rfl
theorem info4 : (Try.prog.info? 4).map (fun i => (i.zero, i.size, i.bytes)) = some (some (.bool false), 1, 1) := by kernel_rfl
theorem info5 : (Try.prog.info? 5).map (fun i => (i.zero, i.size, i.bytes)) = some (some (.int .u8 0), 1, 1) := by kernel_rfl
theorem info9 : (Try.prog.info? 9).map (fun i => (i.zero, i.size, i.bytes)) = some (some (.string ⟨#[]⟩), 1, 16) := by kernel_rfl
theorem info44 : (Try.prog.info? 44).map (fun i => (i.zero, i.size, i.bytes)) = some (some (.agg #[(.int .u8 0), (.slice none 0 0)]), 2, 32) := by kernel_rfl
-- the values' own types
/-! #### struct type 44, nested in itself -/
structure S44 where
  f0 : Int
  f1 : (List S44)
def z44 : S44 := ⟨(0 : Int), ([] : List S44)⟩
def F44 (d : Kd S44) : Kd S44 := Kd.iso (Kd.pair (Kd.int .u8) (Kd.slice 44 d)) (fun x : S44 => (x.f0, x.f1))
theorem mono44 : Kd.Mono F44 := Kd.mono_iso _ (Kd.mono_pair (Kd.mono_const _) (Kd.mono_slice 44 Kd.mono_id))
theorem sub44 : Kd.Sub F44 [44] := Kd.sub_iso _ (Kd.sub_pair (Kd.sub_const _ (by decide)) (Kd.sub_slice 44 (by decide) Kd.sub_id))
theorem sz44 : ∀ n, (Kd.upto F44 2 [44] n).sz = 2 := Kd.upto_sz (fun _ => rfl)
def k44 : Kd S44 := Kd.fix F44 2 [44] sz44 (Kd.upto_E sub44)
theorem k44_heap : Kd.Heap k44 := Kd.heap_fix (fun _ h_ => Kd.heap_iso _ (Kd.heap_pair (Kd.heap_int .u8) (Kd.heap_slice 44 h_)))
theorem k44_open {w : World} {x : S44} {cs : List Value} (h : k44.K w x cs) : ∃ A1 c1, cs = [.int .u8 x.f0, .slice A1 x.f1.length c1] ∧ x.f1.length ≤ c1 ∧ k44.C w A1 x.f1.length x.f1 := by
  obtain ⟨n, h⟩ := h
  cases n with
  | zero => exact h.elim
  | succ n =>
    obtain ⟨_, _, rfl, rfl, ⟨A1, c1, rfl, l1, g1⟩⟩ := h
    exact ⟨A1, c1, rfl, l1, Kd.fix_C g1⟩
theorem k44_openM {w : World} {base : Nat} {ok : Nat → Prop} {x : S44} {cs : List Value} (h : k44.M w base ok x cs) : ∃ v1, cs = [.int .u8 x.f0, v1] ∧ k44.R 44 w base ok v1 x.f1 := by
  obtain ⟨n, h⟩ := h
  cases n with
  | zero => exact h.elim
  | succ n =>
    obtain ⟨_, _, rfl, rfl, ⟨v1, rfl, g1⟩⟩ := h
    exact ⟨v1, rfl, Kd.fix_R g1⟩
theorem k44_mk (w : World) (x : S44) {A1 : Option Addr} {c1 : Nat} (l1 : x.f1.length ≤ c1) (g1 : k44.C w A1 x.f1.length x.f1) : k44.K w x [.int .u8 x.f0, .slice A1 x.f1.length c1] := by
  obtain ⟨n1, q1⟩ := Kd.fix_C_back mono44 g1
  have r1 := Kd.upto_C_le mono44 sz44 (show n1 ≤ n1 by omega) q1
  exact ⟨n1 + 1, ⟨[.int .u8 x.f0], [.slice A1 x.f1.length c1], rfl, rfl, ⟨A1, c1, rfl, l1, r1⟩⟩⟩
theorem k44_mkM (w : World) (base : Nat) (ok : Nat → Prop) (x : S44) {v1 : Value} (g1 : k44.R 44 w base ok v1 x.f1) : k44.M w base ok x [.int .u8 x.f0, v1] := by
  obtain ⟨n1, q1⟩ := Kd.fix_R_back mono44 g1
  have r1 := Kd.upto_R_le mono44 sz44 (show n1 ≤ n1 by omega) q1
  exact ⟨n1 + 1, ⟨[.int .u8 x.f0], [v1], rfl, rfl, ⟨v1, rfl, r1⟩⟩⟩
theorem k44_openF {W : World} {ok : Nat → Prop} {x : S44} {cs : List Value} (h : Kd.FK k44 W ok x cs) : ∃ A1 c1, cs = [.int .u8 x.f0, .slice A1 x.f1.length c1] ∧ x.f1.length ≤ c1 ∧ Kd.F k44 W ok A1 x.f1.length x.f1 := by
  obtain ⟨A1, c1, rfl, l1, _⟩ := k44_open (Kd.FK_now h)
  exact ⟨A1, c1, rfl, l1, (fun W' hW => by obtain ⟨A1_, c1_, he, l1_, g1_⟩ := k44_open (h W' hW); injection (Option.some.inj (show some (Value.slice A1 x.f1.length c1) = some (Value.slice A1_ x.f1.length c1_) from congrArg (fun l => l[1]?) he)) with ha_ _ _; rw [ha_]; exact g1_)⟩
theorem k44_mkF (W : World) (ok : Nat → Prop) (x : S44) {A1 : Option Addr} {c1 : Nat} (l1 : x.f1.length ≤ c1) (g1 : Kd.F k44 W ok A1 x.f1.length x.f1) : Kd.FK k44 W ok x [.int .u8 x.f0, .slice A1 x.f1.length c1] := fun W2 hW => k44_mk W2 x l1 (g1 W2 hW)
def rd_T44 (xs : List S44) (i : Int) : S44 := xs.getD i.toNat z44
theorem at_T44 {w : World} {A : Option Addr} {n : Nat} {xs : List S44} (h : Kd.C k44 w A n xs) (i : Int) (h0 : 0 ≤ i) (h1 : i < n) : ∃ ad A1 c1, A = some ad ∧ w.cell? (ad.add (i.toNat * 2)) = some (.int .u8 (rd_T44 xs i).f0) ∧ w.cell? ⟨(ad.add (i.toNat * 2)).block, (ad.add (i.toNat * 2)).off + 1, none⟩ = some (.slice A1 (rd_T44 xs i).f1.length c1) ∧ (rd_T44 xs i).f1.length ≤ c1 ∧ k44.C w A1 (rd_T44 xs i).f1.length (rd_T44 xs i).f1 := by
  obtain ⟨ad, c, e, _, hK, hc0⟩ := Kd.C_get h z44 i h0 h1
  have hc : ∀ j u, c[j]? = some u → w.cell? (ad.add (i.toNat * 2 + j)) = some u := hc0
  obtain ⟨A1, c1, rfl, l1, g1⟩ := k44_open hK
  exact ⟨ad, A1, c1, e, hc 0 _ rfl, by rw [← add_field _ _ 1 (by omega)]; exact hc 1 _ rfl, l1, g1⟩

end Go.Proofs.Ytjjnckgdpdelkaa.P

namespace Go.Proofs.Ytjjnckgdpdelkaa.P
open Go.RowKit Go.Proofs.YtjjnckgdpdelkaaW.PrintWords Go.Proofs.YtjjnckgdpdelkaaW.PrintLast Go.Proofs.YtjjnckgdpdelkaaW.PrintMore
attribute [local go_sem] max2_int min2_int max_two min_two max_three min_three max_four min_four   -- for this text's walks alone
set_option linter.unusedVariables false
set_option linter.unusedSimpArgs false

/-! ### impl_in: function 30 -/
def impl_in.f (a0:Int) (a1:Int) (a2:Int):Option (Bool):=if a0 ≥ a1 then (some (decide (a0≤a2))) else (some false)
set_option maxHeartbeats 8000000 in
set_option maxRecDepth 100000 in
theorem impl_in.calls (a0:Int) (a1:Int) (a2:Int) (r:Bool) (w:World) (h:impl_in.f a0 a1 a2=some r) :
  Calls Try.prog 30 #[.int .i64 a0,.int .i64 a1,.int .i64 a2] w fun e w'=>e=.returned (.bool r)∧Drawn0 w w':=by
 have H:(if a0 ≥ a1 then (some (decide (a0≤a2))) else (some false))=some r:=h
 clear h
 by_cases c4:a0 ≥ a1
 ·rw [if_pos c4] at H
  have c4b0:decide (a1≤a0)=true:=decide_eq_true c4
  clear c4
  obtain rfl:=Option.some.inj H
  go_enter Try.func30,Try.ntmps30
  go_wp2
  go_ret
  exact ⟨by first|rfl|(simp;done)|(simp [*];done),by repeat (first|exact Drawn0.refl _|apply Drawn0.step)⟩
 ·rw [if_neg c4] at H
  have c4b0:decide (a1≤a0)=false:=decide_eq_false c4
  clear c4
  obtain rfl:=Option.some.inj H
  go_enter Try.func30,Try.ntmps30
  go_wp2
  go_ret
  exact ⟨by first|rfl|(simp;done)|(simp [*];done),by repeat (first|exact Drawn0.refl _|apply Drawn0.step)⟩

end Go.Proofs.Ytjjnckgdpdelkaa.P

namespace Go.Proofs.Ytjjnckgdpdelkaa.P
open Go.RowKit Go.Proofs.YtjjnckgdpdelkaaW.PrintWords Go.Proofs.YtjjnckgdpdelkaaW.PrintLast Go.Proofs.YtjjnckgdpdelkaaW.PrintMore
attribute [local go_sem] max2_int min2_int max_two min_two max_three min_three max_four min_four   -- for this text's walks alone
set_option linter.unusedVariables false
set_option linter.unusedSimpArgs false

/-! ### laws_sameInts: function 20 -/
def laws_sameInts.l0:Nat→List Int→List Int→Int→Option (Bool)
 | 0,_,_,_=>none
 | k+1,x0,x1,x5=>if x5<(x0.length:Int) then (if 0≤x5 then (if x5<(x1.length:Int) then (if (rd x0 x5)=(rd x1 x5) then (laws_sameInts.l0 k x0 x1 (wrap64 (x5+1))) else (some false)) else (none)) else (none)) else (some true)
def laws_sameInts.f (k:Nat) (l0:List Int) (l1:List Int):Option (Bool):=if (l0.length:Int)=(l1.length:Int) then (laws_sameInts.l0 k l0 l1 0) else (some false)
theorem laws_sameInts.mono_l:∀ k,(∀ y0 y1 y2,LeO (laws_sameInts.l0 k y0 y1 y2) (laws_sameInts.l0 (k+1) y0 y1 y2))
 | 0=>fun _ _ _ r h=>by simp [laws_sameInts.l0] at h
 | k+1=>by
  have ih0:=laws_sameInts.mono_l k
  ·intro y0 y1 y2
   unfold laws_sameInts.l0
   repeat' first
   | (with_reducible exact ih0 _ _ _)
   | (with_reducible exact LeO.refl _)
   | (with_reducible exact LeO.none _)
   | (with_reducible refine LeO.ite ?_ ?_)
   | (with_reducible refine LeO.bind ?_ (fun _=>?_))
   | exact ih0 _ _ _
   | exact LeO.none _
   | refine LeO.ite ?_ ?_
   | refine LeO.bind ?_ (fun _=>?_)
theorem laws_sameInts.mono:∀ a0 a1 k,LeO (laws_sameInts.f k a0 a1) (laws_sameInts.f (k+1) a0 a1):=by
 intro a0 a1 k
 have ih0:=laws_sameInts.mono_l k
 unfold laws_sameInts.f
 repeat' first
   | (with_reducible exact ih0 _ _ _)
   | (with_reducible exact LeO.refl _)
   | (with_reducible exact LeO.none _)
   | (with_reducible refine LeO.ite ?_ ?_)
   | (with_reducible refine LeO.bind ?_ (fun _=>?_))
   | exact ih0 _ _ _
   | exact LeO.none _
   | refine LeO.ite ?_ ?_
   | refine LeO.bind ?_ (fun _=>?_)
set_option maxHeartbeats 8000000 in
set_option maxRecDepth 100000 in
theorem laws_sameInts.calls (k:Nat) (A0:Option Addr) (c0:Nat) (l0:List Int) (A1:Option Addr) (c1:Nat) (l1:List Int) (r:Bool) (w:World) (hr0:Kd.C (Kd.int .i64) w A0 l0.length l0) (hc0:l0.length≤c0) (hr1:Kd.C (Kd.int .i64) w A1 l1.length l1) (hc1:l1.length≤c1) (h:laws_sameInts.f k l0 l1=some r) :
  Calls Try.prog 20 #[.slice A0 l0.length c0,.slice A1 l1.length c1] w fun e w'=>e=.returned (.bool r)∧Drawn0 w w':=by
 have HR0:=Aside0.mk hr0
 have HC0:=Aside0.mk hc0
 clear hr0 hc0
 have HR1:=Aside0.mk hr1
 have HC1:=Aside0.mk hc1
 clear hr1 hc1
 have H:(if (l0.length:Int)=(l1.length:Int) then (laws_sameInts.l0 k l0 l1 0) else (some false))=some r:=h
 clear h
 by_cases c3:(l0.length:Int)=(l1.length:Int)
 ·rw [if_pos c3] at H
  have c3b0:((l0.length:Int) == (l1.length:Int))=true:=beq_iff_eq.mpr c3
  have c3b1:((l0.length:Int) != (l1.length:Int))=false:=bne_eq_false_iff_eq.mpr c3
  have c3b2:(l0.length == l1.length)=true:=by first|simpa using c3|(simp at c3 ⊢;omega)
  clear c3
  have H':=Aside0.mk H
  clear H
  go_enter Try.func20,Try.ntmps20
  go_wp2
  repeat (go_quiet (fail);try go_wp2)
  go_loopg [5] k (fun kq v5 w'=>∃ (x5_1:Int),v5=.int .i64 x5_1∧Aside0 (laws_sameInts.l0 kq l0 l1 x5_1=some r)∧Aside0 (kq≤k)∧Drawn0 w w')
  case atStart=>exact ⟨(0),(by first|rfl|(simp;done)|(simp [*];done)|(simp [Int.tmod_eq_emod_of_nonneg];done)),H',⟨Nat.le_refl _⟩,by repeat (first|exact Drawn0.refl _|apply Drawn0.step)⟩
  case round =>
   clear H'
   try clear c1
   try clear c2
   try clear p2
   try clear c3
   try clear c3b0
   try clear c3b1
   try clear c3b2
   obtain ⟨x5_1,rfl,HA,HK1,⟨m1,rfl⟩⟩:=hrel
   cases gk with
   | zero=>exact absurd HA.out (by simp [laws_sameInts.l0])
   | succ k1 =>
    have H:=HA.out
    clear HA
    simp only [laws_sameInts.l0] at H
    by_cases c4:x5_1<(l0.length:Int)
    ·rw [if_pos c4] at H
     have c4b0:decide (x5_1<(l0.length:Int))=true:=decide_eq_true c4
     clear c4
     by_cases c5:0≤x5_1
     ·rw [if_pos c5] at H
      have c5b0:decide (0≤x5_1)=true:=decide_eq_true c5
      clear c5
      by_cases c6:x5_1<(l1.length:Int)
      ·rw [if_pos c6] at H
       have c6b0:decide (x5_1<(l1.length:Int))=true:=decide_eq_true c6
       clear c6
       by_cases c7:(rd l0 x5_1)=(rd l1 x5_1)
       ·rw [if_pos c7] at H
        have c7b0:((rd l0 x5_1) == (rd l1 x5_1))=true:=beq_iff_eq.mpr c7
        have c7b1:((rd l0 x5_1) != (rd l1 x5_1))=false:=bne_eq_false_iff_eq.mpr c7
        clear c7
        have H':=Aside0.mk H
        clear H
        have p317:0≤(x5_1:Int):=of_decide_eq_true (by first|(with_reducible assumption)|assumption)
        have q317:x5_1<(l0.length:Int):=of_decide_eq_true (by first|(with_reducible assumption)|assumption)
        obtain ⟨ad317,e317,hx317_0⟩:=Kd.at_int HR0.out x5_1 p317 q317
        cases e317
        replace p317:=eq_true p317
        replace q317:=eq_true q317
        have p318:0≤(x5_1:Int):=of_decide_eq_true (by first|(with_reducible assumption)|assumption)
        have q318:x5_1<(l1.length:Int):=of_decide_eq_true (by first|(with_reducible assumption)|assumption)
        obtain ⟨ad318,e318,hx318_0⟩:=Kd.at_int HR1.out x5_1 p318 q318
        cases e318
        replace p318:=eq_true p318
        replace q318:=eq_true q318
        go_wp2
        repeat (go_quiet (fail);try go_wp2)
        go_roundg k1
        case measure=>have:=HK1.out;omega
        case rel=>exact ⟨(wrap64 (x5_1+1)),(by first|rfl|(simp;done)|(simp [*];done)|(simp [Int.tmod_eq_emod_of_nonneg];done)),H',⟨by have:=HK1.out;omega⟩,by repeat (first|exact Drawn0.refl _|apply Drawn0.step)⟩
       ·rw [if_neg c7] at H
        have c7b0:((rd l0 x5_1) == (rd l1 x5_1))=false:=beq_eq_false_iff_ne.mpr c7
        have c7b1:((rd l0 x5_1) != (rd l1 x5_1))=true:=bne_iff_ne.mpr c7
        obtain rfl:=Option.some.inj H
        have p317:0≤(x5_1:Int):=of_decide_eq_true (by first|(with_reducible assumption)|assumption)
        have q317:x5_1<(l0.length:Int):=of_decide_eq_true (by first|(with_reducible assumption)|assumption)
        obtain ⟨ad317,e317,hx317_0⟩:=Kd.at_int HR0.out x5_1 p317 q317
        cases e317
        replace p317:=eq_true p317
        replace q317:=eq_true q317
        have p318:0≤(x5_1:Int):=of_decide_eq_true (by first|(with_reducible assumption)|assumption)
        have q318:x5_1<(l1.length:Int):=of_decide_eq_true (by first|(with_reducible assumption)|assumption)
        obtain ⟨ad318,e318,hx318_0⟩:=Kd.at_int HR1.out x5_1 p318 q318
        cases e318
        replace p318:=eq_true p318
        replace q318:=eq_true q318
        go_wp2
        repeat (go_quiet (fail);try go_wp2)
        go_ret
        exact ⟨by first|rfl|(simp;done)|(simp [*];done),by repeat (first|exact Drawn0.refl _|apply Drawn0.step)⟩
      ·rw [if_neg c6] at H
       exact absurd H (by simp)
     ·rw [if_neg c5] at H
      exact absurd H (by simp)
    ·rw [if_neg c4] at H
     have c4b0:decide (x5_1<(l0.length:Int))=false:=decide_eq_false c4
     clear c4
     obtain rfl:=Option.some.inj H
     go_wp2
     repeat (go_quiet (fail);try go_wp2)
     go_ret
     exact ⟨by first|rfl|(simp;done)|(simp [*];done),by repeat (first|exact Drawn0.refl _|apply Drawn0.step)⟩
 ·rw [if_neg c3] at H
  have c3b0:((l0.length:Int) == (l1.length:Int))=false:=beq_eq_false_iff_ne.mpr c3
  have c3b1:((l0.length:Int) != (l1.length:Int))=true:=bne_iff_ne.mpr c3
  have c3b2:(l0.length == l1.length)=false:=by first|simpa using c3|(simp at c3 ⊢;omega)
  obtain rfl:=Option.some.inj H
  go_enter Try.func20,Try.ntmps20
  go_wp2
  repeat (go_quiet (fail);try go_wp2)
  go_ret
  exact ⟨by first|rfl|(simp;done)|(simp [*];done),by repeat (first|exact Drawn0.refl _|apply Drawn0.step)⟩

end Go.Proofs.Ytjjnckgdpdelkaa.P

namespace Go.Proofs.Ytjjnckgdpdelkaa.P
open Go.RowKit Go.Proofs.YtjjnckgdpdelkaaW.PrintWords Go.Proofs.YtjjnckgdpdelkaaW.PrintLast Go.Proofs.YtjjnckgdpdelkaaW.PrintMore
attribute [local go_sem] max2_int min2_int max_two min_two max_three min_three max_four min_four   -- for this text's walks alone
set_option linter.unusedVariables false
set_option linter.unusedSimpArgs false

/-! ### spec_l1Bit: function 41 -/
def spec_l1Bit.f (a0:Bool):Option (Int):=if a0=true then (some 1) else (some 0)
set_option maxHeartbeats 8000000 in
set_option maxRecDepth 100000 in
theorem spec_l1Bit.calls (a0:Bool) (r:Int) (w:World) (h:spec_l1Bit.f a0=some r) :
  Calls Try.prog 41 #[.bool a0] w fun e w'=>e=.returned (.int .i64 r)∧Drawn0 w w':=by
 have H:(if a0=true then (some 1) else (some 0))=some r:=h
 clear h
 by_cases c2:a0=true
 ·subst c2
  have H1:(some 1)=some r:=by rw [if_pos rfl] at H;exact H
  clear H
  have H:=H1
  clear H1
  obtain rfl:=Option.some.inj H
  go_enter Try.func41,Try.ntmps41
  go_wp2
  go_ret
  exact ⟨by first|rfl|(simp;done)|(simp [*];done),by repeat (first|exact Drawn0.refl _|apply Drawn0.step)⟩
 ·replace c2:=Bool.eq_false_iff.mpr c2
  subst c2
  have H1:(some 0)=some r:=by rw [if_neg (show ¬ (false=true) by decide)] at H;exact H
  clear H
  have H:=H1
  clear H1
  obtain rfl:=Option.some.inj H
  go_enter Try.func41,Try.ntmps41
  go_wp2
  go_ret
  exact ⟨by first|rfl|(simp;done)|(simp [*];done),by repeat (first|exact Drawn0.refl _|apply Drawn0.step)⟩

end Go.Proofs.Ytjjnckgdpdelkaa.P

namespace Go.Proofs.Ytjjnckgdpdelkaa.P
open Go.RowKit Go.Proofs.YtjjnckgdpdelkaaW.PrintWords Go.Proofs.YtjjnckgdpdelkaaW.PrintLast Go.Proofs.YtjjnckgdpdelkaaW.PrintMore
attribute [local go_sem] max2_int min2_int max_two min_two max_three min_three max_four min_four   -- for this text's walks alone
set_option linter.unusedVariables false
set_option linter.unusedSimpArgs false

/-- A state of type 60 at block g of W; what its slices lead to came in by w0. -/
def IsS60 (w0 W:World) (g:Nat) (f0:List Int) (f1:Int):Prop:=∃ A0 c0,W.heap[g]?=some (.cells #[.slice A0 f0.length c0,.int .i64 f1] 60 (0,0))∧w0.heap.size≤g∧Kd.C (Kd.int .u8) w0 A0 f0.length f0
theorem IsS60.grown {w0 W:World} {g:Nat} {f0:List Int} {f1:Int} {W1:World} {row:Option Nat} (h:IsS60 w0 W g f0 f1) (hw:W.grownBy W1 row) (hne:some g≠row):IsS60 w0 W1 g f0 f1:=by
 obtain ⟨A0,c0,hb,hg,hr0⟩:=h
 exact ⟨A0,c0,blk_grown hb hw hne,hg,hr0⟩
theorem IsS60.own_neN {w0 W:World} {g:Nat} {f0:List Int} {f1:Int} {α:Type} {d:Kd α} {e:Nat} {base:Nat} {ok:Nat→Prop} {v:Value} {xs:List α} (h:IsS60 w0 W g f0 f1) (ho:Kd.N d e W base ok v xs) (ht:e≠60):some g≠v.ownBlock:=by
 obtain ⟨A0,c0,hb,hg,hr0⟩:=h
 exact Kd.N_ne ho hb ht
theorem IsS60.fresh {w0 W:World} {g:Nat} {f0:List Int} {f1:Int} (h:IsS60 w0 W g f0 f1):∀ k,W.heap.size≤k→k≠g:=by
 obtain ⟨A0,c0,hb,hg,hr0⟩:=h
 exact Kd.freshB hb
theorem IsS60.kept {w0 W:World} {g:Nat} {f0:List Int} {f1:Int} {W1:World} {S:Nat→Prop} (h:IsS60 w0 W g f0 f1) (hk:Kept W W1 S) (hne:¬ S g):IsS60 w0 W1 g f0 f1:=by
 obtain ⟨A0,c0,hb,hg,hr0⟩:=h
 exact ⟨A0,c0,blk_kept hb hk hne,hg,hr0⟩
theorem IsS60.below {w0 W:World} {g:Nat} {f0:List Int} {f1:Int} {W1:World} (h:IsS60 w0 W g f0 f1) (hw:Below W.heap.size W W1):IsS60 w0 W1 g f0 f1:=h.grown (grown_of_below hw none) (by simp)
theorem IsS60.alloc {w0 W:World} {g:Nat} {f0:List Int} {f1:Int} (h:IsS60 w0 W g f0 f1) (o:Obj):IsS60 w0 (W.alloc o) g f0 f1:=h.below (yA (Below.refl _ _) o)
theorem IsS60.drewN {w0 W:World} {g:Nat} {f0:List Int} {f1:Int} (h:IsS60 w0 W g f0 f1) (m:Nat):IsS60 w0 (W.drewN m) g f0 f1:=h
theorem IsS60.drew {w0 W:World} {g:Nat} {f0:List Int} {f1:Int} (h:IsS60 w0 W g f0 f1):IsS60 w0 W.drew g f0 f1:=h
theorem IsS60.at_ {w0 W:World} {g:Nat} {f0:List Int} {f1:Int} {w':World} {m:Nat} (hq:W.drewN m=w') (h:IsS60 w0 W g f0 f1):IsS60 w0 w' g f0 f1:=by subst hq;exact IsS60.drewN h m
theorem IsS60.apart {w0 W:World} {g:Nat} {f0:List Int} {f1:Int} {α:Type} {d:Kd α} {e:Nat} {base:Nat} {ok:Nat→Prop} {v:Value} {xs:List α} (h:IsS60 w0 W g f0 f1) (ho:d.R e W base ok v xs) (ht:∀ q,q ∈ e :: d.E→q≠60):d.R e W base (fun k=>ok k∧k≠g) v xs:=by
 obtain ⟨A0,c0,hb,hg,hr0⟩:=h
 exact Kd.R_types ho hb ht
theorem IsS60.own_ne {w0 W:World} {g:Nat} {f0:List Int} {f1:Int} {α:Type} {d:Kd α} {e:Nat} {base:Nat} {ok:Nat→Prop} {v:Value} {xs:List α} (h:IsS60 w0 W g f0 f1) (ho:d.R e W base ok v xs) (ht:e≠60):some g≠v.ownBlock:=by
 obtain ⟨A0,c0,hb,hg,hr0⟩:=h
 exact Kd.R_ne ho hb ht
theorem IsS60.apartQ {w0 W:World} {g:Nat} {f0:List Int} {f1:Int} {α:Type} {d:Kd α} {e:Nat} {base:Nat} {ok:Nat→Prop} {v:Value} {xs:List α} (h:IsS60 w0 W g f0 f1) (ho:d.Q e W base ok v xs) (ht:∀ q,q ∈ e :: d.E→q≠60):d.Q e W base (fun k=>ok k∧k≠g) v xs:=by
 obtain ⟨A0,c0,hb,hg,hr0⟩:=h
 exact Kd.Q_types ho hb ht
theorem IsS60.own_neQ {w0 W:World} {g:Nat} {f0:List Int} {f1:Int} {α:Type} {d:Kd α} {e:Nat} {base:Nat} {ok:Nat→Prop} {v:Value} {xs:List α} (h:IsS60 w0 W g f0 f1) (ho:d.Q e W base ok v xs) (ht:e≠60):some g≠v.ownBlock:=by
 obtain ⟨A0,c0,hb,hg,hr0⟩:=h
 exact Kd.Q_ne ho hb ht
theorem IsS60.apartS {w0 W:World} {g:Nat} {f0:List Int} {f1:Int} {α:Type} {d:Kd α} {e:Nat} {base:Nat} {ok:Nat→Prop} {v:Value} {xs:List α} (h:IsS60 w0 W g f0 f1) (ho:d.S e W base ok v xs) (ht:∀ q,q ∈ e :: d.E→q≠60):d.S e W base (fun k=>ok k∧k≠g) v xs:=by
 obtain ⟨A0,c0,hb,hg,hr0⟩:=h
 exact Kd.S_types ho hb ht
theorem IsS60.own_neS {w0 W:World} {g:Nat} {f0:List Int} {f1:Int} {α:Type} {d:Kd α} {e:Nat} {base:Nat} {ok:Nat→Prop} {v:Value} {xs:List α} (h:IsS60 w0 W g f0 f1) (ho:d.S e W base ok v xs) (ht:e≠60):some g≠v.ownBlock:=by
 obtain ⟨A0,c0,hb,hg,hr0⟩:=h
 exact Kd.S_ne ho hb ht
theorem IsS60.lt {w0 W:World} {g:Nat} {f0:List Int} {f1:Int} (h:IsS60 w0 W g f0 f1):g<W.heap.size:=by
 obtain ⟨A0,c0,hb,hg,hr0⟩:=h
 exact blk_lt hb
theorem IsS60.ge {w0 W:World} {g:Nat} {f0:List Int} {f1:Int} (h:IsS60 w0 W g f0 f1):w0.heap.size≤g:=by
 obtain ⟨A0,c0,hb,hg,hr0⟩:=h
 exact hg
theorem IsS60.ne_blk {w0 W:World} {g:Nat} {f0:List Int} {f1:Int} {a:Nat} {cs:Array Value} {t:TypeId} {fr:Nat × Nat} (h:IsS60 w0 W g f0 f1) (hb2:W.heap[a]?=some (.cells cs t fr)) (ht:t≠60):g≠a:=by
 obtain ⟨A0,c0,hb,hg,hr0⟩:=h
 rintro rfl
 rw [hb] at hb2
 injection hb2 with hb2
 injection hb2 with _ ht2
 exact ht ht2.symm
theorem IsS60.far {w0 W:World} {g:Nat} {f0:List Int} {f1:Int} {p:Addr} (h:IsS60 w0 W g f0 f1) (hne:g≠p.block) (u:Value):IsS60 w0 (W.setCell p u) g f0 f1:=by
 obtain ⟨A0,c0,hb,hg,hr0⟩:=h
 exact ⟨A0,c0,blk_far hb hne u,hg,hr0⟩
theorem cellS60_0 {W:World} {g:Nat} {A0:Option Addr} {c0:Nat} {f0:List Int} {f1:Int} (h:W.heap[g]?=some (.cells #[.slice A0 f0.length c0,.int .i64 f1] 60 (0,0))):W.cell? ⟨g,0,none⟩=some (.slice A0 f0.length c0):=(blk_cell h 0).trans rfl
theorem cellS60_1 {W:World} {g:Nat} {A0:Option Addr} {c0:Nat} {f0:List Int} {f1:Int} (h:W.heap[g]?=some (.cells #[.slice A0 f0.length c0,.int .i64 f1] 60 (0,0))):W.cell? ⟨g,1,none⟩=some (.int .i64 f1):=(blk_cell h 1).trans rfl
theorem IsS60.set_1 {w0 W:World} {g:Nat} {f0:List Int} {f1:Int} (h:IsS60 w0 W g f0 f1) (x:Int):IsS60 w0 (W.setCell ⟨g,1,none⟩ (.int .i64 x)) g f0 x:=by
 obtain ⟨A0,c0,hb,hg,hr0⟩:=h
 exact ⟨A0,c0,by simpa using blk_set hb 1 (.int .i64 x),hg,hr0⟩
theorem IsS60.new (w0 W:World) (A0:Option Addr) (c0:Nat) (f0:List Int) (f1:Int) (hB:Below w0.heap.size w0 W) (hr0:Kd.C (Kd.int .u8) w0 A0 f0.length f0):IsS60 w0 (W.alloc (.cells #[.slice A0 f0.length c0,.int .i64 f1] 60)) W.heap.size f0 f1:=⟨A0,c0,by simpa using heap_alloc_new W _,hB.size,hr0⟩

/-! ### spec_l6Open: function 25 -/
def spec_l6Open.f (l0:List Int):Option (List Int × Int):=if (l0.length:Int) > 2000 then (if 2000≤(l0.length:Int) then (some (l0.take 2000,0)) else (none)) else (some (l0,0))
set_option maxHeartbeats 8000000 in
set_option maxRecDepth 100000 in
theorem spec_l6Open.calls (A0:Option Addr) (c0:Nat) (l0:List Int) (r1:List Int) (r2:Int) (w0 w:World) (hB:Below w0.heap.size w0 w) (hr0:Kd.C (Kd.int .u8) w0 A0 l0.length l0) (hc0:l0.length≤c0) (h:spec_l6Open.f l0=some (r1,r2)) :
  Calls Try.prog 25 #[.slice A0 l0.length c0] w fun e w'=>∃ g_:Nat,e=.returned (.pointer (some ⟨g_,0,none⟩))∧IsS60 w0 w' g_ r1 r2∧Below w0.heap.size w0 w'∧Below w.heap.size w w':=by
 have hu60:=Try.underlying60
 have HR0:=Aside0.mk hr0
 have HC0:=Aside0.mk hc0
 clear hr0 hc0
 have HBW:=Aside0.mk (Below.refl w.heap.size w)
 have HW0:=Aside0.mk hB.size
 have HB:=Aside0.mk hB
 clear hB
 have H:(if (l0.length:Int) > 2000 then (if 2000≤(l0.length:Int) then (some (l0.take 2000,0)) else (none)) else (some (l0,0)))=some (r1,r2):=h
 clear h
 by_cases c2:(l0.length:Int) > 2000
 ·rw [if_pos c2] at H
  have c2b0:decide (2000<(l0.length:Int))=true:=decide_eq_true c2
  have c2b1:decide (2000<l0.length)=true:=decide_eq_true (by omega)
  clear c2
  by_cases c3:2000≤(l0.length:Int)
  ·rw [if_pos c3] at H
   have c3b0:=eq_true c3
   have c3b1:decide (2000≤(l0.length:Int))=true:=decide_eq_true c3
   clear c3
   simp only [Option.some.injEq,Prod.mk.injEq] at H
   obtain ⟨rfl,rfl⟩:=H
   obtain ⟨i04,hi04,_,hsz4,_⟩:=info_parts info5
   obtain ⟨hcut4,hA4,hC4⟩:=print_take_of (P:=Try.prog) (Value.int .u8) 0 22 5 .i64 Try.underlying22 hi04 hsz4 A0 c0 l0 2000 (by omega) (of_decide_eq_true (by first|(with_reducible assumption)|assumption)) HC0.out
   have HR101:=Aside0.mk (Kd.C_of_reads (h1:=fun _=>rfl) (hA4 _ (Kd.reads_of_C HR0.out)))
   have HC101:=Aside0.mk hC4
   clear hA4 hC4 hi04 hsz4
   go_enter Try.func25,Try.ntmps25
   go_wp2_with (first|((with_reducible refine gate_dst (N:=10) rfl ?_);refine box_event ?hg (N:=10) ?hd (cs:=#[.slice A0 (l0.take 2000).length c0,.int .i64 0]) (t:=60) ?hr ?_;(case hd=>rfl);(case hg=>rfl);(case hr=>first|(go_simp;done)|(go_simp;rfl));intro gb102 hg w5 hbox hb;have n0_:=Aside0.mk (yP HBW.out hb);have n1_:=Aside0.mk (yP (by repeat (first|(with_reducible first|exact HB.out|apply yA|apply yB|apply yC)|exact HB.out)) hb);have n2_:=Aside0.mk (hbox);have n3_:=Aside0.mk ((by rw [hg];exact (yQ (by repeat (first|(with_reducible first|exact HBW.out|apply yA|apply yB|apply yC)|exact HBW.out))):w.heap.size≤gb102));have n4_:=Aside0.mk ((Nat.le_trans HW0.out (by rw [hg];exact (yQ (by repeat (first|(with_reducible first|exact HBW.out|apply yA|apply yB|apply yC)|exact HBW.out))):w.heap.size≤gb102):w0.heap.size≤gb102));clear HBW;clear HB;have HBW:=n0_;have HB:=n1_;have BK102:=n2_;have GW102:=n3_;have GE102:=n4_;clear n0_ n1_ n2_ n3_ n4_;clear hb hbox hg))
   go_ret
   exact ⟨_,rfl,(show IsS60 w0 _ gb102 (l0.take 2000) 0 from ⟨_,_,by (with_reducible repeat (first|refine yE ?_ _|refine yF ?_|refine yG ?_ _));exact BK102.out,GE102.out,HR101.out⟩),by repeat (first|(with_reducible first|exact HB.out|apply yA|apply yB|apply yC|refine yD ?_ GE102.out)|exact HB.out),by repeat (first|(with_reducible first|exact HBW.out|apply yA|apply yB|apply yC|refine yD ?_ GW102.out)|exact HBW.out)⟩
  ·rw [if_neg c3] at H
   exact absurd H (by simp)
 ·rw [if_neg c2] at H
  have c2b0:decide (2000<(l0.length:Int))=false:=decide_eq_false c2
  have c2b1:decide (2000<l0.length)=false:=decide_eq_false (by omega)
  clear c2
  simp only [Option.some.injEq,Prod.mk.injEq] at H
  obtain ⟨rfl,rfl⟩:=H
  go_enter Try.func25,Try.ntmps25
  go_wp2_with (first|((with_reducible refine gate_dst (N:=10) rfl ?_);refine box_event ?hg (N:=10) ?hd (cs:=#[.slice A0 l0.length c0,.int .i64 0]) (t:=60) ?hr ?_;(case hd=>rfl);(case hg=>rfl);(case hr=>first|(go_simp;done)|(go_simp;rfl));intro gb103 hg w6 hbox hb;have n0_:=Aside0.mk (yP HBW.out hb);have n1_:=Aside0.mk (yP (by repeat (first|(with_reducible first|exact HB.out|apply yA|apply yB|apply yC)|exact HB.out)) hb);have n2_:=Aside0.mk (hbox);have n3_:=Aside0.mk ((by rw [hg];exact (yQ (by repeat (first|(with_reducible first|exact HBW.out|apply yA|apply yB|apply yC)|exact HBW.out))):w.heap.size≤gb103));have n4_:=Aside0.mk ((Nat.le_trans HW0.out (by rw [hg];exact (yQ (by repeat (first|(with_reducible first|exact HBW.out|apply yA|apply yB|apply yC)|exact HBW.out))):w.heap.size≤gb103):w0.heap.size≤gb103));clear HBW;clear HB;have HBW:=n0_;have HB:=n1_;have BK103:=n2_;have GW103:=n3_;have GE103:=n4_;clear n0_ n1_ n2_ n3_ n4_;clear hb hbox hg))
  go_ret
  exact ⟨_,rfl,(show IsS60 w0 _ gb103 l0 0 from ⟨_,_,by (with_reducible repeat (first|refine yE ?_ _|refine yF ?_|refine yG ?_ _));exact BK103.out,GE103.out,HR0.out⟩),by repeat (first|(with_reducible first|exact HB.out|apply yA|apply yB|apply yC|refine yD ?_ GE103.out)|exact HB.out),by repeat (first|(with_reducible first|exact HBW.out|apply yA|apply yB|apply yC|refine yD ?_ GW103.out)|exact HBW.out)⟩

end Go.Proofs.Ytjjnckgdpdelkaa.P

namespace Go.Proofs.Ytjjnckgdpdelkaa.P
open Go.RowKit Go.Proofs.YtjjnckgdpdelkaaW.PrintWords Go.Proofs.YtjjnckgdpdelkaaW.PrintLast Go.Proofs.YtjjnckgdpdelkaaW.PrintMore
attribute [local go_sem] max2_int min2_int max_two min_two max_three min_three max_four min_four   -- for this text's walks alone
set_option linter.unusedVariables false
set_option linter.unusedSimpArgs false

/-! ### spec_l6Rd_pick: function 32 -/
def spec_l6Rd_pick.j0:Nat→Int→Bool→List Int→Int→Option (Int × Int)
 | 0,_,_,_,_=>none
 | k+1,x1,x24,x1000,x1001=>if x24=true then (some (0,x1001)) else (if (wrap64 (x1001 - 1))<(x1000.length:Int) then (if 0≤(wrap64 (x1001 - 1)) then (if x1=0 then (none) else (some (Int.tmod (wrap64 (rd x1000 (wrap64 (x1001 - 1)))) x1,x1001))) else (none)) else (if (x1000.length:Int)=0 then (none) else (if 0≤(Int.tmod (wrap64 (x1001 - 1)) (x1000.length:Int)) then (if (Int.tmod (wrap64 (x1001 - 1)) (x1000.length:Int))<(x1000.length:Int) then (if 0≤(Int.tmod (wrap64 ((wrap64 ((wrap64 (x1001 - 1)) * 7))+3)) (x1000.length:Int)) then (if (Int.tmod (wrap64 ((wrap64 ((wrap64 (x1001 - 1)) * 7))+3)) (x1000.length:Int))<(x1000.length:Int) then (if x1=0 then (none) else (some (Int.tmod (Go.bits .xor .i64 (wrap64 ((wrap64 ((wrap64 ((wrap64 ((wrap64 (rd x1000 (Int.tmod (wrap64 (x1001 - 1)) (x1000.length:Int)))) * 131))+(wrap64 ((wrap64 (rd x1000 (Int.tmod (wrap64 ((wrap64 ((wrap64 (x1001 - 1)) * 7))+3)) (x1000.length:Int)))) * 1117))))+(wrap64 ((wrap64 (x1001 - 1)) * 29))))+(wrap64 ((wrap64 (Int.tdiv (wrap64 (x1001 - 1)) (x1000.length:Int))) * 53)))) (wrap64 (Int.tdiv (wrap64 ((wrap64 ((wrap64 ((wrap64 ((wrap64 (rd x1000 (Int.tmod (wrap64 (x1001 - 1)) (x1000.length:Int)))) * 131))+(wrap64 ((wrap64 (rd x1000 (Int.tmod (wrap64 ((wrap64 ((wrap64 (x1001 - 1)) * 7))+3)) (x1000.length:Int)))) * 1117))))+(wrap64 ((wrap64 (x1001 - 1)) * 29))))+(wrap64 ((wrap64 (Int.tdiv (wrap64 (x1001 - 1)) (x1000.length:Int))) * 53)))) 64))) x1,x1001))) else (none)) else (none)) else (none)) else (none))))
def spec_l6Rd_pick.f (k:Nat) (s0_0:List Int) (s0_1:Int) (a1:Int):Option (Int × Int):=if a1<1 then (spec_l6Rd_pick.j0 k a1 true s0_0 (wrap64 (s0_1+1))) else (spec_l6Rd_pick.j0 k a1 ((s0_0.length:Int) == 0) s0_0 (wrap64 (s0_1+1)))
theorem spec_l6Rd_pick.mono_l:∀ k,(∀ y0 y1 y2 y3,LeO (spec_l6Rd_pick.j0 k y0 y1 y2 y3) (spec_l6Rd_pick.j0 (k+1) y0 y1 y2 y3))
 | 0=>fun _ _ _ _ r h=>by simp [spec_l6Rd_pick.j0] at h
 | k+1=>by
  have ih0:=spec_l6Rd_pick.mono_l k
  ·intro y0 y1 y2 y3
   unfold spec_l6Rd_pick.j0
   repeat' first
   | (with_reducible exact ih0 _ _ _ _)
   | (with_reducible exact LeO.refl _)
   | (with_reducible exact LeO.none _)
   | (with_reducible refine LeO.ite ?_ ?_)
   | (with_reducible refine LeO.bind ?_ (fun _=>?_))
   | exact ih0 _ _ _ _
   | exact LeO.none _
   | refine LeO.ite ?_ ?_
   | refine LeO.bind ?_ (fun _=>?_)
theorem spec_l6Rd_pick.mono:∀ a0 a1 a2 k,LeO (spec_l6Rd_pick.f k a0 a1 a2) (spec_l6Rd_pick.f (k+1) a0 a1 a2):=by
 intro a0 a1 a2 k
 have ih0:=spec_l6Rd_pick.mono_l k
 unfold spec_l6Rd_pick.f
 repeat' first
   | (with_reducible exact ih0 _ _ _ _)
   | (with_reducible exact LeO.refl _)
   | (with_reducible exact LeO.none _)
   | (with_reducible refine LeO.ite ?_ ?_)
   | (with_reducible refine LeO.bind ?_ (fun _=>?_))
   | exact ih0 _ _ _ _
   | exact LeO.none _
   | refine LeO.ite ?_ ?_
   | refine LeO.bind ?_ (fun _=>?_)
set_option maxHeartbeats 8000000 in
set_option maxRecDepth 100000 in
theorem spec_l6Rd_pick.calls (k:Nat) (g:Nat) (s0_0:List Int) (s0_1:Int) (a1:Int) (r1:Int) (r2:Int) (w0 w:World) (hI:IsS60 w0 w g s0_0 s0_1) (hB:Below w0.heap.size w0 w) (h:spec_l6Rd_pick.f k s0_0 s0_1 a1=some (r1,r2)) :
  Calls Try.prog 32 #[.pointer (some ⟨g,0,none⟩),.int .i64 a1] w fun e w'=>e=.returned (.int .i64 r1)∧IsS60 w0 w' g s0_0 r2∧Below w0.heap.size w0 w'∧KeepBut w w' g none:=by
 have HI0:=Aside0.mk hI
 have HK:=Aside0.mk (KeepBut.refl w g none)
 have HL:=Aside0.mk hB.size
 clear hI
 have HW0:=Aside0.mk hB.size
 have HB:=Aside0.mk hB
 clear hB
 have H:(if a1<1 then (spec_l6Rd_pick.j0 k a1 true s0_0 (wrap64 (s0_1+1))) else (spec_l6Rd_pick.j0 k a1 ((s0_0.length:Int) == 0) s0_0 (wrap64 (s0_1+1))))=some (r1,r2):=h
 clear h
 have HC3:=Aside0.mk H
 clear H
 obtain ⟨ASz4_0,cSz4_0,HGz4,hgz4,HSz4_0⟩:=HI0.out
 have hcz4_0:=cellS60_0 HGz4
 have hcz4_1:=cellS60_1 HGz4
 have hfz4_1:=blk_frozen HGz4 1
 clear HGz4 hgz4
 go_enter Try.func32,Try.ntmps32
 go_upto_region 2 with (fail)
 repeat (go_quiet (fail);go_upto_region 2 with (fail))
 go_cut [24] (fun v24 wc=>∃ (kq:Nat) (x24_2:Bool),v24=.bool x24_2∧Aside0 (spec_l6Rd_pick.j0 kq a1 x24_2 s0_0 (wrap64 (s0_1+1))=some (r1,r2))∧Aside0 (kq≤k)∧Aside0 (IsS60 w0 wc g s0_0 (wrap64 (s0_1+1)))∧Aside0 (KeepBut w wc g none)∧Aside0 (Below w0.heap.size w0 wc))
 case first =>
  have H:=HC3.out
  clear HC3
  by_cases c5:a1<1
  ·rw [if_pos c5] at H
   have c5b0:decide (a1<1)=true:=decide_eq_true c5
   clear c5
   (first|rw [c5b0]|(simp only [i64_w,i32_w];rw [c5b0])|skip)
   have H':=Aside0.mk H
   clear H
   go_wp2
   repeat (go_quiet (fail);try go_wp2)
   go_meet
   case rel=>exact ⟨_,(true),(by first|rfl|(simp;done)|(simp [*];done)|(simp [Int.tmod_eq_emod_of_nonneg];done)),H',⟨by first|omega|exact Nat.le_refl _⟩,⟨by repeat (first|(with_reducible first|exact HI0.out|apply IsS60.alloc|apply IsS60.drewN|apply IsS60.drew|apply IsS60.set_1)|exact HI0.out)⟩,⟨by repeat (first|(with_reducible first|exact HK.out|apply KeepBut.set_|apply keep_drewN|apply keep_drew|apply keep_alloc)|exact HK.out)⟩,⟨by repeat (first|(with_reducible first|exact HB.out|apply yA|apply yB|apply yC|refine yD ?_ (IsS60.ge HI0.out))|exact HB.out)⟩⟩
  ·rw [if_neg c5] at H
   have c5b0:decide (a1<1)=false:=decide_eq_false c5
   clear c5
   (first|rw [c5b0]|(simp only [i64_w,i32_w];rw [c5b0])|skip)
   have H':=Aside0.mk H
   clear H
   obtain ⟨ASz6_0,cSz6_0,HGz6,hgz6,HSz6_0⟩:=HI0.out
   have hcz6_0:=cellS60_0 HGz6
   have hcz6_1:=cellS60_1 HGz6
   have hfz6_1:=blk_frozen HGz6 1
   clear HGz6 hgz6
   go_wp2
   repeat (go_quiet (fail);try go_wp2)
   go_meet
   case rel=>exact ⟨_,(((s0_0.length:Int) == 0)),(by first|rfl|(simp;done)|(simp [*];done)|(simp [Int.tmod_eq_emod_of_nonneg];done)),H',⟨by first|omega|exact Nat.le_refl _⟩,⟨by repeat (first|(with_reducible first|exact HI0.out|apply IsS60.alloc|apply IsS60.drewN|apply IsS60.drew|apply IsS60.set_1)|exact HI0.out)⟩,⟨by repeat (first|(with_reducible first|exact HK.out|apply KeepBut.set_|apply keep_drewN|apply keep_drew|apply keep_alloc)|exact HK.out)⟩,⟨by repeat (first|(with_reducible first|exact HB.out|apply yA|apply yB|apply yC|refine yD ?_ (IsS60.ge HI0.out))|exact HB.out)⟩⟩
 case rest =>
  clear HC3
  try clear p2
  try clear c3
  try clear c5
  try clear c5b0
  try clear p6
  try clear hcz4_0
  try clear hcz4_1
  try clear hcz6_0
  try clear hcz6_1
  try clear hfz4_1
  try clear hfz6_1
  obtain ⟨kq,x24_2,rfl,HA,HJ2,HI0,HK,HB⟩:=hcut
  cases kq with
  | zero=>exact absurd HA.out (by simp [spec_l6Rd_pick.j0])
  | succ kj2 =>
   have H:=HA.out
   clear HA
   simp only [spec_l6Rd_pick.j0] at H
   by_cases c7:x24_2=true
   ·subst c7
    have H1:(some (0,(wrap64 (s0_1+1))))=some (r1,r2):=by rw [if_pos rfl] at H;exact H
    clear H
    have H:=H1
    clear H1
    simp only [Option.some.injEq,Prod.mk.injEq] at H
    obtain ⟨rfl,rfl⟩:=H
    go_wp2
    repeat (go_quiet (fail);try go_wp2)
    go_ret
    exact ⟨by first|rfl|(simp [errW_none,errW_some]<;>rfl)|(simp [*,errW_none,errW_some]<;>rfl)|(simp [errW_none,errW_some];exact ⟨rfl,rfl⟩),by repeat (first|(with_reducible first|exact HI0.out|apply IsS60.alloc|apply IsS60.drewN|apply IsS60.drew|apply IsS60.set_1)|exact HI0.out),by repeat (first|(with_reducible first|exact HB.out|apply yA|apply yB|apply yC|refine yD ?_ (IsS60.ge HI0.out))|exact HB.out),by repeat (first|(with_reducible first|exact HK.out|apply KeepBut.set_|apply keep_drewN|apply keep_drew|apply keep_alloc)|exact HK.out)⟩
   ·replace c7:=Bool.eq_false_iff.mpr c7
    subst c7
    have H1:(if (wrap64 ((wrap64 (s0_1+1)) - 1))<(s0_0.length:Int) then (if 0≤(wrap64 ((wrap64 (s0_1+1)) - 1)) then (if a1=0 then (none) else (some (Int.tmod (wrap64 (rd s0_0 (wrap64 ((wrap64 (s0_1+1)) - 1)))) a1,(wrap64 (s0_1+1))))) else (none)) else (if (s0_0.length:Int)=0 then (none) else (if 0≤(Int.tmod (wrap64 ((wrap64 (s0_1+1)) - 1)) (s0_0.length:Int)) then (if (Int.tmod (wrap64 ((wrap64 (s0_1+1)) - 1)) (s0_0.length:Int))<(s0_0.length:Int) then (if 0≤(Int.tmod (wrap64 ((wrap64 ((wrap64 ((wrap64 (s0_1+1)) - 1)) * 7))+3)) (s0_0.length:Int)) then (if (Int.tmod (wrap64 ((wrap64 ((wrap64 ((wrap64 (s0_1+1)) - 1)) * 7))+3)) (s0_0.length:Int))<(s0_0.length:Int) then (if a1=0 then (none) else (some (Int.tmod (Go.bits .xor .i64 (wrap64 ((wrap64 ((wrap64 ((wrap64 ((wrap64 (rd s0_0 (Int.tmod (wrap64 ((wrap64 (s0_1+1)) - 1)) (s0_0.length:Int)))) * 131))+(wrap64 ((wrap64 (rd s0_0 (Int.tmod (wrap64 ((wrap64 ((wrap64 ((wrap64 (s0_1+1)) - 1)) * 7))+3)) (s0_0.length:Int)))) * 1117))))+(wrap64 ((wrap64 ((wrap64 (s0_1+1)) - 1)) * 29))))+(wrap64 ((wrap64 (Int.tdiv (wrap64 ((wrap64 (s0_1+1)) - 1)) (s0_0.length:Int))) * 53)))) (wrap64 (Int.tdiv (wrap64 ((wrap64 ((wrap64 ((wrap64 ((wrap64 (rd s0_0 (Int.tmod (wrap64 ((wrap64 (s0_1+1)) - 1)) (s0_0.length:Int)))) * 131))+(wrap64 ((wrap64 (rd s0_0 (Int.tmod (wrap64 ((wrap64 ((wrap64 ((wrap64 (s0_1+1)) - 1)) * 7))+3)) (s0_0.length:Int)))) * 1117))))+(wrap64 ((wrap64 ((wrap64 (s0_1+1)) - 1)) * 29))))+(wrap64 ((wrap64 (Int.tdiv (wrap64 ((wrap64 (s0_1+1)) - 1)) (s0_0.length:Int))) * 53)))) 64))) a1,(wrap64 (s0_1+1))))) else (none)) else (none)) else (none)) else (none))))=some (r1,r2):=by rw [if_neg (show ¬ (false=true) by decide)] at H;exact H
    clear H
    have H:=H1
    clear H1
    by_cases c8:(wrap64 ((wrap64 (s0_1+1)) - 1))<(s0_0.length:Int)
    ·rw [if_pos c8] at H
     have c8b0:decide ((wrap64 ((wrap64 (s0_1+1)) - 1))<(s0_0.length:Int))=true:=decide_eq_true c8
     clear c8
     obtain ⟨ji9,hji9⟩:∃ j_:Int,(wrap64 ((wrap64 (s0_1+1)) - 1))=j_:=⟨_,rfl⟩
     replace H:(if 0≤(ji9) then (if a1=0 then (none) else (some (Int.tmod (wrap64 (rd s0_0 (ji9))) a1,(wrap64 (s0_1+1))))) else (none))=some (r1,r2):=by first|(rw [hji9] at H;exact H)|(simp only [hji9] at H ⊢;exact H)
     (try rw [hji9] at c8b0)
     have hji9w:(IntKind.i64.wrap ((wrap64 (s0_1+1)) - 1))=ji9:=(i64_w _).trans hji9
     by_cases c10:0≤(ji9)
     ·rw [if_pos c10] at H
      have c10b0:decide (0≤(ji9))=true:=decide_eq_true c10
      clear c10
      by_cases c11:a1=0
      ·rw [if_pos c11] at H
       exact absurd H (by simp)
      ·rw [if_neg c11] at H
       have c11b0:(a1 == 0)=false:=beq_eq_false_iff_ne.mpr c11
       have c11b1:(a1 != 0)=true:=bne_iff_ne.mpr c11
       simp only [Option.some.injEq,Prod.mk.injEq] at H
       obtain ⟨rfl,rfl⟩:=H
       obtain ⟨ASz12_0,cSz12_0,HGz12,hgz12,HSz12_0⟩:=HI0.out
       have hcz12_0:=cellS60_0 HGz12
       have hcz12_1:=cellS60_1 HGz12
       have hfz12_1:=blk_frozen HGz12 1
       clear HGz12 hgz12
       have p104:0≤((ji9):Int):=of_decide_eq_true (by first|(with_reducible assumption)|assumption)
       have q104:(ji9)<(s0_0.length:Int):=of_decide_eq_true (by first|(with_reducible assumption)|assumption)
       obtain ⟨ad104,e104,hx104_0⟩:=Kd.at_int HSz12_0 (ji9) p104 q104
       cases e104
       replace hx104_0:=pw_cell_below HB.out hx104_0
       replace p104:=eq_true p104
       replace q104:=eq_true q104
       go_wp2
       repeat (go_quiet (fail);try go_wp2)
       go_ret
       exact ⟨by first|rfl|(simp [errW_none,errW_some]<;>rfl)|(simp only [← hji9];first|rfl|(simp [errW_none,errW_some]<;>rfl))|(simp [*,errW_none,errW_some]<;>rfl),by repeat (first|(with_reducible first|exact HI0.out|apply IsS60.alloc|apply IsS60.drewN|apply IsS60.drew|apply IsS60.set_1)|exact HI0.out),by repeat (first|(with_reducible first|exact HB.out|apply yA|apply yB|apply yC|refine yD ?_ (IsS60.ge HI0.out))|exact HB.out),by repeat (first|(with_reducible first|exact HK.out|apply KeepBut.set_|apply keep_drewN|apply keep_drew|apply keep_alloc)|exact HK.out)⟩
     ·rw [if_neg c10] at H
      exact absurd H (by simp)
    ·rw [if_neg c8] at H
     have c8b0:decide ((wrap64 ((wrap64 (s0_1+1)) - 1))<(s0_0.length:Int))=false:=decide_eq_false c8
     clear c8
     by_cases c13:(s0_0.length:Int)=0
     ·rw [if_pos c13] at H
      exact absurd H (by simp)
     ·rw [if_neg c13] at H
      have c13b0:((s0_0.length:Int) == 0)=false:=beq_eq_false_iff_ne.mpr c13
      have c13b1:((s0_0.length:Int) != 0)=true:=bne_iff_ne.mpr c13
      have c13b2:¬ (s0_0=[]):=fun h_=>c13 (by rw [h_];rfl)
      obtain ⟨ji14,hji14⟩:∃ j_:Int,(Int.tmod (wrap64 ((wrap64 (s0_1+1)) - 1)) (s0_0.length:Int))=j_:=⟨_,rfl⟩
      replace H:(if 0≤(ji14) then (if (ji14)<(s0_0.length:Int) then (if 0≤(Int.tmod (wrap64 ((wrap64 ((wrap64 ((wrap64 (s0_1+1)) - 1)) * 7))+3)) (s0_0.length:Int)) then (if (Int.tmod (wrap64 ((wrap64 ((wrap64 ((wrap64 (s0_1+1)) - 1)) * 7))+3)) (s0_0.length:Int))<(s0_0.length:Int) then (if a1=0 then (none) else (some (Int.tmod (Go.bits .xor .i64 (wrap64 ((wrap64 ((wrap64 ((wrap64 ((wrap64 (rd s0_0 (ji14))) * 131))+(wrap64 ((wrap64 (rd s0_0 (Int.tmod (wrap64 ((wrap64 ((wrap64 ((wrap64 (s0_1+1)) - 1)) * 7))+3)) (s0_0.length:Int)))) * 1117))))+(wrap64 ((wrap64 ((wrap64 (s0_1+1)) - 1)) * 29))))+(wrap64 ((wrap64 (Int.tdiv (wrap64 ((wrap64 (s0_1+1)) - 1)) (s0_0.length:Int))) * 53)))) (wrap64 (Int.tdiv (wrap64 ((wrap64 ((wrap64 ((wrap64 ((wrap64 (rd s0_0 (ji14))) * 131))+(wrap64 ((wrap64 (rd s0_0 (Int.tmod (wrap64 ((wrap64 ((wrap64 ((wrap64 (s0_1+1)) - 1)) * 7))+3)) (s0_0.length:Int)))) * 1117))))+(wrap64 ((wrap64 ((wrap64 (s0_1+1)) - 1)) * 29))))+(wrap64 ((wrap64 (Int.tdiv (wrap64 ((wrap64 (s0_1+1)) - 1)) (s0_0.length:Int))) * 53)))) 64))) a1,(wrap64 (s0_1+1))))) else (none)) else (none)) else (none)) else (none))=some (r1,r2):=by first|(rw [hji14] at H;exact H)|(simp only [hji14] at H ⊢;exact H)
      by_cases c15:0≤(ji14)
      ·rw [if_pos c15] at H
       have c15b0:decide (0≤(ji14))=true:=decide_eq_true c15
       clear c15
       by_cases c16:(ji14)<(s0_0.length:Int)
       ·rw [if_pos c16] at H
        have c16b0:decide ((ji14)<(s0_0.length:Int))=true:=decide_eq_true c16
        clear c16
        obtain ⟨ji17,hji17⟩:∃ j_:Int,(Int.tmod (wrap64 ((wrap64 ((wrap64 ((wrap64 (s0_1+1)) - 1)) * 7))+3)) (s0_0.length:Int))=j_:=⟨_,rfl⟩
        replace H:(if 0≤(ji17) then (if (ji17)<(s0_0.length:Int) then (if a1=0 then (none) else (some (Int.tmod (Go.bits .xor .i64 (wrap64 ((wrap64 ((wrap64 ((wrap64 ((wrap64 (rd s0_0 (ji14))) * 131))+(wrap64 ((wrap64 (rd s0_0 (ji17))) * 1117))))+(wrap64 ((wrap64 ((wrap64 (s0_1+1)) - 1)) * 29))))+(wrap64 ((wrap64 (Int.tdiv (wrap64 ((wrap64 (s0_1+1)) - 1)) (s0_0.length:Int))) * 53)))) (wrap64 (Int.tdiv (wrap64 ((wrap64 ((wrap64 ((wrap64 ((wrap64 (rd s0_0 (ji14))) * 131))+(wrap64 ((wrap64 (rd s0_0 (ji17))) * 1117))))+(wrap64 ((wrap64 ((wrap64 (s0_1+1)) - 1)) * 29))))+(wrap64 ((wrap64 (Int.tdiv (wrap64 ((wrap64 (s0_1+1)) - 1)) (s0_0.length:Int))) * 53)))) 64))) a1,(wrap64 (s0_1+1))))) else (none)) else (none))=some (r1,r2):=by first|(rw [hji17] at H;exact H)|(simp only [hji17] at H ⊢;exact H)
        by_cases c18:0≤(ji17)
        ·rw [if_pos c18] at H
         have c18b0:decide (0≤(ji17))=true:=decide_eq_true c18
         clear c18
         by_cases c19:(ji17)<(s0_0.length:Int)
         ·rw [if_pos c19] at H
          have c19b0:decide ((ji17)<(s0_0.length:Int))=true:=decide_eq_true c19
          clear c19
          by_cases c20:a1=0
          ·rw [if_pos c20] at H
           exact absurd H (by simp)
          ·rw [if_neg c20] at H
           have c20b0:(a1 == 0)=false:=beq_eq_false_iff_ne.mpr c20
           have c20b1:(a1 != 0)=true:=bne_iff_ne.mpr c20
           simp only [Option.some.injEq,Prod.mk.injEq] at H
           obtain ⟨rfl,rfl⟩:=H
           obtain ⟨ASz21_0,cSz21_0,HGz21,hgz21,HSz21_0⟩:=HI0.out
           have hcz21_0:=cellS60_0 HGz21
           have hcz21_1:=cellS60_1 HGz21
           have hfz21_1:=blk_frozen HGz21 1
           clear HGz21 hgz21
           have p105:0≤((ji14):Int):=of_decide_eq_true (by first|(with_reducible assumption)|assumption)
           have q105:(ji14)<(s0_0.length:Int):=of_decide_eq_true (by first|(with_reducible assumption)|assumption)
           obtain ⟨ad105,e105,hx105_0⟩:=Kd.at_int HSz21_0 (ji14) p105 q105
           cases e105
           replace hx105_0:=pw_cell_below HB.out hx105_0
           replace p105:=eq_true p105
           replace q105:=eq_true q105
           have p106:0≤((ji17):Int):=of_decide_eq_true (by first|(with_reducible assumption)|assumption)
           have q106:(ji17)<(s0_0.length:Int):=of_decide_eq_true (by first|(with_reducible assumption)|assumption)
           obtain ⟨ad106,e106,hx106_0⟩:=Kd.at_int HSz21_0 (ji17) p106 q106
           obtain rfl:ad105=ad106:=(by injection e106)
           replace hx106_0:=pw_cell_below HB.out hx106_0
           replace p106:=eq_true p106
           replace q106:=eq_true q106
           go_wp2
           repeat (go_quiet (fail);try go_wp2)
           go_ret
           exact ⟨by first|rfl|(simp [errW_none,errW_some]<;>rfl)|(simp only [← hji14,← hji17];first|rfl|(simp [errW_none,errW_some]<;>rfl))|(simp [*,errW_none,errW_some]<;>rfl),by repeat (first|(with_reducible first|exact HI0.out|apply IsS60.alloc|apply IsS60.drewN|apply IsS60.drew|apply IsS60.set_1)|exact HI0.out),by repeat (first|(with_reducible first|exact HB.out|apply yA|apply yB|apply yC|refine yD ?_ (IsS60.ge HI0.out))|exact HB.out),by repeat (first|(with_reducible first|exact HK.out|apply KeepBut.set_|apply keep_drewN|apply keep_drew|apply keep_alloc)|exact HK.out)⟩
         ·rw [if_neg c19] at H
          exact absurd H (by simp)
        ·rw [if_neg c18] at H
         exact absurd H (by simp)
       ·rw [if_neg c16] at H
        exact absurd H (by simp)
      ·rw [if_neg c15] at H
       exact absurd H (by simp)

end Go.Proofs.Ytjjnckgdpdelkaa.P

namespace Go.Proofs.Ytjjnckgdpdelkaa.P
open Go.RowKit Go.Proofs.YtjjnckgdpdelkaaW.PrintWords Go.Proofs.YtjjnckgdpdelkaaW.PrintLast Go.Proofs.YtjjnckgdpdelkaaW.PrintMore
attribute [local go_sem] max2_int min2_int max_two min_two max_three min_three max_four min_four   -- for this text's walks alone
set_option linter.unusedVariables false
set_option linter.unusedSimpArgs false

/-! ### spec_l7Sum: function 42 -/
mutual
def spec_l7Sum.l0:Nat→List Bool→List Bool→List Bool→Int→Option (List Bool)
 | 0,_,_,_,_=>none
 | k+1,x0,x1,x5,x6=>if x6<(x0.length:Int) then (spec_l7Sum.l1 k x0 x1 x5 x6 0) else (some x5)
def spec_l7Sum.l1:Nat→List Bool→List Bool→List Bool→Int→Int→Option (List Bool)
 | 0,_,_,_,_,_=>none
 | k+1,x0,x1,x5,x6,x7=>if (wrap64 (x6+x7))<(x0.length:Int) then (if 0≤x6 then (if x6<(x0.length:Int) then (if rdOf false x0 x6=true then (if 0≤(wrap64 (x6+x7)) then (if (wrap64 (x6+x7))<(x5.length:Int) then (if rdOf false x5 (wrap64 (x6+x7))=true then (spec_l7Sum.l1 k x0 x1 (x5.set ((wrap64 (x6+x7)):Int).toNat true) x6 (wrap64 (x7+1))) else (if 0≤x7 then (if x7<(x1.length:Int) then (spec_l7Sum.l1 k x0 x1 (x5.set ((wrap64 (x6+x7)):Int).toNat (rdOf false x1 x7)) x6 (wrap64 (x7+1))) else (none)) else (none))) else (none)) else (none)) else (spec_l7Sum.l0 k x0 x1 x5 (wrap64 (x6+1)))) else (none)) else (none)) else (spec_l7Sum.l0 k x0 x1 x5 (wrap64 (x6+1)))
end
def spec_l7Sum.f (k:Nat) (l0:List Bool) (l1:List Bool):Option (List Bool):=if 0≤(l0.length:Int) then (if ((l0.length:Int):Int).toNat≤281474976710656 then (spec_l7Sum.l0 k l0 l1 (List.replicate ((l0.length:Int):Int).toNat false) 0) else (none)) else (none)
theorem spec_l7Sum.mono_l:∀ k,(∀ y0 y1 y2 y3,LeO (spec_l7Sum.l0 k y0 y1 y2 y3) (spec_l7Sum.l0 (k+1) y0 y1 y2 y3))∧(∀ y0 y1 y2 y3 y4,LeO (spec_l7Sum.l1 k y0 y1 y2 y3 y4) (spec_l7Sum.l1 (k+1) y0 y1 y2 y3 y4))
 | 0=>⟨fun _ _ _ _ r h=>by simp [spec_l7Sum.l0] at h,fun _ _ _ _ _ r h=>by simp [spec_l7Sum.l1] at h⟩
 | k+1=>by
  obtain ⟨ih0,ih1⟩:=spec_l7Sum.mono_l k
  refine ⟨?_,?_⟩
  ·intro y0 y1 y2 y3
   unfold spec_l7Sum.l0
   repeat' first
   | (with_reducible exact ih0 _ _ _ _)
   | (with_reducible exact ih1 _ _ _ _ _)
   | (with_reducible exact LeO.refl _)
   | (with_reducible exact LeO.none _)
   | (with_reducible refine LeO.ite ?_ ?_)
   | (with_reducible refine LeO.bind ?_ (fun _=>?_))
   | exact ih0 _ _ _ _
   | exact ih1 _ _ _ _ _
   | exact LeO.none _
   | refine LeO.ite ?_ ?_
   | refine LeO.bind ?_ (fun _=>?_)
  ·intro y0 y1 y2 y3 y4
   unfold spec_l7Sum.l1
   repeat' first
   | (with_reducible exact ih0 _ _ _ _)
   | (with_reducible exact ih1 _ _ _ _ _)
   | (with_reducible exact LeO.refl _)
   | (with_reducible exact LeO.none _)
   | (with_reducible refine LeO.ite ?_ ?_)
   | (with_reducible refine LeO.bind ?_ (fun _=>?_))
   | exact ih0 _ _ _ _
   | exact ih1 _ _ _ _ _
   | exact LeO.none _
   | refine LeO.ite ?_ ?_
   | refine LeO.bind ?_ (fun _=>?_)
theorem spec_l7Sum.mono:∀ a0 a1 k,LeO (spec_l7Sum.f k a0 a1) (spec_l7Sum.f (k+1) a0 a1):=by
 intro a0 a1 k
 obtain ⟨ih0,ih1⟩:=spec_l7Sum.mono_l k
 unfold spec_l7Sum.f
 repeat' first
   | (with_reducible exact ih0 _ _ _ _)
   | (with_reducible exact ih1 _ _ _ _ _)
   | (with_reducible exact LeO.refl _)
   | (with_reducible exact LeO.none _)
   | (with_reducible refine LeO.ite ?_ ?_)
   | (with_reducible refine LeO.bind ?_ (fun _=>?_))
   | exact ih0 _ _ _ _
   | exact ih1 _ _ _ _ _
   | exact LeO.none _
   | refine LeO.ite ?_ ?_
   | refine LeO.bind ?_ (fun _=>?_)
set_option maxHeartbeats 8000000 in
set_option maxRecDepth 100000 in
theorem spec_l7Sum.calls (k:Nat) (A0:Option Addr) (c0:Nat) (l0:List Bool) (A1:Option Addr) (c1:Nat) (l1:List Bool) (r:List Bool) (w:World) (hr0:Kd.C Kd.bool w A0 l0.length l0) (hc0:l0.length≤c0) (hr1:Kd.C Kd.bool w A1 l1.length l1) (hc1:l1.length≤c1) (h:spec_l7Sum.f k l0 l1=some r) :
  Calls Try.prog 42 #[.slice A0 l0.length c0,.slice A1 l1.length c1] w fun e w'=>∃ v0_:Value,e=.returned (v0_)∧Kd.R Kd.bool 4 w' w.heap.size (fun _=>True) v0_ r∧Below w.heap.size w w':=by
 have HR0:=Aside0.mk hr0
 have HC0:=Aside0.mk hc0
 clear hr0 hc0
 have HR1:=Aside0.mk hr1
 have HC1:=Aside0.mk hc1
 clear hr1 hc1
 have HB:=Aside0.mk (Below.refl w.heap.size w)
 have H:(if 0≤(l0.length:Int) then (if ((l0.length:Int):Int).toNat≤281474976710656 then (spec_l7Sum.l0 k l0 l1 (List.replicate ((l0.length:Int):Int).toNat false) 0) else (none)) else (none))=some r:=h
 clear h
 by_cases c3:0≤(l0.length:Int)
 ·rw [if_pos c3] at H
  have c3b0:=eq_true c3
  have c3b1:decide (0≤(l0.length:Int))=true:=decide_eq_true c3
  clear c3
  by_cases c4:((l0.length:Int):Int).toNat≤281474976710656
  ·rw [if_pos c4] at H
   have c4b0:=eq_true c4
   have c4b1:decide (((l0.length:Int):Int).toNat≤281474976710656)=true:=decide_eq_true c4
   clear c4
   obtain ⟨y168,hy168⟩:∃ y_:List Bool,y_=(List.replicate ((l0.length:Int):Int).toNat false):=⟨_,rfl⟩
   replace H:(spec_l7Sum.l0 k l0 l1 y168 0)=some r:=by first|(rw [hy168];with_reducible exact H)|(have H2_:=(Option.bind_some _ _).symm.trans H;rw [hy168];with_reducible exact H2_)|(have H2_:=(Option.bind_some _ _).symm.trans H;with_reducible exact H2_)|with_reducible exact H|(rw [hy168];exact H)|exact H
   have Ny168:=Aside0.mk hy168
   clear hy168
   have H':=Aside0.mk H
   clear H
   go_enter Try.func42,Try.ntmps42
   go_wp2_with (first|((with_reducible refine gate_dst (N:=10) rfl ?_);refine Kd.R_make Kd.bool _ 4 rfl (N:=10) rfl 47 _ _ rfl (l0.length:Int) rfl rfl Try.underlying47 (.bool false) 1 info4 rfl (by decide) (by omega) false (ok:=fun _=>True) (okp:=fun _=>True) rfl (fun _ hk=>hk) trivial (of_decide_eq_true (by first|(with_reducible assumption)|assumption)) (Nat.le_trans (Nat.mul_le_mul_right _ (of_decide_eq_true (by first|(with_reducible assumption)|assumption):(l0.length:Int).toNat≤281474976710656)) (by omega)) (Below.refl _ _) (Nat.le_refl _) ?_;intro v169 w5 ho6 hb hg_ hnew_;clear hg_ hnew_;(first|rw [← Ny168.out] at ho6|(simp only [Int.reduceToNat] at ho6;rw [← Ny168.out] at ho6));have n0_:=Aside0.mk (Kd.R_lower ho6 (yQ (by repeat (first|(with_reducible first|exact HB.out|apply yA|apply yB|apply yC)|exact HB.out))));have n1_:=Aside0.mk (yP (by repeat (first|(with_reducible first|exact HB.out|apply yA|apply yB|apply yC)|exact HB.out)) hb);clear HB;have HO170:=n0_;have HB:=n1_;clear n0_ n1_;clear hb ho6))
   go_loopg [6] k (fun kq v6 w'=>∃ (x5_1:List Bool) (x6_1:Int),v6=.int .i64 x6_1∧Aside0 (spec_l7Sum.l0 kq l0 l1 x5_1 x6_1=some r)∧Aside0 (kq≤k)∧Aside0 (Kd.R Kd.bool 4 w' w.heap.size (fun _=>True) v169 x5_1)∧Aside0 (Below w.heap.size w w'))
   case atStart=>exact ⟨(y168),(0),(by first|rfl|(simp;done)|(simp [*];done)|(simp [Int.tmod_eq_emod_of_nonneg];done)),H',⟨Nat.le_refl _⟩,⟨by (with_reducible repeat (first|apply yH|apply yI|apply yJ));exact HO170.out⟩,⟨by repeat (first|(with_reducible first|exact HB.out|apply yA|apply yB|apply yC)|exact HB.out)⟩⟩
   case round =>
    clear H'
    try clear c1
    try clear p2
    try clear c3
    try clear c3b0
    try clear c3b1
    try clear c4
    try clear c4b0
    try clear c4b1
    obtain ⟨x5_1,x6_1,rfl,HA,HK1,HO_5,HB⟩:=hrel
    cases gk with
    | zero=>exact absurd HA.out (by simp [spec_l7Sum.l0])
    | succ k1 =>
     have H:=HA.out
     clear HA
     simp only [spec_l7Sum.l0] at H
     by_cases c7:x6_1<(l0.length:Int)
     ·rw [if_pos c7] at H
      have c7b0:decide (x6_1<(l0.length:Int))=true:=decide_eq_true c7
      clear c7
      have H':=Aside0.mk H
      clear H
      go_wp2
      go_loopg [7] k1 (fun kq v7 w'=>∃ (x5_2:List Bool) (x7_2:Int),v7=.int .i64 x7_2∧Aside0 (spec_l7Sum.l1 kq l0 l1 x5_2 x6_1 x7_2=some r)∧Aside0 (kq≤k1)∧Aside0 (Kd.R Kd.bool 4 w' w.heap.size (fun _=>True) v169 x5_2)∧Aside0 (Below w.heap.size w w'))
      case atStart=>exact ⟨(x5_1),(0),(by first|rfl|(simp;done)|(simp [*];done)|(simp [Int.tmod_eq_emod_of_nonneg];done)),H',⟨Nat.le_refl _⟩,⟨by (with_reducible repeat (first|apply yH|apply yI|apply yJ));exact HO_5.out⟩,⟨by repeat (first|(with_reducible first|exact HB.out|apply yA|apply yB|apply yC)|exact HB.out)⟩⟩
      case round =>
       clear H'
       try clear c1
       try clear p2
       try clear c3
       try clear c3b0
       try clear c3b1
       try clear c4
       try clear c4b0
       try clear c4b1
       try clear c7
       try clear c7b0
       try clear p2
       obtain ⟨x5_2,x7_2,rfl,HA,HK2,HO_5,HB⟩:=hrel
       cases gk with
       | zero=>exact absurd HA.out (by simp [spec_l7Sum.l1])
       | succ k2 =>
        have H:=HA.out
        clear HA
        simp only [spec_l7Sum.l1] at H
        by_cases c8:(wrap64 (x6_1+x7_2))<(l0.length:Int)
        ·rw [if_pos c8] at H
         have c8b0:decide ((wrap64 (x6_1+x7_2))<(l0.length:Int))=true:=decide_eq_true c8
         clear c8
         by_cases c9:0≤x6_1
         ·rw [if_pos c9] at H
          have c9b0:decide (0≤x6_1)=true:=decide_eq_true c9
          clear c9
          by_cases c10:x6_1<(l0.length:Int)
          ·rw [if_pos c10] at H
           have c10b0:decide (x6_1<(l0.length:Int))=true:=decide_eq_true c10
           clear c10
           obtain ⟨bq11,hbq11⟩:∃ b_:Bool,b_=(rdOf false l0 x6_1):=⟨_,rfl⟩
           replace H:(if bq11=true then (if 0≤(wrap64 (x6_1+x7_2)) then (if (wrap64 (x6_1+x7_2))<(x5_2.length:Int) then (if rdOf false x5_2 (wrap64 (x6_1+x7_2))=true then (spec_l7Sum.l1 k2 l0 l1 (x5_2.set ((wrap64 (x6_1+x7_2)):Int).toNat true) x6_1 (wrap64 (x7_2+1))) else (if 0≤x7_2 then (if x7_2<(l1.length:Int) then (spec_l7Sum.l1 k2 l0 l1 (x5_2.set ((wrap64 (x6_1+x7_2)):Int).toNat (rdOf false l1 x7_2)) x6_1 (wrap64 (x7_2+1))) else (none)) else (none))) else (none)) else (none)) else (spec_l7Sum.l0 k2 l0 l1 x5_2 (wrap64 (x6_1+1))))=some r:=by rw [← hbq11] at H;exact H
           have Nbq11:=Aside0.mk hbq11
           clear hbq11
           by_cases c12:bq11=true
           ·subst c12
            have H1:(if 0≤(wrap64 (x6_1+x7_2)) then (if (wrap64 (x6_1+x7_2))<(x5_2.length:Int) then (if rdOf false x5_2 (wrap64 (x6_1+x7_2))=true then (spec_l7Sum.l1 k2 l0 l1 (x5_2.set ((wrap64 (x6_1+x7_2)):Int).toNat true) x6_1 (wrap64 (x7_2+1))) else (if 0≤x7_2 then (if x7_2<(l1.length:Int) then (spec_l7Sum.l1 k2 l0 l1 (x5_2.set ((wrap64 (x6_1+x7_2)):Int).toNat (rdOf false l1 x7_2)) x6_1 (wrap64 (x7_2+1))) else (none)) else (none))) else (none)) else (none))=some r:=by rw [if_pos rfl] at H;exact H
            clear H
            have H:=H1
            clear H1
            obtain ⟨ji13,hji13⟩:∃ j_:Int,(wrap64 (x6_1+x7_2))=j_:=⟨_,rfl⟩
            replace H:(if 0≤(ji13) then (if (ji13)<(x5_2.length:Int) then (if rdOf false x5_2 (ji13)=true then (spec_l7Sum.l1 k2 l0 l1 (x5_2.set ((ji13):Int).toNat true) x6_1 (wrap64 (x7_2+1))) else (if 0≤x7_2 then (if x7_2<(l1.length:Int) then (spec_l7Sum.l1 k2 l0 l1 (x5_2.set ((ji13):Int).toNat (rdOf false l1 x7_2)) x6_1 (wrap64 (x7_2+1))) else (none)) else (none))) else (none)) else (none))=some r:=by first|(rw [hji13] at H;exact H)|(simp only [hji13] at H ⊢;exact H)
            (try rw [hji13] at c8b0)
            have hji13w:(IntKind.i64.wrap (x6_1+x7_2))=ji13:=(i64_w _).trans hji13
            by_cases c14:0≤(ji13)
            ·rw [if_pos c14] at H
             have c14b0:decide (0≤(ji13))=true:=decide_eq_true c14
             clear c14
             by_cases c15:(ji13)<(x5_2.length:Int)
             ·rw [if_pos c15] at H
              have c15b0:decide ((ji13)<(x5_2.length:Int))=true:=decide_eq_true c15
              clear c15
              obtain ⟨bq16,hbq16⟩:∃ b_:Bool,b_=(rdOf false x5_2 (ji13)):=⟨_,rfl⟩
              replace H:(if bq16=true then (spec_l7Sum.l1 k2 l0 l1 (x5_2.set ((ji13):Int).toNat true) x6_1 (wrap64 (x7_2+1))) else (if 0≤x7_2 then (if x7_2<(l1.length:Int) then (spec_l7Sum.l1 k2 l0 l1 (x5_2.set ((ji13):Int).toNat (rdOf false l1 x7_2)) x6_1 (wrap64 (x7_2+1))) else (none)) else (none)))=some r:=by rw [← hbq16] at H;exact H
              have Nbq16:=Aside0.mk hbq16
              clear hbq16
              by_cases c17:bq16=true
              ·subst c17
               have H1:(spec_l7Sum.l1 k2 l0 l1 (x5_2.set ((ji13):Int).toNat true) x6_1 (wrap64 (x7_2+1)))=some r:=by rw [if_pos rfl] at H;exact H
               clear H
               have H:=H1
               clear H1
               obtain ⟨y173,hy173⟩:∃ y_:List Bool,y_=(x5_2.set ((ji13):Int).toNat true):=⟨_,rfl⟩
               replace H:(spec_l7Sum.l1 k2 l0 l1 y173 x6_1 (wrap64 (x7_2+1)))=some r:=by first|(rw [hy173];with_reducible exact H)|(have H2_:=(Option.bind_some _ _).symm.trans H;rw [hy173];with_reducible exact H2_)|(have H2_:=(Option.bind_some _ _).symm.trans H;with_reducible exact H2_)|with_reducible exact H|(rw [hy173];exact H)|exact H
               have Ny173:=Aside0.mk hy173
               clear hy173
               have H':=Aside0.mk H
               clear H
               have p171:0≤(x6_1:Int):=of_decide_eq_true (by first|(with_reducible assumption)|assumption)
               have q171:x6_1<(l0.length:Int):=of_decide_eq_true (by first|(with_reducible assumption)|assumption)
               obtain ⟨ad171,e171,hx171_0⟩:=Kd.at_bool HR0.out x6_1 p171 q171
               (try rw [← Nbq11.out] at hx171_0)
               (try rw [← Nbq16.out] at hx171_0)
               cases e171
               replace hx171_0:=(HB.out.cell (World.block_lt_of_cell? w _ hx171_0)).trans hx171_0
               replace p171:=eq_true p171
               replace q171:=eq_true q171
               obtain ⟨Ao19,co19,eo19⟩:=Kd.R_slice HO_5.out
               subst eo19
               have p172:0≤((ji13):Int):=of_decide_eq_true (by first|(with_reducible assumption)|assumption)
               have q172:(ji13)<(x5_2.length:Int):=of_decide_eq_true (by first|(with_reducible assumption)|assumption)
               obtain ⟨ad172,e172,hx172_0⟩:=Kd.at_bool (Kd.R_reads' HO_5.out).2.2 (ji13) p172 q172
               (try rw [← Nbq11.out] at hx172_0)
               (try rw [← Nbq16.out] at hx172_0)
               cases e172
               replace p172:=eq_true p172
               replace q172:=eq_true q172
               have p18:0≤((ji13):Int):=of_decide_eq_true (by first|(with_reducible assumption)|assumption)
               have q18:((ji13):Int)<((x5_2.length:Int):Int):=of_decide_eq_true (by first|(with_reducible assumption)|assumption)
               obtain ⟨go18,co18,eo18,gb18,gl18,cl18,HG18⟩:=Kd.R_form HO_5.out (by omega)
               (first|cases eo18|(injection eo18 with ea_ en_ ec_;(first|subst ea_|(injection ea_ with ea_;subst ea_));subst ec_;clear en_))
               have GB18:=Aside0.mk gb18
               have GG18:=Aside0.mk HG18
               clear gb18 gl18 HG18
               (first|simp only [add_plain] at hx172_0|skip)
               obtain ⟨hx18_0,hf18_0⟩:=Kd.R_celln false HO_5.out ((ji13):Int) p18 q18
               replace p18:=eq_true p18
               replace q18:=eq_true q18
               have HP20:=Kd.R_putg HO_5.out ((ji13):Int) true
               go_wp2_with (first|((with_reducible refine gate_store (t:=4) (p:=47) rfl ?_);refine store_event (t:=4) (p:=47) (v:=?vo_w21) (w1:=(wr.setCell ⟨go18,((ji13):Int).toNat,none⟩ (.bool true))) ?hg ?ho ?hn ?hr ?_;(case ho=>rfl);(case hg=>rfl);(case hn=>rfl);(case hr=>first|(go_simp;done)|(go_simp;rfl));intro w21 hw;have hg:wr.grownBy w21 (some go18):=(by rw [hw];exact HP20.2);have hp_:Kd.R Kd.bool 4 w21 w.heap.size (fun _=>True) (.slice (some ⟨go18,0,none⟩) x5_2.length co19) y173:=(by rw [hw,Ny173.out];exact HP20.1);clear HP20;have n0_:=Aside0.mk (hp_);have n1_:=Aside0.mk ((by rw [hw];exact yD (HB.out) GB18.out:Below w.heap.size w w21));clear HO_5;clear HB;have HO_5:=n0_;have HB:=n1_;clear n0_ n1_;clear hg hw hp_))
               go_roundg k2
               case measure=>have:=HK1.out;have:=HK2.out;omega
               case rel=>exact ⟨(y173),(wrap64 (x7_2+1)),(by first|rfl|(simp;done)|(simp [*];done)|(simp [Int.tmod_eq_emod_of_nonneg];done)),H',⟨by have:=HK1.out;have:=HK2.out;omega⟩,⟨by (with_reducible repeat (first|apply yH|apply yI|apply yJ));exact HO_5.out⟩,⟨by repeat (first|(with_reducible first|exact HB.out|apply yA|apply yB|apply yC)|exact HB.out)⟩⟩
              ·replace c17:=Bool.eq_false_iff.mpr c17
               subst c17
               have H1:(if 0≤x7_2 then (if x7_2<(l1.length:Int) then (spec_l7Sum.l1 k2 l0 l1 (x5_2.set ((ji13):Int).toNat (rdOf false l1 x7_2)) x6_1 (wrap64 (x7_2+1))) else (none)) else (none))=some r:=by rw [if_neg (show ¬ (false=true) by decide)] at H;exact H
               clear H
               have H:=H1
               clear H1
               by_cases c22:0≤x7_2
               ·rw [if_pos c22] at H
                have c22b0:decide (0≤x7_2)=true:=decide_eq_true c22
                clear c22
                by_cases c23:x7_2<(l1.length:Int)
                ·rw [if_pos c23] at H
                 have c23b0:decide (x7_2<(l1.length:Int))=true:=decide_eq_true c23
                 clear c23
                 obtain ⟨y175,hy175⟩:∃ y_:List Bool,y_=(x5_2.set ((ji13):Int).toNat (rdOf false l1 x7_2)):=⟨_,rfl⟩
                 replace H:(spec_l7Sum.l1 k2 l0 l1 y175 x6_1 (wrap64 (x7_2+1)))=some r:=by first|(rw [hy175];with_reducible exact H)|(have H2_:=(Option.bind_some _ _).symm.trans H;rw [hy175];with_reducible exact H2_)|(have H2_:=(Option.bind_some _ _).symm.trans H;with_reducible exact H2_)|with_reducible exact H|(rw [hy175];exact H)|exact H
                 have Ny175:=Aside0.mk hy175
                 clear hy175
                 have H':=Aside0.mk H
                 clear H
                 have p171:0≤(x6_1:Int):=of_decide_eq_true (by first|(with_reducible assumption)|assumption)
                 have q171:x6_1<(l0.length:Int):=of_decide_eq_true (by first|(with_reducible assumption)|assumption)
                 obtain ⟨ad171,e171,hx171_0⟩:=Kd.at_bool HR0.out x6_1 p171 q171
                 (try rw [← Nbq11.out] at hx171_0)
                 (try rw [← Nbq16.out] at hx171_0)
                 cases e171
                 replace hx171_0:=(HB.out.cell (World.block_lt_of_cell? w _ hx171_0)).trans hx171_0
                 replace p171:=eq_true p171
                 replace q171:=eq_true q171
                 obtain ⟨Ao25,co25,eo25⟩:=Kd.R_slice HO_5.out
                 subst eo25
                 have p172:0≤((ji13):Int):=of_decide_eq_true (by first|(with_reducible assumption)|assumption)
                 have q172:(ji13)<(x5_2.length:Int):=of_decide_eq_true (by first|(with_reducible assumption)|assumption)
                 obtain ⟨ad172,e172,hx172_0⟩:=Kd.at_bool (Kd.R_reads' HO_5.out).2.2 (ji13) p172 q172
                 (try rw [← Nbq11.out] at hx172_0)
                 (try rw [← Nbq16.out] at hx172_0)
                 cases e172
                 replace p172:=eq_true p172
                 replace q172:=eq_true q172
                 have p174:0≤(x7_2:Int):=of_decide_eq_true (by first|(with_reducible assumption)|assumption)
                 have q174:x7_2<(l1.length:Int):=of_decide_eq_true (by first|(with_reducible assumption)|assumption)
                 obtain ⟨ad174,e174,hx174_0⟩:=Kd.at_bool HR1.out x7_2 p174 q174
                 (try rw [← Nbq11.out] at hx174_0)
                 (try rw [← Nbq16.out] at hx174_0)
                 cases e174
                 replace hx174_0:=(HB.out.cell (World.block_lt_of_cell? w _ hx174_0)).trans hx174_0
                 replace p174:=eq_true p174
                 replace q174:=eq_true q174
                 have p24:0≤((ji13):Int):=of_decide_eq_true (by first|(with_reducible assumption)|assumption)
                 have q24:((ji13):Int)<((x5_2.length:Int):Int):=of_decide_eq_true (by first|(with_reducible assumption)|assumption)
                 obtain ⟨go24,co24,eo24,gb24,gl24,cl24,HG24⟩:=Kd.R_form HO_5.out (by omega)
                 (first|cases eo24|(injection eo24 with ea_ en_ ec_;(first|subst ea_|(injection ea_ with ea_;subst ea_));subst ec_;clear en_))
                 have GB24:=Aside0.mk gb24
                 have GG24:=Aside0.mk HG24
                 clear gb24 gl24 HG24
                 (first|simp only [add_plain] at hx172_0|skip)
                 obtain ⟨hx24_0,hf24_0⟩:=Kd.R_celln false HO_5.out ((ji13):Int) p24 q24
                 replace p24:=eq_true p24
                 replace q24:=eq_true q24
                 have HP26:=Kd.R_putg HO_5.out ((ji13):Int) (rdOf false l1 x7_2)
                 go_wp2_with (first|((with_reducible refine gate_store (t:=4) (p:=47) rfl ?_);refine store_event (t:=4) (p:=47) (v:=?vo_w27) (w1:=(wr.setCell ⟨go24,((ji13):Int).toNat,none⟩ (.bool (rdOf false l1 x7_2)))) ?hg ?ho ?hn ?hr ?_;(case ho=>rfl);(case hg=>rfl);(case hn=>rfl);(case hr=>first|(go_simp;done)|(go_simp;rfl));intro w27 hw;have hg:wr.grownBy w27 (some go24):=(by rw [hw];exact HP26.2);have hp_:Kd.R Kd.bool 4 w27 w.heap.size (fun _=>True) (.slice (some ⟨go24,0,none⟩) x5_2.length co25) y175:=(by rw [hw,Ny175.out];exact HP26.1);clear HP26;have n0_:=Aside0.mk (hp_);have n1_:=Aside0.mk ((by rw [hw];exact yD (HB.out) GB24.out:Below w.heap.size w w27));clear HO_5;clear HB;have HO_5:=n0_;have HB:=n1_;clear n0_ n1_;clear hg hw hp_))
                 go_roundg k2
                 case measure=>have:=HK1.out;have:=HK2.out;omega
                 case rel=>exact ⟨(y175),(wrap64 (x7_2+1)),(by first|rfl|(simp;done)|(simp [*];done)|(simp [Int.tmod_eq_emod_of_nonneg];done)),H',⟨by have:=HK1.out;have:=HK2.out;omega⟩,⟨by (with_reducible repeat (first|apply yH|apply yI|apply yJ));exact HO_5.out⟩,⟨by repeat (first|(with_reducible first|exact HB.out|apply yA|apply yB|apply yC)|exact HB.out)⟩⟩
                ·rw [if_neg c23] at H
                 exact absurd H (by simp)
               ·rw [if_neg c22] at H
                exact absurd H (by simp)
             ·rw [if_neg c15] at H
              exact absurd H (by simp)
            ·rw [if_neg c14] at H
             exact absurd H (by simp)
           ·replace c12:=Bool.eq_false_iff.mpr c12
            subst c12
            have H1:(spec_l7Sum.l0 k2 l0 l1 x5_2 (wrap64 (x6_1+1)))=some r:=by rw [if_neg (show ¬ (false=true) by decide)] at H;exact H
            clear H
            have H:=H1
            clear H1
            have H':=Aside0.mk H
            clear H
            have p171:0≤(x6_1:Int):=of_decide_eq_true (by first|(with_reducible assumption)|assumption)
            have q171:x6_1<(l0.length:Int):=of_decide_eq_true (by first|(with_reducible assumption)|assumption)
            obtain ⟨ad171,e171,hx171_0⟩:=Kd.at_bool HR0.out x6_1 p171 q171
            (try rw [← Nbq11.out] at hx171_0)
            cases e171
            replace hx171_0:=(HB.out.cell (World.block_lt_of_cell? w _ hx171_0)).trans hx171_0
            replace p171:=eq_true p171
            replace q171:=eq_true q171
            go_wp2
            go_roundg k2
            case measure=>have:=HK1.out;have:=HK2.out;omega
            case rel=>exact ⟨(x5_2),(wrap64 (x6_1+1)),(by first|rfl|(simp;done)|(simp [*];done)|(simp [Int.tmod_eq_emod_of_nonneg];done)),H',⟨by have:=HK1.out;have:=HK2.out;omega⟩,⟨by (with_reducible repeat (first|apply yH|apply yI|apply yJ));exact HO_5.out⟩,⟨by repeat (first|(with_reducible first|exact HB.out|apply yA|apply yB|apply yC)|exact HB.out)⟩⟩
          ·rw [if_neg c10] at H
           exact absurd H (by simp)
         ·rw [if_neg c9] at H
          exact absurd H (by simp)
        ·rw [if_neg c8] at H
         have c8b0:decide ((wrap64 (x6_1+x7_2))<(l0.length:Int))=false:=decide_eq_false c8
         clear c8
         have H':=Aside0.mk H
         clear H
         go_wp2
         go_roundg k2
         case measure=>have:=HK1.out;have:=HK2.out;omega
         case rel=>exact ⟨(x5_2),(wrap64 (x6_1+1)),(by first|rfl|(simp;done)|(simp [*];done)|(simp [Int.tmod_eq_emod_of_nonneg];done)),H',⟨by have:=HK1.out;have:=HK2.out;omega⟩,⟨by (with_reducible repeat (first|apply yH|apply yI|apply yJ));exact HO_5.out⟩,⟨by repeat (first|(with_reducible first|exact HB.out|apply yA|apply yB|apply yC)|exact HB.out)⟩⟩
     ·rw [if_neg c7] at H
      have c7b0:decide (x6_1<(l0.length:Int))=false:=decide_eq_false c7
      clear c7
      obtain rfl:=Option.some.inj H
      go_wp2
      go_ret
      exact ⟨_,by first|rfl|(simp [errW_none,errW_some]<;>rfl)|(simp [*,errW_none,errW_some]<;>rfl)|(simp [errW_none,errW_some];exact ⟨rfl,rfl⟩),by (with_reducible repeat (first|apply yH|apply yI|apply yJ));exact HO_5.out,by repeat (first|(with_reducible first|exact HB.out|apply yA|apply yB|apply yC)|exact HB.out)⟩
  ·rw [if_neg c4] at H
   exact absurd H (by simp)
 ·rw [if_neg c3] at H
  exact absurd H (by simp)

end Go.Proofs.Ytjjnckgdpdelkaa.P

namespace Go.Proofs.Ytjjnckgdpdelkaa.P
open Go.RowKit Go.Proofs.YtjjnckgdpdelkaaW.PrintWords Go.Proofs.YtjjnckgdpdelkaaW.PrintLast Go.Proofs.YtjjnckgdpdelkaaW.PrintMore
attribute [local go_sem] max2_int min2_int max_two min_two max_three min_three max_four min_four   -- for this text's walks alone
set_option linter.unusedVariables false
set_option linter.unusedSimpArgs false

/-! ### spec_l7Marks: function 28 -/
mutual
def spec_l7Marks.j0:Nat→Int→List Bool→Bool→Int→List (S44)→Option (List Bool)
 | 0,_,_,_,_,_=>none
 | k+1,x1,x5,x20,x177000,x177001=>if x20=true then ((spec_l1Bit.f (x177000 == 97)).bind fun t180=>(if t180<x1 then (if 0≤t180 then (if t180<(x5.length:Int) then (some (x5.set (t180:Int).toNat true)) else (none)) else (none)) else (some x5))) else (if 0<(x177001.length:Int) then ((spec_l7Marks.f k ((rd_T44 x177001 0).f0) ((rd_T44 x177001 0).f1) x1).bind fun t183=>(if x177000=42 then (spec_l7Marks.l0 k x1 x5 t183 0) else (if x177000 ≥ 50 then (spec_l7Marks.j3 k x1 x5 t183 (decide (x177000≤53)) x177000 x177001) else (spec_l7Marks.j3 k x1 x5 t183 false x177000 x177001)))) else (none))
def spec_l7Marks.l0:Nat→Int→List Bool→List Bool→Int→Option (List Bool)
 | 0,_,_,_,_=>none
 | k+1,x1,x5,x7,x8=>if x8<x1 then (if 0≤x8 then (if x8<(x5.length:Int) then (spec_l7Marks.l1 k x1 (x5.set (x8:Int).toNat (x8 == 0)) x7 x8 1) else (none)) else (none)) else (some x5)
def spec_l7Marks.l1:Nat→Int→List Bool→List Bool→Int→Int→Option (List Bool)
 | 0,_,_,_,_,_=>none
 | k+1,x1,x5,x7,x8,x9=>if x9≤x8 then (if 0≤x8 then (if x8<(x5.length:Int) then (if rdOf false x5 x8=true then (spec_l7Marks.l1 k x1 (x5.set (x8:Int).toNat true) x7 x8 (wrap64 (x9+1))) else (if 0≤x9 then (if x9<(x7.length:Int) then (if rdOf false x7 x9=true then (if 0≤(wrap64 (x8 - x9)) then (if (wrap64 (x8 - x9))<(x5.length:Int) then (spec_l7Marks.l1 k x1 (x5.set (x8:Int).toNat (rdOf false x5 (wrap64 (x8 - x9)))) x7 x8 (wrap64 (x9+1))) else (none)) else (none)) else (spec_l7Marks.l1 k x1 (x5.set (x8:Int).toNat false) x7 x8 (wrap64 (x9+1)))) else (none)) else (none))) else (none)) else (none)) else (spec_l7Marks.l0 k x1 x5 x7 (wrap64 (x8+1)))
def spec_l7Marks.j3:Nat→Int→List Bool→List Bool→Bool→Int→List (S44)→Option (List Bool)
 | 0,_,_,_,_,_,_=>none
 | k+1,x1,x5,x7,x87,x177000,x177001=>if x87=true then (spec_l7Marks.l2 k x7 x7 49 x177000 x177001) else (if 1<(x177001.length:Int) then ((spec_l7Marks.f k ((rd_T44 x177001 1).f0) ((rd_T44 x177001 1).f1) x1).bind fun t197=>(if x177000=46 then ((spec_l7Sum.f k x7 t197).bind fun t200=>(some t200)) else (spec_l7Marks.l3 k x1 x5 x7 t197 0 x177000 x177001))) else (none))
def spec_l7Marks.l2:Nat→List Bool→List Bool→Int→Int→List (S44)→Option (List Bool)
 | 0,_,_,_,_,_=>none
 | k+1,x5,x7,x10,x177000,x177001=>if x10<x177000 then ((spec_l7Sum.f k x5 x7).bind fun t193=>(spec_l7Marks.l2 k t193 x7 ((x10+1) % 256) x177000 x177001)) else (some x5)
def spec_l7Marks.l3:Nat→Int→List Bool→List Bool→List Bool→Int→Int→List (S44)→Option (List Bool)
 | 0,_,_,_,_,_,_,_=>none
 | k+1,x1,x5,x7,x11,x12,x177000,x177001=>if x12<x1 then (if x177000=43 then (if 0≤x12 then (if x12<(x7.length:Int) then (if rdOf false x7 x12=true then (if x12<(x5.length:Int) then (spec_l7Marks.l3 k x1 (x5.set (x12:Int).toNat true) x7 x11 (wrap64 (x12+1)) x177000 x177001) else (none)) else (if x12<(x11.length:Int) then (if x12<(x5.length:Int) then (spec_l7Marks.l3 k x1 (x5.set (x12:Int).toNat (rdOf false x11 x12)) x7 x11 (wrap64 (x12+1)) x177000 x177001) else (none)) else (none))) else (none)) else (none)) else (if 0≤x12 then (if x12<(x7.length:Int) then (if rdOf false x7 x12=true then (if x12<(x11.length:Int) then (if x12<(x5.length:Int) then (spec_l7Marks.l3 k x1 (x5.set (x12:Int).toNat (rdOf false x11 x12)) x7 x11 (wrap64 (x12+1)) x177000 x177001) else (none)) else (none)) else (if x12<(x5.length:Int) then (spec_l7Marks.l3 k x1 (x5.set (x12:Int).toNat false) x7 x11 (wrap64 (x12+1)) x177000 x177001) else (none))) else (none)) else (none))) else (some x5)
def spec_l7Marks.f:Nat→Int→List (S44)→Int→Option (List Bool)
 | 0,_,_,_=>none
 | k+1,a0_0,l0_1,a1=>if 0≤a1 then (if (a1:Int).toNat≤281474976710656 then ((some (List.replicate (a1:Int).toNat false:List Bool)).bind fun y177=>(if a0_0=48 then (some y177) else (if a0_0=49 then (spec_l7Marks.j0 k a1 y177 true a0_0 l0_1) else (spec_l7Marks.j0 k a1 y177 (a0_0 == 97) a0_0 l0_1)))) else (none)) else (none)
end
theorem spec_l7Marks.mono_l:∀ k,(∀ y0 y1 y2,LeO (spec_l7Marks.f k y0 y1 y2) (spec_l7Marks.f (k+1) y0 y1 y2))∧(∀ y0 y1 y2 y3 y4,LeO (spec_l7Marks.j0 k y0 y1 y2 y3 y4) (spec_l7Marks.j0 (k+1) y0 y1 y2 y3 y4))∧(∀ y0 y1 y2 y3,LeO (spec_l7Marks.l0 k y0 y1 y2 y3) (spec_l7Marks.l0 (k+1) y0 y1 y2 y3))∧(∀ y0 y1 y2 y3 y4,LeO (spec_l7Marks.l1 k y0 y1 y2 y3 y4) (spec_l7Marks.l1 (k+1) y0 y1 y2 y3 y4))∧(∀ y0 y1 y2 y3 y4 y5,LeO (spec_l7Marks.j3 k y0 y1 y2 y3 y4 y5) (spec_l7Marks.j3 (k+1) y0 y1 y2 y3 y4 y5))∧(∀ y0 y1 y2 y3 y4,LeO (spec_l7Marks.l2 k y0 y1 y2 y3 y4) (spec_l7Marks.l2 (k+1) y0 y1 y2 y3 y4))∧(∀ y0 y1 y2 y3 y4 y5 y6,LeO (spec_l7Marks.l3 k y0 y1 y2 y3 y4 y5 y6) (spec_l7Marks.l3 (k+1) y0 y1 y2 y3 y4 y5 y6))
 | 0=>⟨fun _ _ _ r h=>by simp [spec_l7Marks.f] at h,fun _ _ _ _ _ r h=>by simp [spec_l7Marks.j0] at h,fun _ _ _ _ r h=>by simp [spec_l7Marks.l0] at h,fun _ _ _ _ _ r h=>by simp [spec_l7Marks.l1] at h,fun _ _ _ _ _ _ r h=>by simp [spec_l7Marks.j3] at h,fun _ _ _ _ _ r h=>by simp [spec_l7Marks.l2] at h,fun _ _ _ _ _ _ _ r h=>by simp [spec_l7Marks.l3] at h⟩
 | k+1=>by
  obtain ⟨ih0,ih1,ih2,ih3,ih4,ih5,ih6⟩:=spec_l7Marks.mono_l k
  refine ⟨?_,?_,?_,?_,?_,?_,?_⟩
  ·intro y0 y1 y2
   unfold spec_l7Marks.f
   repeat' first
   | (with_reducible exact ih0 _ _ _)
   | (with_reducible exact ih1 _ _ _ _ _)
   | (with_reducible exact ih2 _ _ _ _)
   | (with_reducible exact ih3 _ _ _ _ _)
   | (with_reducible exact ih4 _ _ _ _ _ _)
   | (with_reducible exact ih5 _ _ _ _ _)
   | (with_reducible exact ih6 _ _ _ _ _ _ _)
   | (with_reducible exact spec_l7Sum.mono _ _ _)
   | (with_reducible exact LeO.refl _)
   | (with_reducible exact LeO.none _)
   | (with_reducible refine LeO.ite ?_ ?_)
   | (with_reducible refine LeO.bind ?_ (fun _=>?_))
   | exact ih0 _ _ _
   | exact ih1 _ _ _ _ _
   | exact ih2 _ _ _ _
   | exact ih3 _ _ _ _ _
   | exact ih4 _ _ _ _ _ _
   | exact ih5 _ _ _ _ _
   | exact ih6 _ _ _ _ _ _ _
   | exact spec_l7Sum.mono _ _ _
   | exact LeO.none _
   | refine LeO.ite ?_ ?_
   | refine LeO.bind ?_ (fun _=>?_)
  ·intro y0 y1 y2 y3 y4
   unfold spec_l7Marks.j0
   repeat' first
   | (with_reducible exact ih0 _ _ _)
   | (with_reducible exact ih1 _ _ _ _ _)
   | (with_reducible exact ih2 _ _ _ _)
   | (with_reducible exact ih3 _ _ _ _ _)
   | (with_reducible exact ih4 _ _ _ _ _ _)
   | (with_reducible exact ih5 _ _ _ _ _)
   | (with_reducible exact ih6 _ _ _ _ _ _ _)
   | (with_reducible exact spec_l7Sum.mono _ _ _)
   | (with_reducible exact LeO.refl _)
   | (with_reducible exact LeO.none _)
   | (with_reducible refine LeO.ite ?_ ?_)
   | (with_reducible refine LeO.bind ?_ (fun _=>?_))
   | exact ih0 _ _ _
   | exact ih1 _ _ _ _ _
   | exact ih2 _ _ _ _
   | exact ih3 _ _ _ _ _
   | exact ih4 _ _ _ _ _ _
   | exact ih5 _ _ _ _ _
   | exact ih6 _ _ _ _ _ _ _
   | exact spec_l7Sum.mono _ _ _
   | exact LeO.none _
   | refine LeO.ite ?_ ?_
   | refine LeO.bind ?_ (fun _=>?_)
  ·intro y0 y1 y2 y3
   unfold spec_l7Marks.l0
   repeat' first
   | (with_reducible exact ih0 _ _ _)
   | (with_reducible exact ih1 _ _ _ _ _)
   | (with_reducible exact ih2 _ _ _ _)
   | (with_reducible exact ih3 _ _ _ _ _)
   | (with_reducible exact ih4 _ _ _ _ _ _)
   | (with_reducible exact ih5 _ _ _ _ _)
   | (with_reducible exact ih6 _ _ _ _ _ _ _)
   | (with_reducible exact spec_l7Sum.mono _ _ _)
   | (with_reducible exact LeO.refl _)
   | (with_reducible exact LeO.none _)
   | (with_reducible refine LeO.ite ?_ ?_)
   | (with_reducible refine LeO.bind ?_ (fun _=>?_))
   | exact ih0 _ _ _
   | exact ih1 _ _ _ _ _
   | exact ih2 _ _ _ _
   | exact ih3 _ _ _ _ _
   | exact ih4 _ _ _ _ _ _
   | exact ih5 _ _ _ _ _
   | exact ih6 _ _ _ _ _ _ _
   | exact spec_l7Sum.mono _ _ _
   | exact LeO.none _
   | refine LeO.ite ?_ ?_
   | refine LeO.bind ?_ (fun _=>?_)
  ·intro y0 y1 y2 y3 y4
   unfold spec_l7Marks.l1
   repeat' first
   | (with_reducible exact ih0 _ _ _)
   | (with_reducible exact ih1 _ _ _ _ _)
   | (with_reducible exact ih2 _ _ _ _)
   | (with_reducible exact ih3 _ _ _ _ _)
   | (with_reducible exact ih4 _ _ _ _ _ _)
   | (with_reducible exact ih5 _ _ _ _ _)
   | (with_reducible exact ih6 _ _ _ _ _ _ _)
   | (with_reducible exact spec_l7Sum.mono _ _ _)
   | (with_reducible exact LeO.refl _)
   | (with_reducible exact LeO.none _)
   | (with_reducible refine LeO.ite ?_ ?_)
   | (with_reducible refine LeO.bind ?_ (fun _=>?_))
   | exact ih0 _ _ _
   | exact ih1 _ _ _ _ _
   | exact ih2 _ _ _ _
   | exact ih3 _ _ _ _ _
   | exact ih4 _ _ _ _ _ _
   | exact ih5 _ _ _ _ _
   | exact ih6 _ _ _ _ _ _ _
   | exact spec_l7Sum.mono _ _ _
   | exact LeO.none _
   | refine LeO.ite ?_ ?_
   | refine LeO.bind ?_ (fun _=>?_)
  ·intro y0 y1 y2 y3 y4 y5
   unfold spec_l7Marks.j3
   repeat' first
   | (with_reducible exact ih0 _ _ _)
   | (with_reducible exact ih1 _ _ _ _ _)
   | (with_reducible exact ih2 _ _ _ _)
   | (with_reducible exact ih3 _ _ _ _ _)
   | (with_reducible exact ih4 _ _ _ _ _ _)
   | (with_reducible exact ih5 _ _ _ _ _)
   | (with_reducible exact ih6 _ _ _ _ _ _ _)
   | (with_reducible exact spec_l7Sum.mono _ _ _)
   | (with_reducible exact LeO.refl _)
   | (with_reducible exact LeO.none _)
   | (with_reducible refine LeO.ite ?_ ?_)
   | (with_reducible refine LeO.bind ?_ (fun _=>?_))
   | exact ih0 _ _ _
   | exact ih1 _ _ _ _ _
   | exact ih2 _ _ _ _
   | exact ih3 _ _ _ _ _
   | exact ih4 _ _ _ _ _ _
   | exact ih5 _ _ _ _ _
   | exact ih6 _ _ _ _ _ _ _
   | exact spec_l7Sum.mono _ _ _
   | exact LeO.none _
   | refine LeO.ite ?_ ?_
   | refine LeO.bind ?_ (fun _=>?_)
  ·intro y0 y1 y2 y3 y4
   unfold spec_l7Marks.l2
   repeat' first
   | (with_reducible exact ih0 _ _ _)
   | (with_reducible exact ih1 _ _ _ _ _)
   | (with_reducible exact ih2 _ _ _ _)
   | (with_reducible exact ih3 _ _ _ _ _)
   | (with_reducible exact ih4 _ _ _ _ _ _)
   | (with_reducible exact ih5 _ _ _ _ _)
   | (with_reducible exact ih6 _ _ _ _ _ _ _)
   | (with_reducible exact spec_l7Sum.mono _ _ _)
   | (with_reducible exact LeO.refl _)
   | (with_reducible exact LeO.none _)
   | (with_reducible refine LeO.ite ?_ ?_)
   | (with_reducible refine LeO.bind ?_ (fun _=>?_))
   | exact ih0 _ _ _
   | exact ih1 _ _ _ _ _
   | exact ih2 _ _ _ _
   | exact ih3 _ _ _ _ _
   | exact ih4 _ _ _ _ _ _
   | exact ih5 _ _ _ _ _
   | exact ih6 _ _ _ _ _ _ _
   | exact spec_l7Sum.mono _ _ _
   | exact LeO.none _
   | refine LeO.ite ?_ ?_
   | refine LeO.bind ?_ (fun _=>?_)
  ·intro y0 y1 y2 y3 y4 y5 y6
   unfold spec_l7Marks.l3
   repeat' first
   | (with_reducible exact ih0 _ _ _)
   | (with_reducible exact ih1 _ _ _ _ _)
   | (with_reducible exact ih2 _ _ _ _)
   | (with_reducible exact ih3 _ _ _ _ _)
   | (with_reducible exact ih4 _ _ _ _ _ _)
   | (with_reducible exact ih5 _ _ _ _ _)
   | (with_reducible exact ih6 _ _ _ _ _ _ _)
   | (with_reducible exact spec_l7Sum.mono _ _ _)
   | (with_reducible exact LeO.refl _)
   | (with_reducible exact LeO.none _)
   | (with_reducible refine LeO.ite ?_ ?_)
   | (with_reducible refine LeO.bind ?_ (fun _=>?_))
   | exact ih0 _ _ _
   | exact ih1 _ _ _ _ _
   | exact ih2 _ _ _ _
   | exact ih3 _ _ _ _ _
   | exact ih4 _ _ _ _ _ _
   | exact ih5 _ _ _ _ _
   | exact ih6 _ _ _ _ _ _ _
   | exact spec_l7Sum.mono _ _ _
   | exact LeO.none _
   | refine LeO.ite ?_ ?_
   | refine LeO.bind ?_ (fun _=>?_)
theorem spec_l7Marks.mono:∀ a0 a1 a2 k,LeO (spec_l7Marks.f k a0 a1 a2) (spec_l7Marks.f (k+1) a0 a1 a2):=by
 intro a0 a1 a2 k
 obtain ⟨ih0,ih1,ih2,ih3,ih4,ih5,ih6⟩:=spec_l7Marks.mono_l k
 exact ih0 a0 a1 a2
set_option maxHeartbeats 8000000 in
set_option maxRecDepth 100000 in
theorem spec_l7Marks.calls (k:Nat):∀ (a0_0:Int) (A0_1:Option Addr) (c0_1:Nat) (l0_1:List (S44)) (a1:Int) (r:List Bool) (w:World) (hr0_1:Kd.C k44 w A0_1 l0_1.length l0_1) (hc0_1:l0_1.length≤c0_1) (h:spec_l7Marks.f k a0_0 l0_1 a1=some r),
  Calls Try.prog 28 #[.agg #[.int .u8 a0_0,.slice A0_1 l0_1.length c0_1],.int .i64 a1] w fun e w'=>∃ v0_:Value,e=.returned (v0_)∧Kd.R Kd.bool 4 w' w.heap.size (fun _=>True) v0_ r∧Below w.heap.size w w':=by
 induction k using Nat.strongRecOn with
 | _ k ih =>
 intro a0_0 A0_1 c0_1 l0_1 a1 r w hr0_1 hc0_1 h
 cases k with
 | zero=>exact absurd h (by simp [spec_l7Marks.f])
 | succ k =>
 simp only [spec_l7Marks.f] at h
 have hu44:=Try.underlying44
 have HR0_1:=Aside0.mk hr0_1
 have HC0_1:=Aside0.mk hc0_1
 clear hr0_1 hc0_1
 have HB:=Aside0.mk (Below.refl w.heap.size w)
 have H:(if 0≤a1 then (if (a1:Int).toNat≤281474976710656 then ((some (List.replicate (a1:Int).toNat false:List Bool)).bind fun y177=>(if a0_0=48 then (some y177) else (if a0_0=49 then (spec_l7Marks.j0 k a1 y177 true a0_0 l0_1) else (spec_l7Marks.j0 k a1 y177 (a0_0 == 97) a0_0 l0_1)))) else (none)) else (none))=some r:=h
 clear h
 by_cases c3:0≤a1
 ·rw [if_pos c3] at H
  have c3b0:=eq_true c3
  have c3b1:decide (0≤a1)=true:=decide_eq_true c3
  clear c3
  by_cases c4:(a1:Int).toNat≤281474976710656
  ·rw [if_pos c4] at H
   have c4b0:=eq_true c4
   have c4b1:decide ((a1:Int).toNat≤281474976710656)=true:=decide_eq_true c4
   clear c4
   obtain ⟨y177,hy177⟩:∃ y_:List Bool,y_=(List.replicate (a1:Int).toNat false):=⟨_,rfl⟩
   replace H:(if a0_0=48 then (some y177) else (if a0_0=49 then (spec_l7Marks.j0 k a1 y177 true a0_0 l0_1) else (spec_l7Marks.j0 k a1 y177 (a0_0 == 97) a0_0 l0_1)))=some r:=by first|(rw [hy177];with_reducible exact H)|(have H2_:=(Option.bind_some _ _).symm.trans H;rw [hy177];with_reducible exact H2_)|(have H2_:=(Option.bind_some _ _).symm.trans H;with_reducible exact H2_)|with_reducible exact H|(rw [hy177];exact H)|exact H
   have Ny177:=Aside0.mk hy177
   clear hy177
   by_cases c5:a0_0=48
   ·rw [if_pos c5] at H
    have c5b0:(a0_0 == 48)=true:=beq_iff_eq.mpr c5
    have c5b1:(a0_0 != 48)=false:=bne_eq_false_iff_eq.mpr c5
    clear c5
    obtain rfl:=Option.some.inj H
    go_enter Try.func28,Try.ntmps28
    go_wp2_with (first|((with_reducible refine gate_dst (N:=2) rfl ?_);refine box_event ?hg (N:=2) ?hd (cs:=#[.int .u8 a0_0,.slice A0_1 l0_1.length c0_1]) (t:=44) ?hr ?_;(case hd=>rfl);(case hg=>rfl);(case hr=>first|(go_simp;done)|(go_simp;rfl));intro gb176 hg w6 hbox hb;have n0_:=Aside0.mk (yP (by repeat (first|(with_reducible first|exact HB.out|apply yA|apply yB|apply yC)|exact HB.out)) hb);have n1_:=Aside0.mk (hbox);have n2_:=Aside0.mk ((by rw [hg];exact (yQ (by repeat (first|(with_reducible first|exact HB.out|apply yA|apply yB|apply yC)|exact HB.out))):w.heap.size≤gb176));have n3_:=Aside0.mk ((by rw [hg];exact (yQ (by repeat (first|(with_reducible first|exact HB.out|apply yA|apply yB|apply yC)|exact HB.out))):w.heap.size≤gb176));clear HB;have HB:=n0_;have BK176:=n1_;have GW176:=n2_;have GE176:=n3_;clear n0_ n1_ n2_ n3_;clear hb hbox hg)|((with_reducible refine gate_dst (N:=14) rfl ?_);refine Kd.R_make Kd.bool _ 4 rfl (N:=14) rfl 47 _ _ rfl a1 rfl rfl Try.underlying47 (.bool false) 1 info4 rfl (by decide) (by omega) false (ok:=fun _=>True) (okp:=fun _=>True) rfl (fun _ hk=>hk) trivial (of_decide_eq_true (by first|(with_reducible assumption)|assumption)) (Nat.le_trans (Nat.mul_le_mul_right _ (of_decide_eq_true (by first|(with_reducible assumption)|assumption):a1.toNat≤281474976710656)) (by omega)) (Below.refl _ _) (Nat.le_refl _) ?_;intro v178 w7 ho8 hb hg_ hnew_;clear hg_ hnew_;(first|rw [← Ny177.out] at ho8|(simp only [Int.reduceToNat] at ho8;rw [← Ny177.out] at ho8));have n0_:=Aside0.mk (Kd.R_lower ho8 (yQ (by repeat (first|(with_reducible first|exact HB.out|apply yA|apply yB|apply yC|refine yD ?_ GE176.out)|exact HB.out))));have n1_:=Aside0.mk (blk_below (g:=gb176) (o:=.cells #[.int .u8 a0_0,.slice A0_1 l0_1.length c0_1] 44 (0,0)) (by (with_reducible repeat (first|refine yE ?_ _|refine yF ?_|refine yG ?_ _));exact BK176.out) hb);have n2_:=Aside0.mk (yP (by repeat (first|(with_reducible first|exact HB.out|apply yA|apply yB|apply yC|refine yD ?_ GE176.out)|exact HB.out)) hb);clear BK176;clear HB;have HO179:=n0_;have BK176:=n1_;have HB:=n2_;clear n0_ n1_ n2_;clear hb ho8;have hcz9_0:w7.cell? ⟨gb176,0,none⟩=some (.int .u8 a0_0):=(blk_cell BK176.out 0).trans rfl;have hcz9_1:w7.cell? ⟨gb176,1,none⟩=some (.slice A0_1 l0_1.length c0_1):=(blk_cell BK176.out 1).trans rfl;have hfz9_0:=blk_frozen BK176.out 0;have hfz9_1:=blk_frozen BK176.out 1))
    go_ret
    exact ⟨_,by first|rfl|(simp [errW_none,errW_some]<;>rfl)|(simp [*,errW_none,errW_some]<;>rfl)|(simp [errW_none,errW_some];exact ⟨rfl,rfl⟩),by (with_reducible repeat (first|apply yH|apply yI|apply yJ));exact HO179.out,by repeat (first|(with_reducible first|exact HB.out|apply yA|apply yB|apply yC|refine yD ?_ GE176.out)|exact HB.out)⟩
   ·rw [if_neg c5] at H
    have c5b0:(a0_0 == 48)=false:=beq_eq_false_iff_ne.mpr c5
    have c5b1:(a0_0 != 48)=true:=bne_iff_ne.mpr c5
    have HC10:=Aside0.mk H
    clear H
    go_enter Try.func28,Try.ntmps28
    go_upto_region 4 with (first|((with_reducible refine gate_dst (N:=2) rfl ?_);refine box_event ?hg (N:=2) ?hd (cs:=#[.int .u8 a0_0,.slice A0_1 l0_1.length c0_1]) (t:=44) ?hr ?_;(case hd=>rfl);(case hg=>rfl);(case hr=>first|(go_simp;done)|(go_simp;rfl));intro gb176 hg w11 hbox hb;have n0_:=Aside0.mk (yP (by repeat (first|(with_reducible first|exact HB.out|apply yA|apply yB|apply yC)|exact HB.out)) hb);have n1_:=Aside0.mk (hbox);have n2_:=Aside0.mk ((by rw [hg];exact (yQ (by repeat (first|(with_reducible first|exact HB.out|apply yA|apply yB|apply yC)|exact HB.out))):w.heap.size≤gb176));have n3_:=Aside0.mk ((by rw [hg];exact (yQ (by repeat (first|(with_reducible first|exact HB.out|apply yA|apply yB|apply yC)|exact HB.out))):w.heap.size≤gb176));clear HB;have HB:=n0_;have BK176:=n1_;have GW176:=n2_;have GE176:=n3_;clear n0_ n1_ n2_ n3_;clear hb hbox hg)|((with_reducible refine gate_dst (N:=14) rfl ?_);refine Kd.R_make Kd.bool _ 4 rfl (N:=14) rfl 47 _ _ rfl a1 rfl rfl Try.underlying47 (.bool false) 1 info4 rfl (by decide) (by omega) false (ok:=fun _=>True) (okp:=fun _=>True) rfl (fun _ hk=>hk) trivial (of_decide_eq_true (by first|(with_reducible assumption)|assumption)) (Nat.le_trans (Nat.mul_le_mul_right _ (of_decide_eq_true (by first|(with_reducible assumption)|assumption):a1.toNat≤281474976710656)) (by omega)) (Below.refl _ _) (Nat.le_refl _) ?_;intro v178 w12 ho13 hb hg_ hnew_;clear hg_ hnew_;(first|rw [← Ny177.out] at ho13|(simp only [Int.reduceToNat] at ho13;rw [← Ny177.out] at ho13));have n0_:=Aside0.mk (Kd.R_lower ho13 (yQ (by repeat (first|(with_reducible first|exact HB.out|apply yA|apply yB|apply yC|refine yD ?_ GE176.out)|exact HB.out))));have n1_:=Aside0.mk (blk_below (g:=gb176) (o:=.cells #[.int .u8 a0_0,.slice A0_1 l0_1.length c0_1] 44 (0,0)) (by (with_reducible repeat (first|refine yE ?_ _|refine yF ?_|refine yG ?_ _));exact BK176.out) hb);have n2_:=Aside0.mk (yP (by repeat (first|(with_reducible first|exact HB.out|apply yA|apply yB|apply yC|refine yD ?_ GE176.out)|exact HB.out)) hb);clear BK176;clear HB;have HO179:=n0_;have BK176:=n1_;have HB:=n2_;clear n0_ n1_ n2_;clear hb ho13;have hcz14_0:w12.cell? ⟨gb176,0,none⟩=some (.int .u8 a0_0):=(blk_cell BK176.out 0).trans rfl;have hcz14_1:w12.cell? ⟨gb176,1,none⟩=some (.slice A0_1 l0_1.length c0_1):=(blk_cell BK176.out 1).trans rfl;have hfz14_0:=blk_frozen BK176.out 0;have hfz14_1:=blk_frozen BK176.out 1))
    (try simp only [Act.put,yK,yL,yM])
    go_cut [20] (fun v20 wc=>∃ (kq:Nat) (x20_9:Bool),v20=.bool x20_9∧Aside0 (spec_l7Marks.j0 kq a1 y177 x20_9 a0_0 l0_1=some r)∧Aside0 (kq≤k)∧Aside0 (Kd.R Kd.bool 4 wc w.heap.size (fun _=>True) v178 y177)∧Aside0 (wc.heap[gb176]?=some (.cells #[.int .u8 a0_0,(.slice A0_1 l0_1.length c0_1)] 44 (0,0)))∧Aside0 (Below w.heap.size w wc))
    case first =>
     have H:=HC10.out
     clear HC10
     by_cases c15:a0_0=49
     ·rw [if_pos c15] at H
      have c15b0:(a0_0 == 49)=true:=beq_iff_eq.mpr c15
      have c15b1:(a0_0 != 49)=false:=bne_eq_false_iff_eq.mpr c15
      clear c15
      (first|rw [c15b0]|(simp only [i64_w,i32_w];rw [c15b0])|skip)
      have H':=Aside0.mk H
      clear H
      have hcz16_0:w12.cell? ⟨gb176,0,none⟩=some (.int .u8 a0_0):=(blk_cell BK176.out 0).trans rfl
      have hcz16_1:w12.cell? ⟨gb176,1,none⟩=some (.slice A0_1 l0_1.length c0_1):=(blk_cell BK176.out 1).trans rfl
      have hfz16_0:=blk_frozen BK176.out 0
      have hfz16_1:=blk_frozen BK176.out 1
      go_wp2
      go_meet
      case rel=>exact ⟨_,(true),(by first|rfl|(simp;done)|(simp [*];done)|(simp [Int.tmod_eq_emod_of_nonneg];done)),H',⟨by first|omega|exact Nat.le_refl _⟩,⟨by (with_reducible repeat (first|apply yH|apply yI|apply yJ));exact HO179.out⟩,⟨by (with_reducible repeat (first|refine yE ?_ _|refine yF ?_|refine yG ?_ _));exact BK176.out⟩,⟨by repeat (first|(with_reducible first|exact HB.out|apply yA|apply yB|apply yC|refine yD ?_ GE176.out)|exact HB.out)⟩⟩
     ·rw [if_neg c15] at H
      have c15b0:(a0_0 == 49)=false:=beq_eq_false_iff_ne.mpr c15
      have c15b1:(a0_0 != 49)=true:=bne_iff_ne.mpr c15
      (first|rw [c15b0]|(simp only [i64_w,i32_w];rw [c15b0])|skip)
      have H':=Aside0.mk H
      clear H
      have hcz17_0:w12.cell? ⟨gb176,0,none⟩=some (.int .u8 a0_0):=(blk_cell BK176.out 0).trans rfl
      have hcz17_1:w12.cell? ⟨gb176,1,none⟩=some (.slice A0_1 l0_1.length c0_1):=(blk_cell BK176.out 1).trans rfl
      have hfz17_0:=blk_frozen BK176.out 0
      have hfz17_1:=blk_frozen BK176.out 1
      go_wp2
      go_meet
      case rel=>exact ⟨_,((a0_0 == 97)),(by first|rfl|(simp;done)|(simp [*];done)|(simp [Int.tmod_eq_emod_of_nonneg];done)),H',⟨by first|omega|exact Nat.le_refl _⟩,⟨by (with_reducible repeat (first|apply yH|apply yI|apply yJ));exact HO179.out⟩,⟨by (with_reducible repeat (first|refine yE ?_ _|refine yF ?_|refine yG ?_ _));exact BK176.out⟩,⟨by repeat (first|(with_reducible first|exact HB.out|apply yA|apply yB|apply yC|refine yD ?_ GE176.out)|exact HB.out)⟩⟩
    case rest =>
     clear HC10
     try clear c1
     try clear c2
     try clear p2
     try clear c3
     try clear c3b0
     try clear c3b1
     try clear c4
     try clear c4b0
     try clear c4b1
     try clear c5
     try clear c5b0
     try clear c5b1
     try clear c15
     try clear c15b0
     try clear c15b1
     try clear hcz14_0
     try clear hcz14_1
     try clear hcz16_0
     try clear hcz16_1
     try clear hcz17_0
     try clear hcz17_1
     try clear hcz9_0
     try clear hcz9_1
     try clear hfz14_0
     try clear hfz14_1
     try clear hfz16_0
     try clear hfz16_1
     try clear hfz17_0
     try clear hfz17_1
     try clear hfz9_0
     try clear hfz9_1
     obtain ⟨kq,x20_9,rfl,HA,HJ9,HO_5,BK176,HB⟩:=hcut
     cases kq with
     | zero=>exact absurd HA.out (by simp [spec_l7Marks.j0])
     | succ kj9 =>
      have H:=HA.out
      clear HA
      simp only [spec_l7Marks.j0] at H
      by_cases c18:x20_9=true
      ·subst c18
       have H1:((spec_l1Bit.f (a0_0 == 97)).bind fun t180=>(if t180<a1 then (if 0≤t180 then (if t180<(y177.length:Int) then (some (y177.set (t180:Int).toNat true)) else (none)) else (none)) else (some y177)))=some r:=by rw [if_pos rfl] at H;exact H
       clear H
       have H:=H1
       clear H1
       replace H:=Option.bind_eq_some_iff.mp H
       obtain ⟨t180,A190,H⟩:=H
       replace H:(if t180<a1 then (if 0≤t180 then (if t180<(y177.length:Int) then (some (y177.set (t180:Int).toNat true)) else (none)) else (none)) else (some y177))=some r:=H
       have A19:=Aside0.mk A190
       clear A190
       by_cases c20:t180<a1
       ·rw [if_pos c20] at H
        have c20b0:decide (t180<a1)=true:=decide_eq_true c20
        clear c20
        by_cases c21:0≤t180
        ·rw [if_pos c21] at H
         have c21b0:decide (0≤t180)=true:=decide_eq_true c21
         clear c21
         by_cases c22:t180<(y177.length:Int)
         ·rw [if_pos c22] at H
          have c22b0:decide (t180<(y177.length:Int))=true:=decide_eq_true c22
          clear c22
          obtain ⟨y181,hy181⟩:∃ y_:List Bool,y_=(y177.set (t180:Int).toNat true):=⟨_,rfl⟩
          replace H:(some y181)=some r:=by first|(rw [hy181];with_reducible exact H)|(have H2_:=(Option.bind_some _ _).symm.trans H;rw [hy181];with_reducible exact H2_)|(have H2_:=(Option.bind_some _ _).symm.trans H;with_reducible exact H2_)|with_reducible exact H|(rw [hy181];exact H)|exact H
          have Ny181:=Aside0.mk hy181
          clear hy181
          obtain rfl:=Option.some.inj H
          have hcz24_0:wc.cell? ⟨gb176,0,none⟩=some (.int .u8 a0_0):=(blk_cell BK176.out 0).trans rfl
          have hcz24_1:wc.cell? ⟨gb176,1,none⟩=some (.slice A0_1 l0_1.length c0_1):=(blk_cell BK176.out 1).trans rfl
          have hfz24_0:=blk_frozen BK176.out 0
          have hfz24_1:=blk_frozen BK176.out 1
          go_wp2_with (first|((with_reducible refine gate_callee (f:=41) rfl ?_);refine goesL_ (some 32) rfl rfl Try.func41 (by kernel_rfl) rfl #[.bool (a0_0 == 97)] rfl (by (try simp only [List.map_toArray,List.map_cons,List.map_nil]);first|done|rfl|(simp only [List.length_drop,List.length_take];rfl)) ?_;(with_reducible refine (spec_l1Bit.calls (a0_0 == 97) t180 _ A19.out).mono ?_);rintro e w' ⟨rfl,⟨nd,rfl⟩⟩;refine ⟨_,rfl,?_⟩;(try (rw [drewN_self wc];generalize hq_:World.drewN wc _=wc;have n0_:Aside0 (Kd.R Kd.bool 4 wc w.heap.size (fun _=>True) v178 y177):=⟨by rw [← hq_];exact (by (with_reducible repeat (first|apply yH|apply yI|apply yJ));exact HO_5.out)⟩;have n1_:Aside0 (wc.heap[gb176]?=some (.cells #[.int .u8 a0_0,.slice A0_1 l0_1.length c0_1] 44 (0,0))):=⟨by rw [← hq_];exact (by (with_reducible repeat (first|refine yE ?_ _|refine yF ?_|refine yG ?_ _));exact BK176.out)⟩;have n2_:Aside0 (Below w.heap.size w wc):=⟨by rw [← hq_];exact (by repeat (first|(with_reducible first|exact HB.out|apply yA|apply yB|apply yC|refine yD ?_ GE176.out)|exact HB.out))⟩;clear HO_5 BK176 HB hq_;have HO_5:=n0_;have BK176:=n1_;have HB:=n2_;clear n0_ n1_ n2_));have p23:0≤(t180:Int):=of_decide_eq_true (by first|(with_reducible assumption)|assumption);have q23:(t180:Int)<((y177.length:Int):Int):=of_decide_eq_true (by first|(with_reducible assumption)|assumption);obtain ⟨go23,co23,eo23,gb23,gl23,cl23,HG23⟩:=Kd.R_form HO_5.out (by omega);(first|cases eo23|(injection eo23 with ea_ en_ ec_;(first|subst ea_|(injection ea_ with ea_;subst ea_));subst ec_;clear en_));have GB23:=Aside0.mk gb23;have GG23:=Aside0.mk HG23;clear gb23 gl23 HG23;obtain ⟨hx23_0,hf23_0⟩:=Kd.R_celln false HO_5.out (t180:Int) p23 q23;replace p23:=eq_true p23;replace q23:=eq_true q23;obtain ⟨hy25_,hz25_⟩:=Kd.R_celln false HO_5.out (t180:Int) (of_decide_eq_true (by first|(with_reducible assumption)|assumption)) (of_decide_eq_true (by first|(with_reducible assumption)|assumption));have HP25:=Kd.R_putg HO_5.out (t180:Int) true)|((with_reducible refine gate_store (t:=4) (p:=38) rfl ?_);refine store_event (t:=4) (p:=38) (v:=?vo_w26) (w1:=(wc.setCell ⟨go23,(t180:Int).toNat,none⟩ (.bool true))) ?hg ?ho ?hn ?hr ?_;(case ho=>rfl);(case hg=>rfl);(case hn=>rfl);(case hr=>first|(go_simp;done)|(go_simp;rfl));intro w26 hw;have hg:wc.grownBy w26 (some go23):=(by rw [hw];exact HP25.2);have hp_:Kd.R Kd.bool 4 w26 w.heap.size (fun _=>True) (.slice (some ⟨go23,0,none⟩) y177.length co23) y181:=(by rw [hw,Ny181.out];exact HP25.1);clear HP25;have n0_:=Aside0.mk (hp_);have n1_:=Aside0.mk (blk_grown (g:=gb176) (o:=.cells #[.int .u8 a0_0,.slice A0_1 l0_1.length c0_1] 44 (0,0)) (by (with_reducible repeat (first|refine yE ?_ _|refine yF ?_|refine yG ?_ _));exact BK176.out) hg (Kd.R_ne HO_5.out BK176.out (by decide)));have n2_:=Aside0.mk ((by rw [hw];exact yD (HB.out) GB23.out:Below w.heap.size w w26));clear HO_5;clear BK176;clear HB;have HO_5:=n0_;have BK176:=n1_;have HB:=n2_;clear n0_ n1_ n2_;clear hg hw hp_))
          go_ret
          exact ⟨_,by first|rfl|(simp [errW_none,errW_some]<;>rfl)|(simp [*,errW_none,errW_some]<;>rfl)|(simp [errW_none,errW_some];exact ⟨rfl,rfl⟩),by (with_reducible repeat (first|apply yH|apply yI|apply yJ));exact HO_5.out,by repeat (first|(with_reducible first|exact HB.out|apply yA|apply yB|apply yC|refine yD ?_ GE176.out)|exact HB.out)⟩
         ·rw [if_neg c22] at H
          exact absurd H (by simp)
        ·rw [if_neg c21] at H
         exact absurd H (by simp)
       ·rw [if_neg c20] at H
        have c20b0:decide (t180<a1)=false:=decide_eq_false c20
        clear c20
        obtain rfl:=Option.some.inj H
        have hcz27_0:wc.cell? ⟨gb176,0,none⟩=some (.int .u8 a0_0):=(blk_cell BK176.out 0).trans rfl
        have hcz27_1:wc.cell? ⟨gb176,1,none⟩=some (.slice A0_1 l0_1.length c0_1):=(blk_cell BK176.out 1).trans rfl
        have hfz27_0:=blk_frozen BK176.out 0
        have hfz27_1:=blk_frozen BK176.out 1
        go_wp2_with (first|((with_reducible refine gate_callee (f:=41) rfl ?_);refine goesL_ (some 32) rfl rfl Try.func41 (by kernel_rfl) rfl #[.bool (a0_0 == 97)] rfl (by (try simp only [List.map_toArray,List.map_cons,List.map_nil]);first|done|rfl|(simp only [List.length_drop,List.length_take];rfl)) ?_;(with_reducible refine (spec_l1Bit.calls (a0_0 == 97) t180 _ A19.out).mono ?_);rintro e w' ⟨rfl,⟨nd,rfl⟩⟩;refine ⟨_,rfl,?_⟩))
        go_ret
        exact ⟨_,by first|rfl|(simp [errW_none,errW_some]<;>rfl)|(simp [*,errW_none,errW_some]<;>rfl)|(simp [errW_none,errW_some];exact ⟨rfl,rfl⟩),by (with_reducible repeat (first|apply yH|apply yI|apply yJ));exact HO_5.out,by repeat (first|(with_reducible first|exact HB.out|apply yA|apply yB|apply yC|refine yD ?_ GE176.out)|exact HB.out)⟩
      ·replace c18:=Bool.eq_false_iff.mpr c18
       subst c18
       have H1:(if 0<(l0_1.length:Int) then ((spec_l7Marks.f kj9 ((rd_T44 l0_1 0).f0) ((rd_T44 l0_1 0).f1) a1).bind fun t183=>(if a0_0=42 then (spec_l7Marks.l0 kj9 a1 y177 t183 0) else (if a0_0 ≥ 50 then (spec_l7Marks.j3 kj9 a1 y177 t183 (decide (a0_0≤53)) a0_0 l0_1) else (spec_l7Marks.j3 kj9 a1 y177 t183 false a0_0 l0_1)))) else (none))=some r:=by rw [if_neg (show ¬ (false=true) by decide)] at H;exact H
       clear H
       have H:=H1
       clear H1
       by_cases c28:0<(l0_1.length:Int)
       ·rw [if_pos c28] at H
        have c28b0:decide (0<(l0_1.length:Int))=true:=decide_eq_true c28
        have c28b1:decide (0<l0_1.length)=true:=decide_eq_true (by omega)
        clear c28
        replace H:=Option.bind_eq_some_iff.mp H
        obtain ⟨t183,A290,H⟩:=H
        replace H:(if a0_0=42 then (spec_l7Marks.l0 kj9 a1 y177 t183 0) else (if a0_0 ≥ 50 then (spec_l7Marks.j3 kj9 a1 y177 t183 (decide (a0_0≤53)) a0_0 l0_1) else (spec_l7Marks.j3 kj9 a1 y177 t183 false a0_0 l0_1)))=some r:=H
        have A29:=Aside0.mk A290
        clear A290
        by_cases c30:a0_0=42
        ·rw [if_pos c30] at H
         have c30b0:(a0_0 == 42)=true:=beq_iff_eq.mpr c30
         have c30b1:(a0_0 != 42)=false:=bne_eq_false_iff_eq.mpr c30
         clear c30
         have H':=Aside0.mk H
         clear H
         have hcz31_0:wc.cell? ⟨gb176,0,none⟩=some (.int .u8 a0_0):=(blk_cell BK176.out 0).trans rfl
         have hcz31_1:wc.cell? ⟨gb176,1,none⟩=some (.slice A0_1 l0_1.length c0_1):=(blk_cell BK176.out 1).trans rfl
         have hfz31_0:=blk_frozen BK176.out 0
         have hfz31_1:=blk_frozen BK176.out 1
         have p182:0≤(0:Int):=(by omega)
         have q182:0<(l0_1.length:Int):=of_decide_eq_true (by first|(with_reducible assumption)|assumption)
         obtain ⟨ad182,A182_1,c182_1,e182,hx182_0,hx182_1,hl182_1,hi182_1⟩:=at_T44 HR0_1.out 0 p182 q182
         cases e182
         have qi182:(0<l0_1.length)=True:=eq_true (by omega)
         (try rw [show ((0:Int)).toNat=0 from rfl] at hx182_0)
         (try rw [show 0 * 2=0 from rfl] at hx182_0)
         (try rw [Addr.add_zero'] at hx182_0)
         (try rw [show ((0:Int)).toNat=0 from rfl] at hx182_1)
         (try rw [show 0 * 2=0 from rfl] at hx182_1)
         (try rw [Addr.add_zero'] at hx182_1)
         replace hx182_0:=(HB.out.cell (World.block_lt_of_cell? w _ hx182_0)).trans hx182_0
         replace hx182_1:=(HB.out.cell (World.block_lt_of_cell? w _ hx182_1)).trans hx182_1
         have HR182_1:=Aside0.mk hi182_1
         have HC182_1:=Aside0.mk hl182_1
         clear hi182_1 hl182_1
         replace p182:=eq_true p182
         replace q182:=eq_true q182
         go_wp2_with (first|((with_reducible refine gate_callee (f:=28) rfl ?_);refine goesL_ (some 45) rfl rfl Try.func28 (by kernel_rfl) rfl #[.agg #[.int .u8 ((rd_T44 l0_1 0).f0),.slice A182_1 ((rd_T44 l0_1 0).f1).length c182_1],.int .i64 a1] rfl (by (try simp only [List.map_toArray,List.map_cons,List.map_nil]);first|done|rfl|(simp only [List.length_drop,List.length_take];rfl)) ?_;(with_reducible refine (ih kj9 (by have:=HJ9.out;omega) ((rd_T44 l0_1 0).f0) _ _ ((rd_T44 l0_1 0).f1) a1 t183 _ ?side1 ?side2 A29.out).mono ?_);(case side1=>repeat (first|exact (Kd.C_below HR182_1.out HB.out)|(with_reducible refine Kd.C_alloc ?_ _)|(with_reducible refine Kd.C_drewN ?_ _)|(with_reducible refine Kd.C_drew ?_)));(case side2=>exact HC182_1.out);rintro e w32 ⟨v184,rfl,ho0,hb⟩;refine ⟨_,rfl,?_⟩;have n0_:=Aside0.mk (Kd.R_elder' (by (with_reducible repeat (first|apply yH|apply yI|apply yJ));exact HO_5.out) (Kd.R_base ho0) hb);have n1_:=Aside0.mk (Kd.R_lower (Kd.R_new' ho0 (Kd.R_lt (by (with_reducible repeat (first|apply yH|apply yI|apply yJ));exact HO_5.out))) (yQ (by repeat (first|(with_reducible first|exact HB.out|apply yA|apply yB|apply yC|refine yD ?_ GE176.out)|exact HB.out))));have n2_:=Aside0.mk (blk_below (g:=gb176) (o:=.cells #[.int .u8 a0_0,.slice (some ad182) l0_1.length c0_1] 44 (0,0)) (by (with_reducible repeat (first|refine yE ?_ _|refine yF ?_|refine yG ?_ _));exact BK176.out) hb);have n3_:=Aside0.mk (yP (by repeat (first|(with_reducible first|exact HB.out|apply yA|apply yB|apply yC|refine yD ?_ GE176.out)|exact HB.out)) hb);clear HO_5;clear BK176;clear HB;have HO_5:=n0_;have HO185:=n1_;have BK176:=n2_;have HB:=n3_;clear n0_ n1_ n2_ n3_;(try clear hb);(try clear hb2);(try clear hk);(try clear hi);(try clear ho0);have hcz33_0:w32.cell? ⟨gb176,0,none⟩=some (.int .u8 a0_0):=(blk_cell BK176.out 0).trans rfl;have hcz33_1:w32.cell? ⟨gb176,1,none⟩=some (.slice (some ad182) l0_1.length c0_1):=(blk_cell BK176.out 1).trans rfl;have hfz33_0:=blk_frozen BK176.out 0;have hfz33_1:=blk_frozen BK176.out 1))
         go_loopg [8] kj9 (fun kq v8 w'=>∃ (x5_2:List Bool) (x8_2:Int),v8=.int .i64 x8_2∧Aside0 (spec_l7Marks.l0 kq a1 x5_2 t183 x8_2=some r)∧Aside0 (kq≤kj9)∧Aside0 (Kd.R Kd.bool 4 w' w.heap.size (fun k_=>some k_≠(v184:Value).ownBlock) v178 x5_2)∧Aside0 (Kd.R Kd.bool 4 w' w.heap.size (fun k_=>some k_≠(v178:Value).ownBlock) v184 t183)∧Aside0 (w'.heap[gb176]?=some (.cells #[.int .u8 a0_0,(.slice (some ad182) l0_1.length c0_1)] 44 (0,0)))∧Aside0 (Below w.heap.size w w'))
         case atStart=>exact ⟨(y177),(0),(by first|rfl|(simp;done)|(simp [*];done)|(simp [Int.tmod_eq_emod_of_nonneg];done)),H',⟨Nat.le_refl _⟩,⟨by (with_reducible repeat (first|apply yH|apply yI|apply yJ));exact Kd.R_mono HO_5.out (fun _ hk=>by first|exact hk.2|trivial)⟩,⟨by (with_reducible repeat (first|apply yH|apply yI|apply yJ));exact Kd.R_mono HO185.out (fun _ hk=>by first|exact hk.2|trivial)⟩,⟨by (with_reducible repeat (first|refine yE ?_ _|refine yF ?_|refine yG ?_ _));exact BK176.out⟩,⟨by repeat (first|(with_reducible first|exact HB.out|apply yA|apply yB|apply yC|refine yD ?_ GE176.out)|exact HB.out)⟩⟩
         case round =>
          clear H'
          try clear c1
          try clear p1
          try clear q1
          try clear hx1
          try clear qi1
          try clear c2
          try clear p2
          try clear q2
          try clear hx2
          try clear hf2
          try clear c3
          try clear c3b0
          try clear c3b1
          try clear c4
          try clear c4b0
          try clear c4b1
          try clear c5
          try clear c5b0
          try clear c5b1
          try clear c15
          try clear c15b0
          try clear c15b1
          try clear c18
          try clear p18
          try clear q18
          try clear hx18
          try clear qi18
          try clear c20
          try clear c20b0
          try clear c21
          try clear c21b0
          try clear c22
          try clear c22b0
          try clear p23
          try clear q23
          try clear hx23
          try clear hf23
          try clear c28
          try clear c28b0
          try clear c28b1
          try clear c30
          try clear c30b0
          try clear c30b1
          try clear hcz14_0
          try clear hcz14_1
          try clear hcz16_0
          try clear hcz16_1
          try clear hcz17_0
          try clear hcz17_1
          try clear hcz24_0
          try clear hcz24_1
          try clear hcz27_0
          try clear hcz27_1
          try clear hcz31_0
          try clear hcz31_1
          try clear hcz33_0
          try clear hcz33_1
          try clear hcz9_0
          try clear hcz9_1
          try clear hfz14_0
          try clear hfz14_1
          try clear hfz16_0
          try clear hfz16_1
          try clear hfz17_0
          try clear hfz17_1
          try clear hfz24_0
          try clear hfz24_1
          try clear hfz27_0
          try clear hfz27_1
          try clear hfz31_0
          try clear hfz31_1
          try clear hfz33_0
          try clear hfz33_1
          try clear hfz9_0
          try clear hfz9_1
          try clear hx182_0
          try clear hx182_1
          try clear hx23_0
          try clear p182
          try clear p2
          try clear p23
          try clear q182
          try clear q23
          obtain ⟨x5_2,x8_2,rfl,HA,HK2,HO_5,HO_7,BK176,HB⟩:=hrel
          cases gk with
          | zero=>exact absurd HA.out (by simp [spec_l7Marks.l0])
          | succ k2 =>
           have H:=HA.out
           clear HA
           simp only [spec_l7Marks.l0] at H
           by_cases c34:x8_2<a1
           ·rw [if_pos c34] at H
            have c34b0:decide (x8_2<a1)=true:=decide_eq_true c34
            clear c34
            by_cases c35:0≤x8_2
            ·rw [if_pos c35] at H
             have c35b0:decide (0≤x8_2)=true:=decide_eq_true c35
             clear c35
             by_cases c36:x8_2<(x5_2.length:Int)
             ·rw [if_pos c36] at H
              have c36b0:decide (x8_2<(x5_2.length:Int))=true:=decide_eq_true c36
              clear c36
              obtain ⟨y186,hy186⟩:∃ y_:List Bool,y_=(x5_2.set (x8_2:Int).toNat (x8_2 == 0)):=⟨_,rfl⟩
              replace H:(spec_l7Marks.l1 k2 a1 y186 t183 x8_2 1)=some r:=by first|(rw [hy186];with_reducible exact H)|(have H2_:=(Option.bind_some _ _).symm.trans H;rw [hy186];with_reducible exact H2_)|(have H2_:=(Option.bind_some _ _).symm.trans H;with_reducible exact H2_)|with_reducible exact H|(rw [hy186];exact H)|exact H
              have Ny186:=Aside0.mk hy186
              clear hy186
              have H':=Aside0.mk H
              clear H
              have p37:0≤(x8_2:Int):=of_decide_eq_true (by first|(with_reducible assumption)|assumption)
              have q37:(x8_2:Int)<((x5_2.length:Int):Int):=of_decide_eq_true (by first|(with_reducible assumption)|assumption)
              obtain ⟨go37,co37,eo37,gb37,gl37,cl37,HG37⟩:=Kd.R_form HO_5.out (by omega)
              (first|cases eo37|(injection eo37 with ea_ en_ ec_;(first|subst ea_|(injection ea_ with ea_;subst ea_));subst ec_;clear en_))
              have GB37:=Aside0.mk gb37
              have GG37:=Aside0.mk HG37
              clear gb37 gl37 HG37
              obtain ⟨hx37_0,hf37_0⟩:=Kd.R_celln false HO_5.out (x8_2:Int) p37 q37
              replace p37:=eq_true p37
              replace q37:=eq_true q37
              have HP38:=Kd.R_putg HO_5.out (x8_2:Int) (x8_2 == 0)
              go_wp2_with (first|((with_reducible refine gate_store (t:=4) (p:=59) rfl ?_);refine store_event (t:=4) (p:=59) (v:=?vo_w39) (w1:=(wr.setCell ⟨go37,(x8_2:Int).toNat,none⟩ (.bool (x8_2 == 0)))) ?hg ?ho ?hn ?hr ?_;(case ho=>rfl);(case hg=>rfl);(case hn=>rfl);(case hr=>first|(go_simp;done)|(go_simp;rfl));intro w39 hw;have hg:wr.grownBy w39 (some go37):=(by rw [hw];exact HP38.2);have hp_:Kd.R Kd.bool 4 w39 w.heap.size (fun k_=>some k_≠(v184:Value).ownBlock) (.slice (some ⟨go37,0,none⟩) x5_2.length co37) y186:=(by rw [hw,Ny186.out];exact HP38.1);clear HP38;have n0_:=Aside0.mk (hp_);have n1_:=Aside0.mk (Kd.R_after (v:=(.slice (some ⟨go37,0,none⟩) x5_2.length co37)) (v1:=(.slice (some ⟨go37,0,none⟩) x5_2.length co37)) (ok:=(fun _=>True)) (by (with_reducible repeat (first|apply yH|apply yI|apply yJ));exact Kd.R_mono HO_7.out (fun _ hk=>⟨trivial,hk⟩)) hg (.inl rfl));have n2_:=Aside0.mk (blk_grown (g:=gb176) (o:=.cells #[.int .u8 a0_0,.slice (some ad182) l0_1.length c0_1] 44 (0,0)) (by (with_reducible repeat (first|refine yE ?_ _|refine yF ?_|refine yG ?_ _));exact BK176.out) hg (Kd.R_ne HO_5.out BK176.out (by decide)));have n3_:=Aside0.mk ((by rw [hw];exact yD (HB.out) GB37.out:Below w.heap.size w w39));clear HO_5;clear HO_7;clear BK176;clear HB;have HO_5:=n0_;have HO_7:=n1_;have BK176:=n2_;have HB:=n3_;clear n0_ n1_ n2_ n3_;clear hg hw hp_))
              go_loopg [9] k2 (fun kq v9 w'=>∃ (x5_3:List Bool) (x9_3:Int),v9=.int .i64 x9_3∧Aside0 (spec_l7Marks.l1 kq a1 x5_3 t183 x8_2 x9_3=some r)∧Aside0 (kq≤k2)∧Aside0 (Kd.R Kd.bool 4 w' w.heap.size (fun k_=>some k_≠(v184:Value).ownBlock) (.slice (some ⟨go37,0,none⟩) x5_2.length co37) x5_3)∧Aside0 (Kd.R Kd.bool 4 w' w.heap.size (fun k_=>some k_≠((.slice (some ⟨go37,0,none⟩) x5_2.length co37):Value).ownBlock) v184 t183)∧Aside0 (w'.heap[gb176]?=some (.cells #[.int .u8 a0_0,(.slice (some ad182) l0_1.length c0_1)] 44 (0,0)))∧Aside0 (Below w.heap.size w w'))
              case atStart=>exact ⟨(y186),(1),(by first|rfl|(simp;done)|(simp [*];done)|(simp [Int.tmod_eq_emod_of_nonneg];done)),H',⟨Nat.le_refl _⟩,⟨by (with_reducible repeat (first|apply yH|apply yI|apply yJ));exact HO_5.out⟩,⟨by (with_reducible repeat (first|apply yH|apply yI|apply yJ));exact Kd.R_mono HO_7.out (fun _ hk=>by first|exact hk.2|trivial)⟩,⟨by (with_reducible repeat (first|refine yE ?_ _|refine yF ?_|refine yG ?_ _));exact BK176.out⟩,⟨by repeat (first|(with_reducible first|exact HB.out|apply yA|apply yB|apply yC|refine yD ?_ GE176.out)|exact HB.out)⟩⟩
              case round =>
               clear H'
               try clear c1
               try clear p1
               try clear q1
               try clear hx1
               try clear qi1
               try clear c2
               try clear p2
               try clear q2
               try clear hx2
               try clear hf2
               try clear c3
               try clear c3b0
               try clear c3b1
               try clear p3
               try clear q3
               try clear hx3
               try clear hf3
               try clear c4
               try clear c4b0
               try clear c4b1
               try clear c5
               try clear c5b0
               try clear c5b1
               try clear c15
               try clear c15b0
               try clear c15b1
               try clear c18
               try clear p18
               try clear q18
               try clear hx18
               try clear qi18
               try clear c20
               try clear c20b0
               try clear c21
               try clear c21b0
               try clear c22
               try clear c22b0
               try clear p23
               try clear q23
               try clear hx23
               try clear hf23
               try clear c28
               try clear c28b0
               try clear c28b1
               try clear c30
               try clear c30b0
               try clear c30b1
               try clear c34
               try clear c34b0
               try clear c35
               try clear c35b0
               try clear c36
               try clear c36b0
               try clear p37
               try clear q37
               try clear hx37
               try clear hf37
               try clear hcz14_0
               try clear hcz14_1
               try clear hcz16_0
               try clear hcz16_1
               try clear hcz17_0
               try clear hcz17_1
               try clear hcz24_0
               try clear hcz24_1
               try clear hcz27_0
               try clear hcz27_1
               try clear hcz31_0
               try clear hcz31_1
               try clear hcz33_0
               try clear hcz33_1
               try clear hcz9_0
               try clear hcz9_1
               try clear hfz14_0
               try clear hfz14_1
               try clear hfz16_0
               try clear hfz16_1
               try clear hfz17_0
               try clear hfz17_1
               try clear hfz24_0
               try clear hfz24_1
               try clear hfz27_0
               try clear hfz27_1
               try clear hfz31_0
               try clear hfz31_1
               try clear hfz33_0
               try clear hfz33_1
               try clear hfz9_0
               try clear hfz9_1
               try clear hx182_0
               try clear hx182_1
               try clear hx23_0
               try clear hx37_0
               try clear p1
               try clear p18
               try clear p182
               try clear p2
               try clear p23
               try clear p37
               try clear q1
               try clear q18
               try clear q182
               try clear q2
               try clear q23
               try clear q37
               obtain ⟨x5_3,x9_3,rfl,HA,HK3,HO_5,HO_7,BK176,HB⟩:=hrel
               have hl5_3:=(Kd.R_reads' HO_5.out).1
               rw [hl5_3] at HO_5
               (try simp only [hl5_3])
               (try simp only [hl5_3] at BK176)
               (try simp only [hl5_3] at HO_7)
               cases gk with
               | zero=>exact absurd HA.out (by simp [spec_l7Marks.l1])
               | succ k3 =>
                have H:=HA.out
                clear HA
                simp only [spec_l7Marks.l1] at H
                by_cases c40:x9_3≤x8_2
                ·rw [if_pos c40] at H
                 have c40b0:decide (x9_3≤x8_2)=true:=decide_eq_true c40
                 clear c40
                 by_cases c41:0≤x8_2
                 ·rw [if_pos c41] at H
                  have c41b0:decide (0≤x8_2)=true:=decide_eq_true c41
                  clear c41
                  by_cases c42:x8_2<(x5_3.length:Int)
                  ·rw [if_pos c42] at H
                   have c42b0:decide (x8_2<(x5_3.length:Int))=true:=decide_eq_true c42
                   clear c42
                   obtain ⟨bq43,hbq43⟩:∃ b_:Bool,b_=(rdOf false x5_3 x8_2):=⟨_,rfl⟩
                   replace H:(if bq43=true then (spec_l7Marks.l1 k3 a1 (x5_3.set (x8_2:Int).toNat true) t183 x8_2 (wrap64 (x9_3+1))) else (if 0≤x9_3 then (if x9_3<(t183.length:Int) then (if rdOf false t183 x9_3=true then (if 0≤(wrap64 (x8_2 - x9_3)) then (if (wrap64 (x8_2 - x9_3))<(x5_3.length:Int) then (spec_l7Marks.l1 k3 a1 (x5_3.set (x8_2:Int).toNat (rdOf false x5_3 (wrap64 (x8_2 - x9_3)))) t183 x8_2 (wrap64 (x9_3+1))) else (none)) else (none)) else (spec_l7Marks.l1 k3 a1 (x5_3.set (x8_2:Int).toNat false) t183 x8_2 (wrap64 (x9_3+1)))) else (none)) else (none)))=some r:=by rw [← hbq43] at H;exact H
                   have Nbq43:=Aside0.mk hbq43
                   clear hbq43
                   by_cases c44:bq43=true
                   ·subst c44
                    have H1:(spec_l7Marks.l1 k3 a1 (x5_3.set (x8_2:Int).toNat true) t183 x8_2 (wrap64 (x9_3+1)))=some r:=by rw [if_pos rfl] at H;exact H
                    clear H
                    have H:=H1
                    clear H1
                    obtain ⟨y188,hy188⟩:∃ y_:List Bool,y_=(x5_3.set (x8_2:Int).toNat true):=⟨_,rfl⟩
                    replace H:(spec_l7Marks.l1 k3 a1 y188 t183 x8_2 (wrap64 (x9_3+1)))=some r:=by first|(rw [hy188];with_reducible exact H)|(have H2_:=(Option.bind_some _ _).symm.trans H;rw [hy188];with_reducible exact H2_)|(have H2_:=(Option.bind_some _ _).symm.trans H;with_reducible exact H2_)|with_reducible exact H|(rw [hy188];exact H)|exact H
                    have Ny188:=Aside0.mk hy188
                    clear hy188
                    have H':=Aside0.mk H
                    clear H
                    have p187:0≤(x8_2:Int):=of_decide_eq_true (by first|(with_reducible assumption)|assumption)
                    have q187:x8_2<(x5_3.length:Int):=of_decide_eq_true (by first|(with_reducible assumption)|assumption)
                    obtain ⟨ad187,e187,hx187_0⟩:=Kd.at_bool (Kd.R_reads' HO_5.out).2.2 x8_2 p187 q187
                    (try rw [← Nbq43.out] at hx187_0)
                    obtain rfl:(⟨go37,0,none⟩:Addr)=ad187:=(by injection e187)
                    (first|simp only [add_plain] at hx187_0|simp only [add_at] at hx187_0|simp only [Addr.add,Nat.zero_add] at hx187_0|skip)
                    replace p187:=eq_true p187
                    replace q187:=eq_true q187
                    have p45:0≤(x8_2:Int):=of_decide_eq_true (by first|(with_reducible assumption)|assumption)
                    have q45:(x8_2:Int)<((x5_3.length:Int):Int):=of_decide_eq_true (by first|(with_reducible assumption)|assumption)
                    obtain ⟨hx45_0,hf45_0⟩:=Kd.R_celln false HO_5.out (x8_2:Int) p45 q45
                    replace p45:=eq_true p45
                    replace q45:=eq_true q45
                    have HP46:=Kd.R_putg HO_5.out (x8_2:Int) true
                    go_wp2_with (first|((with_reducible refine gate_store (t:=4) (p:=85) rfl ?_);refine store_event (t:=4) (p:=85) (v:=?vo_w47) (w1:=(wr.setCell ⟨go37,(x8_2:Int).toNat,none⟩ (.bool true))) ?hg ?ho ?hn ?hr ?_;(case ho=>rfl);(case hg=>rfl);(case hn=>rfl);(case hr=>first|(go_simp;done)|(go_simp;rfl));intro w47 hw;have hg:wr.grownBy w47 (some go37):=(by rw [hw];exact HP46.2);have hp_:Kd.R Kd.bool 4 w47 w.heap.size (fun k_=>some k_≠(v184:Value).ownBlock) (.slice (some ⟨go37,0,none⟩) x5_3.length co37) y188:=(by rw [hw,Ny188.out];exact HP46.1);clear HP46;have n0_:=Aside0.mk (hp_);have n1_:=Aside0.mk (Kd.R_after (v:=(.slice (some ⟨go37,0,none⟩) x5_3.length co37)) (v1:=(.slice (some ⟨go37,0,none⟩) x5_3.length co37)) (ok:=(fun _=>True)) (by (with_reducible repeat (first|apply yH|apply yI|apply yJ));exact Kd.R_mono HO_7.out (fun _ hk=>⟨trivial,hk⟩)) hg (.inl rfl));have n2_:=Aside0.mk (blk_grown (g:=gb176) (o:=.cells #[.int .u8 a0_0,.slice (some ad182) l0_1.length c0_1] 44 (0,0)) (by (with_reducible repeat (first|refine yE ?_ _|refine yF ?_|refine yG ?_ _));exact BK176.out) hg (Kd.R_ne HO_5.out BK176.out (by decide)));have n3_:=Aside0.mk ((by rw [hw];exact yD (HB.out) GB37.out:Below w.heap.size w w47));clear HO_5;clear HO_7;clear BK176;clear HB;have HO_5:=n0_;have HO_7:=n1_;have BK176:=n2_;have HB:=n3_;clear n0_ n1_ n2_ n3_;clear hg hw hp_))
                    (try simp only [← hl5_3])
                    go_roundg k3
                    case measure=>have:=HJ9.out;have:=HK2.out;have:=HK3.out;omega
                    case rel=>exact ⟨(y188),(wrap64 (x9_3+1)),(by first|rfl|(simp;done)|(simp [*];done)|(simp [Int.tmod_eq_emod_of_nonneg];done)),H',⟨by have:=HJ9.out;have:=HK2.out;have:=HK3.out;omega⟩,⟨by (try simp only [hl5_3]);(with_reducible repeat (first|apply yH|apply yI|apply yJ));exact HO_5.out⟩,⟨by (try simp only [hl5_3]);(with_reducible repeat (first|apply yH|apply yI|apply yJ));exact Kd.R_mono HO_7.out (fun _ hk=>by first|exact hk.2|trivial)⟩,⟨by (try simp only [hl5_3]);(with_reducible repeat (first|refine yE ?_ _|refine yF ?_|refine yG ?_ _));exact BK176.out⟩,⟨by repeat (first|(with_reducible first|exact HB.out|apply yA|apply yB|apply yC|refine yD ?_ GE176.out)|exact HB.out)⟩⟩
                   ·replace c44:=Bool.eq_false_iff.mpr c44
                    subst c44
                    have H1:(if 0≤x9_3 then (if x9_3<(t183.length:Int) then (if rdOf false t183 x9_3=true then (if 0≤(wrap64 (x8_2 - x9_3)) then (if (wrap64 (x8_2 - x9_3))<(x5_3.length:Int) then (spec_l7Marks.l1 k3 a1 (x5_3.set (x8_2:Int).toNat (rdOf false x5_3 (wrap64 (x8_2 - x9_3)))) t183 x8_2 (wrap64 (x9_3+1))) else (none)) else (none)) else (spec_l7Marks.l1 k3 a1 (x5_3.set (x8_2:Int).toNat false) t183 x8_2 (wrap64 (x9_3+1)))) else (none)) else (none))=some r:=by rw [if_neg (show ¬ (false=true) by decide)] at H;exact H
                    clear H
                    have H:=H1
                    clear H1
                    by_cases c48:0≤x9_3
                    ·rw [if_pos c48] at H
                     have c48b0:decide (0≤x9_3)=true:=decide_eq_true c48
                     clear c48
                     by_cases c49:x9_3<(t183.length:Int)
                     ·rw [if_pos c49] at H
                      have c49b0:decide (x9_3<(t183.length:Int))=true:=decide_eq_true c49
                      clear c49
                      obtain ⟨bq50,hbq50⟩:∃ b_:Bool,b_=(rdOf false t183 x9_3):=⟨_,rfl⟩
                      replace H:(if bq50=true then (if 0≤(wrap64 (x8_2 - x9_3)) then (if (wrap64 (x8_2 - x9_3))<(x5_3.length:Int) then (spec_l7Marks.l1 k3 a1 (x5_3.set (x8_2:Int).toNat (rdOf false x5_3 (wrap64 (x8_2 - x9_3)))) t183 x8_2 (wrap64 (x9_3+1))) else (none)) else (none)) else (spec_l7Marks.l1 k3 a1 (x5_3.set (x8_2:Int).toNat false) t183 x8_2 (wrap64 (x9_3+1))))=some r:=by rw [← hbq50] at H;exact H
                      have Nbq50:=Aside0.mk hbq50
                      clear hbq50
                      by_cases c51:bq50=true
                      ·subst c51
                       have H1:(if 0≤(wrap64 (x8_2 - x9_3)) then (if (wrap64 (x8_2 - x9_3))<(x5_3.length:Int) then (spec_l7Marks.l1 k3 a1 (x5_3.set (x8_2:Int).toNat (rdOf false x5_3 (wrap64 (x8_2 - x9_3)))) t183 x8_2 (wrap64 (x9_3+1))) else (none)) else (none))=some r:=by rw [if_pos rfl] at H;exact H
                       clear H
                       have H:=H1
                       clear H1
                       obtain ⟨ji52,hji52⟩:∃ j_:Int,(wrap64 (x8_2 - x9_3))=j_:=⟨_,rfl⟩
                       replace H:(if 0≤(ji52) then (if (ji52)<(x5_3.length:Int) then (spec_l7Marks.l1 k3 a1 (x5_3.set (x8_2:Int).toNat (rdOf false x5_3 (ji52))) t183 x8_2 (wrap64 (x9_3+1))) else (none)) else (none))=some r:=by first|(rw [hji52] at H;exact H)|(simp only [hji52] at H ⊢;exact H)
                       have hji52w:(IntKind.i64.wrap (x8_2 - x9_3))=ji52:=(i64_w _).trans hji52
                       by_cases c53:0≤(ji52)
                       ·rw [if_pos c53] at H
                        have c53b0:decide (0≤(ji52))=true:=decide_eq_true c53
                        clear c53
                        by_cases c54:(ji52)<(x5_3.length:Int)
                        ·rw [if_pos c54] at H
                         have c54b0:decide ((ji52)<(x5_3.length:Int))=true:=decide_eq_true c54
                         clear c54
                         obtain ⟨y191,hy191⟩:∃ y_:List Bool,y_=(x5_3.set (x8_2:Int).toNat (rdOf false x5_3 (ji52))):=⟨_,rfl⟩
                         replace H:(spec_l7Marks.l1 k3 a1 y191 t183 x8_2 (wrap64 (x9_3+1)))=some r:=by first|(rw [hy191];with_reducible exact H)|(have H2_:=(Option.bind_some _ _).symm.trans H;rw [hy191];with_reducible exact H2_)|(have H2_:=(Option.bind_some _ _).symm.trans H;with_reducible exact H2_)|with_reducible exact H|(rw [hy191];exact H)|exact H
                         have Ny191:=Aside0.mk hy191
                         clear hy191
                         have H':=Aside0.mk H
                         clear H
                         have p187:0≤(x8_2:Int):=of_decide_eq_true (by first|(with_reducible assumption)|assumption)
                         have q187:x8_2<(x5_3.length:Int):=of_decide_eq_true (by first|(with_reducible assumption)|assumption)
                         obtain ⟨ad187,e187,hx187_0⟩:=Kd.at_bool (Kd.R_reads' HO_5.out).2.2 x8_2 p187 q187
                         (try rw [← Nbq43.out] at hx187_0)
                         (try rw [← Nbq50.out] at hx187_0)
                         obtain rfl:(⟨go37,0,none⟩:Addr)=ad187:=(by injection e187)
                         (first|simp only [add_plain] at hx187_0|simp only [add_at] at hx187_0|simp only [Addr.add,Nat.zero_add] at hx187_0|skip)
                         replace p187:=eq_true p187
                         replace q187:=eq_true q187
                         have HO_5k:=HO_5
                         obtain ⟨Ao56,co56,eo56⟩:=Kd.R_slice HO_7.out
                         subst eo56
                         have HO_5:=HO_5k
                         have p189:0≤(x9_3:Int):=of_decide_eq_true (by first|(with_reducible assumption)|assumption)
                         have q189:x9_3<(t183.length:Int):=of_decide_eq_true (by first|(with_reducible assumption)|assumption)
                         obtain ⟨ad189,e189,hx189_0⟩:=Kd.at_bool (Kd.R_reads' HO_7.out).2.2 x9_3 p189 q189
                         (try rw [← Nbq43.out] at hx189_0)
                         (try rw [← Nbq50.out] at hx189_0)
                         cases e189
                         replace p189:=eq_true p189
                         replace q189:=eq_true q189
                         have p190:0≤((ji52):Int):=of_decide_eq_true (by first|(with_reducible assumption)|assumption)
                         have q190:(ji52)<(x5_3.length:Int):=of_decide_eq_true (by first|(with_reducible assumption)|assumption)
                         obtain ⟨ad190,e190,hx190_0⟩:=Kd.at_bool (Kd.R_reads' HO_5.out).2.2 (ji52) p190 q190
                         (try rw [← Nbq43.out] at hx190_0)
                         (try rw [← Nbq50.out] at hx190_0)
                         obtain rfl:(⟨go37,0,none⟩:Addr)=ad190:=(by injection e190)
                         (first|simp only [add_plain] at hx190_0|simp only [add_at] at hx190_0|simp only [Addr.add,Nat.zero_add] at hx190_0|skip)
                         replace p190:=eq_true p190
                         replace q190:=eq_true q190
                         have p55:0≤(x8_2:Int):=of_decide_eq_true (by first|(with_reducible assumption)|assumption)
                         have q55:(x8_2:Int)<((x5_3.length:Int):Int):=of_decide_eq_true (by first|(with_reducible assumption)|assumption)
                         obtain ⟨hx55_0,hf55_0⟩:=Kd.R_celln false HO_5.out (x8_2:Int) p55 q55
                         replace p55:=eq_true p55
                         replace q55:=eq_true q55
                         have HP57:=Kd.R_putg HO_5.out (x8_2:Int) (rdOf false x5_3 (ji52))
                         go_wp2_with (first|((with_reducible refine gate_store (t:=4) (p:=85) rfl ?_);refine store_event (t:=4) (p:=85) (v:=?vo_w58) (w1:=(wr.setCell ⟨go37,(x8_2:Int).toNat,none⟩ (.bool (rdOf false x5_3 (ji52))))) ?hg ?ho ?hn ?hr ?_;(case ho=>rfl);(case hg=>rfl);(case hn=>rfl);(case hr=>first|(go_simp;done)|(go_simp;rfl));intro w58 hw;have hg:wr.grownBy w58 (some go37):=(by rw [hw];exact HP57.2);have hp_:Kd.R Kd.bool 4 w58 w.heap.size (fun k_=>some k_≠(.slice (some ad189) t183.length co56:Value).ownBlock) (.slice (some ⟨go37,0,none⟩) x5_3.length co37) y191:=(by rw [hw,Ny191.out];exact HP57.1);clear HP57;have n0_:=Aside0.mk (hp_);have n1_:=Aside0.mk (Kd.R_after (v:=(.slice (some ⟨go37,0,none⟩) x5_3.length co37)) (v1:=(.slice (some ⟨go37,0,none⟩) x5_3.length co37)) (ok:=(fun _=>True)) (by (with_reducible repeat (first|apply yH|apply yI|apply yJ));exact Kd.R_mono HO_7.out (fun _ hk=>⟨trivial,hk⟩)) hg (.inl rfl));have n2_:=Aside0.mk (blk_grown (g:=gb176) (o:=.cells #[.int .u8 a0_0,.slice (some ad182) l0_1.length c0_1] 44 (0,0)) (by (with_reducible repeat (first|refine yE ?_ _|refine yF ?_|refine yG ?_ _));exact BK176.out) hg (Kd.R_ne HO_5.out BK176.out (by decide)));have n3_:=Aside0.mk ((by rw [hw];exact yD (HB.out) GB37.out:Below w.heap.size w w58));clear HO_5;clear HO_7;clear BK176;clear HB;have HO_5:=n0_;have HO_7:=n1_;have BK176:=n2_;have HB:=n3_;clear n0_ n1_ n2_ n3_;clear hg hw hp_))
                         (try simp only [← hl5_3])
                         go_roundg k3
                         case measure=>have:=HJ9.out;have:=HK2.out;have:=HK3.out;omega
                         case rel=>exact ⟨(y191),(wrap64 (x9_3+1)),(by first|rfl|(simp;done)|(simp [*];done)|(simp [Int.tmod_eq_emod_of_nonneg];done)),H',⟨by have:=HJ9.out;have:=HK2.out;have:=HK3.out;omega⟩,⟨by (try simp only [hl5_3]);(with_reducible repeat (first|apply yH|apply yI|apply yJ));exact HO_5.out⟩,⟨by (try simp only [hl5_3]);(with_reducible repeat (first|apply yH|apply yI|apply yJ));exact Kd.R_mono HO_7.out (fun _ hk=>by first|exact hk.2|trivial)⟩,⟨by (try simp only [hl5_3]);(with_reducible repeat (first|refine yE ?_ _|refine yF ?_|refine yG ?_ _));exact BK176.out⟩,⟨by repeat (first|(with_reducible first|exact HB.out|apply yA|apply yB|apply yC|refine yD ?_ GE176.out)|exact HB.out)⟩⟩
                        ·rw [if_neg c54] at H
                         exact absurd H (by simp)
                       ·rw [if_neg c53] at H
                        exact absurd H (by simp)
                      ·replace c51:=Bool.eq_false_iff.mpr c51
                       subst c51
                       have H1:(spec_l7Marks.l1 k3 a1 (x5_3.set (x8_2:Int).toNat false) t183 x8_2 (wrap64 (x9_3+1)))=some r:=by rw [if_neg (show ¬ (false=true) by decide)] at H;exact H
                       clear H
                       have H:=H1
                       clear H1
                       obtain ⟨y192,hy192⟩:∃ y_:List Bool,y_=(x5_3.set (x8_2:Int).toNat false):=⟨_,rfl⟩
                       replace H:(spec_l7Marks.l1 k3 a1 y192 t183 x8_2 (wrap64 (x9_3+1)))=some r:=by first|(rw [hy192];with_reducible exact H)|(have H2_:=(Option.bind_some _ _).symm.trans H;rw [hy192];with_reducible exact H2_)|(have H2_:=(Option.bind_some _ _).symm.trans H;with_reducible exact H2_)|with_reducible exact H|(rw [hy192];exact H)|exact H
                       have Ny192:=Aside0.mk hy192
                       clear hy192
                       have H':=Aside0.mk H
                       clear H
                       have p187:0≤(x8_2:Int):=of_decide_eq_true (by first|(with_reducible assumption)|assumption)
                       have q187:x8_2<(x5_3.length:Int):=of_decide_eq_true (by first|(with_reducible assumption)|assumption)
                       obtain ⟨ad187,e187,hx187_0⟩:=Kd.at_bool (Kd.R_reads' HO_5.out).2.2 x8_2 p187 q187
                       (try rw [← Nbq43.out] at hx187_0)
                       (try rw [← Nbq50.out] at hx187_0)
                       obtain rfl:(⟨go37,0,none⟩:Addr)=ad187:=(by injection e187)
                       (first|simp only [add_plain] at hx187_0|simp only [add_at] at hx187_0|simp only [Addr.add,Nat.zero_add] at hx187_0|skip)
                       replace p187:=eq_true p187
                       replace q187:=eq_true q187
                       have HO_5k:=HO_5
                       obtain ⟨Ao60,co60,eo60⟩:=Kd.R_slice HO_7.out
                       subst eo60
                       have HO_5:=HO_5k
                       have p189:0≤(x9_3:Int):=of_decide_eq_true (by first|(with_reducible assumption)|assumption)
                       have q189:x9_3<(t183.length:Int):=of_decide_eq_true (by first|(with_reducible assumption)|assumption)
                       obtain ⟨ad189,e189,hx189_0⟩:=Kd.at_bool (Kd.R_reads' HO_7.out).2.2 x9_3 p189 q189
                       (try rw [← Nbq43.out] at hx189_0)
                       (try rw [← Nbq50.out] at hx189_0)
                       cases e189
                       replace p189:=eq_true p189
                       replace q189:=eq_true q189
                       have p59:0≤(x8_2:Int):=of_decide_eq_true (by first|(with_reducible assumption)|assumption)
                       have q59:(x8_2:Int)<((x5_3.length:Int):Int):=of_decide_eq_true (by first|(with_reducible assumption)|assumption)
                       obtain ⟨hx59_0,hf59_0⟩:=Kd.R_celln false HO_5.out (x8_2:Int) p59 q59
                       replace p59:=eq_true p59
                       replace q59:=eq_true q59
                       have HP61:=Kd.R_putg HO_5.out (x8_2:Int) false
                       go_wp2_with (first|((with_reducible refine gate_store (t:=4) (p:=85) rfl ?_);refine store_event (t:=4) (p:=85) (v:=?vo_w62) (w1:=(wr.setCell ⟨go37,(x8_2:Int).toNat,none⟩ (.bool false))) ?hg ?ho ?hn ?hr ?_;(case ho=>rfl);(case hg=>rfl);(case hn=>rfl);(case hr=>first|(go_simp;done)|(go_simp;rfl));intro w62 hw;have hg:wr.grownBy w62 (some go37):=(by rw [hw];exact HP61.2);have hp_:Kd.R Kd.bool 4 w62 w.heap.size (fun k_=>some k_≠(.slice (some ad189) t183.length co60:Value).ownBlock) (.slice (some ⟨go37,0,none⟩) x5_3.length co37) y192:=(by rw [hw,Ny192.out];exact HP61.1);clear HP61;have n0_:=Aside0.mk (hp_);have n1_:=Aside0.mk (Kd.R_after (v:=(.slice (some ⟨go37,0,none⟩) x5_3.length co37)) (v1:=(.slice (some ⟨go37,0,none⟩) x5_3.length co37)) (ok:=(fun _=>True)) (by (with_reducible repeat (first|apply yH|apply yI|apply yJ));exact Kd.R_mono HO_7.out (fun _ hk=>⟨trivial,hk⟩)) hg (.inl rfl));have n2_:=Aside0.mk (blk_grown (g:=gb176) (o:=.cells #[.int .u8 a0_0,.slice (some ad182) l0_1.length c0_1] 44 (0,0)) (by (with_reducible repeat (first|refine yE ?_ _|refine yF ?_|refine yG ?_ _));exact BK176.out) hg (Kd.R_ne HO_5.out BK176.out (by decide)));have n3_:=Aside0.mk ((by rw [hw];exact yD (HB.out) GB37.out:Below w.heap.size w w62));clear HO_5;clear HO_7;clear BK176;clear HB;have HO_5:=n0_;have HO_7:=n1_;have BK176:=n2_;have HB:=n3_;clear n0_ n1_ n2_ n3_;clear hg hw hp_))
                       (try simp only [← hl5_3])
                       go_roundg k3
                       case measure=>have:=HJ9.out;have:=HK2.out;have:=HK3.out;omega
                       case rel=>exact ⟨(y192),(wrap64 (x9_3+1)),(by first|rfl|(simp;done)|(simp [*];done)|(simp [Int.tmod_eq_emod_of_nonneg];done)),H',⟨by have:=HJ9.out;have:=HK2.out;have:=HK3.out;omega⟩,⟨by (try simp only [hl5_3]);(with_reducible repeat (first|apply yH|apply yI|apply yJ));exact HO_5.out⟩,⟨by (try simp only [hl5_3]);(with_reducible repeat (first|apply yH|apply yI|apply yJ));exact Kd.R_mono HO_7.out (fun _ hk=>by first|exact hk.2|trivial)⟩,⟨by (try simp only [hl5_3]);(with_reducible repeat (first|refine yE ?_ _|refine yF ?_|refine yG ?_ _));exact BK176.out⟩,⟨by repeat (first|(with_reducible first|exact HB.out|apply yA|apply yB|apply yC|refine yD ?_ GE176.out)|exact HB.out)⟩⟩
                     ·rw [if_neg c49] at H
                      exact absurd H (by simp)
                    ·rw [if_neg c48] at H
                     exact absurd H (by simp)
                  ·rw [if_neg c42] at H
                   exact absurd H (by simp)
                 ·rw [if_neg c41] at H
                  exact absurd H (by simp)
                ·rw [if_neg c40] at H
                 have c40b0:decide (x9_3≤x8_2)=false:=decide_eq_false c40
                 clear c40
                 have H':=Aside0.mk H
                 clear H
                 go_wp2
                 (try simp only [← hl5_3])
                 go_roundg k3
                 case measure=>have:=HJ9.out;have:=HK2.out;have:=HK3.out;omega
                 case rel=>exact ⟨(x5_3),(wrap64 (x8_2+1)),(by first|rfl|(simp;done)|(simp [*];done)|(simp [Int.tmod_eq_emod_of_nonneg];done)),H',⟨by have:=HJ9.out;have:=HK2.out;have:=HK3.out;omega⟩,⟨by (try simp only [hl5_3]);(with_reducible repeat (first|apply yH|apply yI|apply yJ));exact HO_5.out⟩,⟨by (try simp only [hl5_3]);(with_reducible repeat (first|apply yH|apply yI|apply yJ));exact HO_7.out⟩,⟨by (try simp only [hl5_3]);(with_reducible repeat (first|refine yE ?_ _|refine yF ?_|refine yG ?_ _));exact BK176.out⟩,⟨by repeat (first|(with_reducible first|exact HB.out|apply yA|apply yB|apply yC|refine yD ?_ GE176.out)|exact HB.out)⟩⟩
             ·rw [if_neg c36] at H
              exact absurd H (by simp)
            ·rw [if_neg c35] at H
             exact absurd H (by simp)
           ·rw [if_neg c34] at H
            have c34b0:decide (x8_2<a1)=false:=decide_eq_false c34
            clear c34
            obtain rfl:=Option.some.inj H
            go_wp2
            go_ret
            exact ⟨_,by first|rfl|(simp [errW_none,errW_some]<;>rfl)|(simp [*,errW_none,errW_some]<;>rfl)|(simp [errW_none,errW_some];exact ⟨rfl,rfl⟩),by (with_reducible repeat (first|apply yH|apply yI|apply yJ));exact Kd.R_mono HO_5.out (fun _ hk=>trivial),by repeat (first|(with_reducible first|exact HB.out|apply yA|apply yB|apply yC|refine yD ?_ GE176.out)|exact HB.out)⟩
        ·rw [if_neg c30] at H
         have c30b0:(a0_0 == 42)=false:=beq_eq_false_iff_ne.mpr c30
         have c30b1:(a0_0 != 42)=true:=bne_iff_ne.mpr c30
         have HC63:=Aside0.mk H
         clear H
         have hcz64_0:wc.cell? ⟨gb176,0,none⟩=some (.int .u8 a0_0):=(blk_cell BK176.out 0).trans rfl
         have hcz64_1:wc.cell? ⟨gb176,1,none⟩=some (.slice A0_1 l0_1.length c0_1):=(blk_cell BK176.out 1).trans rfl
         have hfz64_0:=blk_frozen BK176.out 0
         have hfz64_1:=blk_frozen BK176.out 1
         have p182:0≤(0:Int):=(by omega)
         have q182:0<(l0_1.length:Int):=of_decide_eq_true (by first|(with_reducible assumption)|assumption)
         obtain ⟨ad182,A182_1,c182_1,e182,hx182_0,hx182_1,hl182_1,hi182_1⟩:=at_T44 HR0_1.out 0 p182 q182
         cases e182
         have qi182:(0<l0_1.length)=True:=eq_true (by omega)
         (try rw [show ((0:Int)).toNat=0 from rfl] at hx182_0)
         (try rw [show 0 * 2=0 from rfl] at hx182_0)
         (try rw [Addr.add_zero'] at hx182_0)
         (try rw [show ((0:Int)).toNat=0 from rfl] at hx182_1)
         (try rw [show 0 * 2=0 from rfl] at hx182_1)
         (try rw [Addr.add_zero'] at hx182_1)
         replace hx182_0:=(HB.out.cell (World.block_lt_of_cell? w _ hx182_0)).trans hx182_0
         replace hx182_1:=(HB.out.cell (World.block_lt_of_cell? w _ hx182_1)).trans hx182_1
         have HR182_1:=Aside0.mk hi182_1
         have HC182_1:=Aside0.mk hl182_1
         clear hi182_1 hl182_1
         replace p182:=eq_true p182
         replace q182:=eq_true q182
         go_upto_region 20 with (first|((with_reducible refine gate_callee (f:=28) rfl ?_);refine goesL_ (some 45) rfl rfl Try.func28 (by kernel_rfl) rfl #[.agg #[.int .u8 ((rd_T44 l0_1 0).f0),.slice A182_1 ((rd_T44 l0_1 0).f1).length c182_1],.int .i64 a1] rfl (by (try simp only [List.map_toArray,List.map_cons,List.map_nil]);first|done|rfl|(simp only [List.length_drop,List.length_take];rfl)) ?_;(with_reducible refine (ih kj9 (by have:=HJ9.out;omega) ((rd_T44 l0_1 0).f0) _ _ ((rd_T44 l0_1 0).f1) a1 t183 _ ?side1 ?side2 A29.out).mono ?_);(case side1=>repeat (first|exact (Kd.C_below HR182_1.out HB.out)|(with_reducible refine Kd.C_alloc ?_ _)|(with_reducible refine Kd.C_drewN ?_ _)|(with_reducible refine Kd.C_drew ?_)));(case side2=>exact HC182_1.out);rintro e w65 ⟨v184,rfl,ho0,hb⟩;refine ⟨_,rfl,?_⟩;have n0_:=Aside0.mk (Kd.R_elder' (by (with_reducible repeat (first|apply yH|apply yI|apply yJ));exact HO_5.out) (Kd.R_base ho0) hb);have n1_:=Aside0.mk (Kd.R_lower (Kd.R_new' ho0 (Kd.R_lt (by (with_reducible repeat (first|apply yH|apply yI|apply yJ));exact HO_5.out))) (yQ (by repeat (first|(with_reducible first|exact HB.out|apply yA|apply yB|apply yC|refine yD ?_ GE176.out)|exact HB.out))));have n2_:=Aside0.mk (blk_below (g:=gb176) (o:=.cells #[.int .u8 a0_0,.slice (some ad182) l0_1.length c0_1] 44 (0,0)) (by (with_reducible repeat (first|refine yE ?_ _|refine yF ?_|refine yG ?_ _));exact BK176.out) hb);have n3_:=Aside0.mk (yP (by repeat (first|(with_reducible first|exact HB.out|apply yA|apply yB|apply yC|refine yD ?_ GE176.out)|exact HB.out)) hb);clear HO_5;clear BK176;clear HB;have HO_5:=n0_;have HO185:=n1_;have BK176:=n2_;have HB:=n3_;clear n0_ n1_ n2_ n3_;(try clear hb);(try clear hb2);(try clear hk);(try clear hi);(try clear ho0);have hcz66_0:w65.cell? ⟨gb176,0,none⟩=some (.int .u8 a0_0):=(blk_cell BK176.out 0).trans rfl;have hcz66_1:w65.cell? ⟨gb176,1,none⟩=some (.slice (some ad182) l0_1.length c0_1):=(blk_cell BK176.out 1).trans rfl;have hfz66_0:=blk_frozen BK176.out 0;have hfz66_1:=blk_frozen BK176.out 1))
         (try simp only [Act.put,yK,yL,yM])
         go_cut [87] (fun v87 wc=>∃ (kq:Nat) (x87_62:Bool),v87=.bool x87_62∧Aside0 (spec_l7Marks.j3 kq a1 y177 t183 x87_62 a0_0 l0_1=some r)∧Aside0 (kq≤kj9)∧Aside0 (Kd.R Kd.bool 4 wc w.heap.size (fun k_=>some k_≠(v184:Value).ownBlock) v178 y177)∧Aside0 (Kd.R Kd.bool 4 wc w.heap.size (fun k_=>some k_≠(v178:Value).ownBlock) v184 t183)∧Aside0 (wc.heap[gb176]?=some (.cells #[.int .u8 a0_0,(.slice (some ad182) l0_1.length c0_1)] 44 (0,0)))∧Aside0 (Below w.heap.size w wc))
         case first =>
          have H:=HC63.out
          clear HC63
          by_cases c67:a0_0 ≥ 50
          ·rw [if_pos c67] at H
           have c67b0:decide (50≤a0_0)=true:=decide_eq_true c67
           clear c67
           (first|rw [c67b0]|(simp only [i64_w,i32_w];rw [c67b0])|skip)
           have H':=Aside0.mk H
           clear H
           have hcz68_0:w65.cell? ⟨gb176,0,none⟩=some (.int .u8 a0_0):=(blk_cell BK176.out 0).trans rfl
           have hcz68_1:w65.cell? ⟨gb176,1,none⟩=some (.slice (some ad182) l0_1.length c0_1):=(blk_cell BK176.out 1).trans rfl
           have hfz68_0:=blk_frozen BK176.out 0
           have hfz68_1:=blk_frozen BK176.out 1
           go_wp2
           go_meet
           case rel=>exact ⟨_,(decide (a0_0≤53)),(by first|rfl|(simp;done)|(simp [*];done)|(simp [Int.tmod_eq_emod_of_nonneg];done)),H',⟨by have:=HJ9.out;first|omega|exact Nat.le_refl _⟩,⟨by (with_reducible repeat (first|apply yH|apply yI|apply yJ));exact Kd.R_mono HO_5.out (fun _ hk=>by first|exact hk.2|trivial)⟩,⟨by (with_reducible repeat (first|apply yH|apply yI|apply yJ));exact Kd.R_mono HO185.out (fun _ hk=>by first|exact hk.2|trivial)⟩,⟨by (with_reducible repeat (first|refine yE ?_ _|refine yF ?_|refine yG ?_ _));exact BK176.out⟩,⟨by repeat (first|(with_reducible first|exact HB.out|apply yA|apply yB|apply yC|refine yD ?_ GE176.out)|exact HB.out)⟩⟩
          ·rw [if_neg c67] at H
           have c67b0:decide (50≤a0_0)=false:=decide_eq_false c67
           clear c67
           (first|rw [c67b0]|(simp only [i64_w,i32_w];rw [c67b0])|skip)
           have H':=Aside0.mk H
           clear H
           have hcz69_0:w65.cell? ⟨gb176,0,none⟩=some (.int .u8 a0_0):=(blk_cell BK176.out 0).trans rfl
           have hcz69_1:w65.cell? ⟨gb176,1,none⟩=some (.slice (some ad182) l0_1.length c0_1):=(blk_cell BK176.out 1).trans rfl
           have hfz69_0:=blk_frozen BK176.out 0
           have hfz69_1:=blk_frozen BK176.out 1
           go_wp2
           go_meet
           case rel=>exact ⟨_,(false),(by first|rfl|(simp;done)|(simp [*];done)|(simp [Int.tmod_eq_emod_of_nonneg];done)),H',⟨by have:=HJ9.out;first|omega|exact Nat.le_refl _⟩,⟨by (with_reducible repeat (first|apply yH|apply yI|apply yJ));exact Kd.R_mono HO_5.out (fun _ hk=>by first|exact hk.2|trivial)⟩,⟨by (with_reducible repeat (first|apply yH|apply yI|apply yJ));exact Kd.R_mono HO185.out (fun _ hk=>by first|exact hk.2|trivial)⟩,⟨by (with_reducible repeat (first|refine yE ?_ _|refine yF ?_|refine yG ?_ _));exact BK176.out⟩,⟨by repeat (first|(with_reducible first|exact HB.out|apply yA|apply yB|apply yC|refine yD ?_ GE176.out)|exact HB.out)⟩⟩
         case rest =>
          clear HC63
          try clear c1
          try clear p1
          try clear q1
          try clear hx1
          try clear qi1
          try clear c2
          try clear p2
          try clear q2
          try clear hx2
          try clear hf2
          try clear c3
          try clear c3b0
          try clear c3b1
          try clear p3
          try clear q3
          try clear hx3
          try clear hf3
          try clear c4
          try clear c4b0
          try clear c4b1
          try clear p4
          try clear q4
          try clear hx4
          try clear hf4
          try clear c5
          try clear c5b0
          try clear c5b1
          try clear p5
          try clear q5
          try clear hx5
          try clear hf5
          try clear c6
          try clear p6
          try clear c15
          try clear c15b0
          try clear c15b1
          try clear c18
          try clear p18
          try clear q18
          try clear hx18
          try clear qi18
          try clear p19
          try clear q19
          try clear hx19
          try clear c20
          try clear c20b0
          try clear c21
          try clear c21b0
          try clear c22
          try clear c22b0
          try clear p23
          try clear q23
          try clear hx23
          try clear hf23
          try clear c28
          try clear c28b0
          try clear c28b1
          try clear c30
          try clear c30b0
          try clear c30b1
          try clear c34
          try clear c34b0
          try clear c35
          try clear c35b0
          try clear c36
          try clear c36b0
          try clear p37
          try clear q37
          try clear hx37
          try clear hf37
          try clear c40
          try clear c40b0
          try clear c41
          try clear c41b0
          try clear c42
          try clear c42b0
          try clear q43
          try clear c44
          try clear p45
          try clear q45
          try clear hx45
          try clear hf45
          try clear c48
          try clear c48b0
          try clear c49
          try clear c49b0
          try clear q50
          try clear c51
          try clear c53
          try clear c53b0
          try clear c54
          try clear c54b0
          try clear p55
          try clear q55
          try clear hx55
          try clear hf55
          try clear p59
          try clear q59
          try clear hx59
          try clear hf59
          try clear p64
          try clear c67
          try clear c67b0
          try clear hcz14_0
          try clear hcz14_1
          try clear hcz16_0
          try clear hcz16_1
          try clear hcz17_0
          try clear hcz17_1
          try clear hcz24_0
          try clear hcz24_1
          try clear hcz27_0
          try clear hcz27_1
          try clear hcz31_0
          try clear hcz31_1
          try clear hcz33_0
          try clear hcz33_1
          try clear hcz64_0
          try clear hcz64_1
          try clear hcz66_0
          try clear hcz66_1
          try clear hcz68_0
          try clear hcz68_1
          try clear hcz69_0
          try clear hcz69_1
          try clear hcz9_0
          try clear hcz9_1
          try clear hfz14_0
          try clear hfz14_1
          try clear hfz16_0
          try clear hfz16_1
          try clear hfz17_0
          try clear hfz17_1
          try clear hfz24_0
          try clear hfz24_1
          try clear hfz27_0
          try clear hfz27_1
          try clear hfz31_0
          try clear hfz31_1
          try clear hfz33_0
          try clear hfz33_1
          try clear hfz64_0
          try clear hfz64_1
          try clear hfz66_0
          try clear hfz66_1
          try clear hfz68_0
          try clear hfz68_1
          try clear hfz69_0
          try clear hfz69_1
          try clear hfz9_0
          try clear hfz9_1
          try clear hx182_0
          try clear hx182_1
          try clear hx187_0
          try clear hx189_0
          try clear hx190_0
          try clear hx23_0
          try clear hx37_0
          try clear hx45_0
          try clear hx55_0
          try clear hx59_0
          try clear p1
          try clear p18
          try clear p182
          try clear p187
          try clear p189
          try clear p190
          try clear p2
          try clear p23
          try clear p3
          try clear p37
          try clear p45
          try clear p55
          try clear p59
          try clear q1
          try clear q18
          try clear q182
          try clear q187
          try clear q189
          try clear q190
          try clear q2
          try clear q23
          try clear q3
          try clear q37
          try clear q45
          try clear q55
          try clear q59
          obtain ⟨kq,x87_62,rfl,HA,HJ62,HO_5,HO_7,BK176,HB⟩:=hcut
          cases kq with
          | zero=>exact absurd HA.out (by simp [spec_l7Marks.j3])
          | succ kj62 =>
           have H:=HA.out
           clear HA
           simp only [spec_l7Marks.j3] at H
           by_cases c70:x87_62=true
           ·subst c70
            have H1:(spec_l7Marks.l2 kj62 t183 t183 49 a0_0 l0_1)=some r:=by rw [if_pos rfl] at H;exact H
            clear H
            have H:=H1
            clear H1
            have H':=Aside0.mk H
            clear H
            go_wp2
            go_loopg [5,10] kj62 (fun kq v5 v10 w'=>∃ (x5_3:List Bool) (x10_3:Int),v10=.int .u8 x10_3∧Aside0 (spec_l7Marks.l2 kq x5_3 t183 x10_3 a0_0 l0_1=some r)∧Aside0 (kq≤kj62)∧Aside0 (Kd.R Kd.bool 4 w' w.heap.size (fun _=>True) v5 x5_3)∧Aside0 (Kd.R Kd.bool 4 w' w.heap.size (fun _=>True) v184 t183)∧Aside0 (w'.heap[gb176]?=some (.cells #[.int .u8 a0_0,(.slice (some ad182) l0_1.length c0_1)] 44 (0,0)))∧Aside0 (Below w.heap.size w w'))
            case atStart=>exact ⟨(t183),(49),(by first|rfl|(simp;done)|(simp [*];done)|(simp [Int.tmod_eq_emod_of_nonneg];done)),H',⟨Nat.le_refl _⟩,⟨by (with_reducible repeat (first|apply yH|apply yI|apply yJ));exact Kd.R_mono HO_7.out (fun _ hk=>trivial)⟩,⟨by (with_reducible repeat (first|apply yH|apply yI|apply yJ));exact Kd.R_mono HO_7.out (fun _ hk=>trivial)⟩,⟨by (with_reducible repeat (first|refine yE ?_ _|refine yF ?_|refine yG ?_ _));exact BK176.out⟩,⟨by repeat (first|(with_reducible first|exact HB.out|apply yA|apply yB|apply yC|refine yD ?_ GE176.out)|exact HB.out)⟩⟩
            case round =>
             clear H'
             try clear c1
             try clear p1
             try clear q1
             try clear hx1
             try clear qi1
             try clear c2
             try clear p2
             try clear q2
             try clear hx2
             try clear hf2
             try clear c3
             try clear c3b0
             try clear c3b1
             try clear p3
             try clear q3
             try clear hx3
             try clear hf3
             try clear c4
             try clear c4b0
             try clear c4b1
             try clear p4
             try clear q4
             try clear hx4
             try clear hf4
             try clear c5
             try clear c5b0
             try clear c5b1
             try clear p5
             try clear q5
             try clear hx5
             try clear hf5
             try clear c6
             try clear p6
             try clear c7
             try clear c15
             try clear c15b0
             try clear c15b1
             try clear c18
             try clear p18
             try clear q18
             try clear hx18
             try clear qi18
             try clear p19
             try clear q19
             try clear hx19
             try clear c20
             try clear c20b0
             try clear c21
             try clear c21b0
             try clear c22
             try clear c22b0
             try clear p23
             try clear q23
             try clear hx23
             try clear hf23
             try clear c28
             try clear c28b0
             try clear c28b1
             try clear c30
             try clear c30b0
             try clear c30b1
             try clear c34
             try clear c34b0
             try clear c35
             try clear c35b0
             try clear c36
             try clear c36b0
             try clear p37
             try clear q37
             try clear hx37
             try clear hf37
             try clear c40
             try clear c40b0
             try clear c41
             try clear c41b0
             try clear c42
             try clear c42b0
             try clear q43
             try clear c44
             try clear p45
             try clear q45
             try clear hx45
             try clear hf45
             try clear c48
             try clear c48b0
             try clear c49
             try clear c49b0
             try clear q50
             try clear c51
             try clear c53
             try clear c53b0
             try clear c54
             try clear c54b0
             try clear p55
             try clear q55
             try clear hx55
             try clear hf55
             try clear p59
             try clear q59
             try clear hx59
             try clear hf59
             try clear p64
             try clear c67
             try clear c67b0
             try clear c70
             try clear hcz14_0
             try clear hcz14_1
             try clear hcz16_0
             try clear hcz16_1
             try clear hcz17_0
             try clear hcz17_1
             try clear hcz24_0
             try clear hcz24_1
             try clear hcz27_0
             try clear hcz27_1
             try clear hcz31_0
             try clear hcz31_1
             try clear hcz33_0
             try clear hcz33_1
             try clear hcz64_0
             try clear hcz64_1
             try clear hcz66_0
             try clear hcz66_1
             try clear hcz68_0
             try clear hcz68_1
             try clear hcz69_0
             try clear hcz69_1
             try clear hcz9_0
             try clear hcz9_1
             try clear hfz14_0
             try clear hfz14_1
             try clear hfz16_0
             try clear hfz16_1
             try clear hfz17_0
             try clear hfz17_1
             try clear hfz24_0
             try clear hfz24_1
             try clear hfz27_0
             try clear hfz27_1
             try clear hfz31_0
             try clear hfz31_1
             try clear hfz33_0
             try clear hfz33_1
             try clear hfz64_0
             try clear hfz64_1
             try clear hfz66_0
             try clear hfz66_1
             try clear hfz68_0
             try clear hfz68_1
             try clear hfz69_0
             try clear hfz69_1
             try clear hfz9_0
             try clear hfz9_1
             try clear hx182_0
             try clear hx182_1
             try clear hx187_0
             try clear hx189_0
             try clear hx190_0
             try clear hx23_0
             try clear hx37_0
             try clear hx45_0
             try clear hx55_0
             try clear hx59_0
             try clear p1
             try clear p18
             try clear p182
             try clear p187
             try clear p189
             try clear p19
             try clear p190
             try clear p2
             try clear p23
             try clear p3
             try clear p37
             try clear p4
             try clear p45
             try clear p5
             try clear p55
             try clear p59
             try clear p6
             try clear p64
             try clear q1
             try clear q18
             try clear q182
             try clear q187
             try clear q189
             try clear q19
             try clear q190
             try clear q2
             try clear q23
             try clear q3
             try clear q37
             try clear q4
             try clear q43
             try clear q45
             try clear q5
             try clear q50
             try clear q55
             try clear q59
             obtain ⟨x5_3,x10_3,rfl,HA,HK3,HO_5,HO_7,BK176,HB⟩:=hrel
             cases gk with
             | zero=>exact absurd HA.out (by simp [spec_l7Marks.l2])
             | succ k3 =>
              have H:=HA.out
              clear HA
              simp only [spec_l7Marks.l2] at H
              by_cases c71:x10_3<a0_0
              ·rw [if_pos c71] at H
               have c71b0:decide (x10_3<a0_0)=true:=decide_eq_true c71
               clear c71
               replace H:=Option.bind_eq_some_iff.mp H
               obtain ⟨t193,A720,H⟩:=H
               replace H:(spec_l7Marks.l2 k3 t193 t183 ((x10_3+1) % 256) a0_0 l0_1)=some r:=H
               have A72:=Aside0.mk A720
               clear A720
               have H':=Aside0.mk H
               clear H
               have hcz73_0:wr.cell? ⟨gb176,0,none⟩=some (.int .u8 a0_0):=(blk_cell BK176.out 0).trans rfl
               have hcz73_1:wr.cell? ⟨gb176,1,none⟩=some (.slice (some ad182) l0_1.length c0_1):=(blk_cell BK176.out 1).trans rfl
               have hfz73_0:=blk_frozen BK176.out 0
               have hfz73_1:=blk_frozen BK176.out 1
               obtain ⟨Ao74,co74,eo74⟩:=Kd.R_slice HO_5.out
               subst eo74
               have HO_5k:=HO_5
               obtain ⟨Ao75,co75,eo75⟩:=Kd.R_slice HO_7.out
               subst eo75
               have HO_5:=HO_5k
               go_wp2_with (first|((with_reducible refine gate_callee (f:=42) rfl ?_);refine goesL_ (some 105) rfl rfl Try.func42 (by kernel_rfl) rfl #[.slice Ao74 x5_3.length co74,.slice Ao75 t183.length co75] rfl (by (try simp only [List.map_toArray,List.map_cons,List.map_nil]);first|done|rfl|(simp only [List.length_drop,List.length_take];rfl)) ?_;(with_reducible refine (spec_l7Sum.calls k3 _ _ x5_3 _ _ t183 t193 _ ?side1 ?side2 ?side3 ?side4 A72.out).mono ?_);(case side1=>repeat (first|exact (Kd.R_reads' HO_5.out).2.2|(with_reducible refine Kd.C_alloc ?_ _)|(with_reducible refine Kd.C_drewN ?_ _)|(with_reducible refine Kd.C_drew ?_)));(case side2=>exact (Kd.R_reads' HO_5.out).2.1);(case side3=>repeat (first|exact (Kd.R_reads' HO_7.out).2.2|(with_reducible refine Kd.C_alloc ?_ _)|(with_reducible refine Kd.C_drewN ?_ _)|(with_reducible refine Kd.C_drew ?_)));(case side4=>exact (Kd.R_reads' HO_7.out).2.1);rintro e w76 ⟨v194,rfl,ho0,hb⟩;refine ⟨_,rfl,?_⟩;have n0_:=Aside0.mk (Kd.R_elder' (by (with_reducible repeat (first|apply yH|apply yI|apply yJ));exact HO_5.out) (Kd.R_base ho0) hb);have n1_:=Aside0.mk (Kd.R_elder' (by (with_reducible repeat (first|apply yH|apply yI|apply yJ));exact HO_7.out) (Kd.R_base ho0) hb);have n2_:=Aside0.mk (Kd.R_lower (Kd.R_new' (Kd.R_new' ho0 (Kd.R_lt (by (with_reducible repeat (first|apply yH|apply yI|apply yJ));exact HO_5.out))) (Kd.R_lt (by (with_reducible repeat (first|apply yH|apply yI|apply yJ));exact HO_7.out))) (yQ (by repeat (first|(with_reducible first|exact HB.out|apply yA|apply yB|apply yC|refine yD ?_ GE176.out)|exact HB.out))));have n3_:=Aside0.mk (blk_below (g:=gb176) (o:=.cells #[.int .u8 a0_0,.slice (some ad182) l0_1.length c0_1] 44 (0,0)) (by (with_reducible repeat (first|refine yE ?_ _|refine yF ?_|refine yG ?_ _));exact BK176.out) hb);have n4_:=Aside0.mk (yP (by repeat (first|(with_reducible first|exact HB.out|apply yA|apply yB|apply yC|refine yD ?_ GE176.out)|exact HB.out)) hb);clear HO_5;clear HO_7;clear BK176;clear HB;have HO_5:=n0_;have HO_7:=n1_;have HO195:=n2_;have BK176:=n3_;have HB:=n4_;clear n0_ n1_ n2_ n3_ n4_;(try clear hb);(try clear hb2);(try clear hk);(try clear hi);(try clear ho0)))
               go_roundg k3
               case measure=>have:=HJ9.out;have:=HJ62.out;have:=HK3.out;omega
               case rel=>exact ⟨(t193),((x10_3+1) % 256),(by first|rfl|(simp;done)|(simp [*];done)|(simp [Int.tmod_eq_emod_of_nonneg];done)),H',⟨by have:=HJ9.out;have:=HJ62.out;have:=HK3.out;omega⟩,⟨by (with_reducible repeat (first|apply yH|apply yI|apply yJ));exact Kd.R_mono HO195.out (fun _ hk=>by first|exact hk.2|trivial)⟩,⟨by (with_reducible repeat (first|apply yH|apply yI|apply yJ));exact Kd.R_mono HO_7.out (fun _ hk=>by first|exact hk.2|trivial)⟩,⟨by (with_reducible repeat (first|refine yE ?_ _|refine yF ?_|refine yG ?_ _));exact BK176.out⟩,⟨by repeat (first|(with_reducible first|exact HB.out|apply yA|apply yB|apply yC|refine yD ?_ GE176.out)|exact HB.out)⟩⟩
              ·rw [if_neg c71] at H
               have c71b0:decide (x10_3<a0_0)=false:=decide_eq_false c71
               clear c71
               obtain rfl:=Option.some.inj H
               have hcz77_0:wr.cell? ⟨gb176,0,none⟩=some (.int .u8 a0_0):=(blk_cell BK176.out 0).trans rfl
               have hcz77_1:wr.cell? ⟨gb176,1,none⟩=some (.slice (some ad182) l0_1.length c0_1):=(blk_cell BK176.out 1).trans rfl
               have hfz77_0:=blk_frozen BK176.out 0
               have hfz77_1:=blk_frozen BK176.out 1
               go_wp2
               go_ret
               exact ⟨_,by first|rfl|(simp [errW_none,errW_some]<;>rfl)|(simp [*,errW_none,errW_some]<;>rfl)|(simp [errW_none,errW_some];exact ⟨rfl,rfl⟩),by (with_reducible repeat (first|apply yH|apply yI|apply yJ));exact HO_5.out,by repeat (first|(with_reducible first|exact HB.out|apply yA|apply yB|apply yC|refine yD ?_ GE176.out)|exact HB.out)⟩
           ·replace c70:=Bool.eq_false_iff.mpr c70
            subst c70
            have H1:(if 1<(l0_1.length:Int) then ((spec_l7Marks.f kj62 ((rd_T44 l0_1 1).f0) ((rd_T44 l0_1 1).f1) a1).bind fun t197=>(if a0_0=46 then ((spec_l7Sum.f kj62 t183 t197).bind fun t200=>(some t200)) else (spec_l7Marks.l3 kj62 a1 y177 t183 t197 0 a0_0 l0_1))) else (none))=some r:=by rw [if_neg (show ¬ (false=true) by decide)] at H;exact H
            clear H
            have H:=H1
            clear H1
            by_cases c78:1<(l0_1.length:Int)
            ·rw [if_pos c78] at H
             have c78b0:decide (1<(l0_1.length:Int))=true:=decide_eq_true c78
             have c78b1:decide (1<l0_1.length)=true:=decide_eq_true (by omega)
             clear c78
             replace H:=Option.bind_eq_some_iff.mp H
             obtain ⟨t197,A790,H⟩:=H
             replace H:(if a0_0=46 then ((spec_l7Sum.f kj62 t183 t197).bind fun t200=>(some t200)) else (spec_l7Marks.l3 kj62 a1 y177 t183 t197 0 a0_0 l0_1))=some r:=H
             have A79:=Aside0.mk A790
             clear A790
             by_cases c80:a0_0=46
             ·rw [if_pos c80] at H
              have c80b0:(a0_0 == 46)=true:=beq_iff_eq.mpr c80
              have c80b1:(a0_0 != 46)=false:=bne_eq_false_iff_eq.mpr c80
              clear c80
              replace H:=Option.bind_eq_some_iff.mp H
              obtain ⟨t200,A810,H⟩:=H
              replace H:(some t200)=some r:=H
              have A81:=Aside0.mk A810
              clear A810
              obtain rfl:=Option.some.inj H
              have hcz82_0:wc.cell? ⟨gb176,0,none⟩=some (.int .u8 a0_0):=(blk_cell BK176.out 0).trans rfl
              have hcz82_1:wc.cell? ⟨gb176,1,none⟩=some (.slice (some ad182) l0_1.length c0_1):=(blk_cell BK176.out 1).trans rfl
              have hfz82_0:=blk_frozen BK176.out 0
              have hfz82_1:=blk_frozen BK176.out 1
              have p196:0≤(1:Int):=(by omega)
              have q196:1<(l0_1.length:Int):=of_decide_eq_true (by first|(with_reducible assumption)|assumption)
              obtain ⟨ad196,A196_1,c196_1,e196,hx196_0,hx196_1,hl196_1,hi196_1⟩:=at_T44 HR0_1.out 1 p196 q196
              obtain rfl:ad182=ad196:=(by injection e196)
              (try simp only [show (1:Int).toNat=1 from rfl,Nat.reduceMul,Nat.reduceEqDiff,Go.Addr.add,↓reduceIte] at hx196_0)
              (try simp only [show (1:Int).toNat=1 from rfl,Nat.reduceMul,Nat.reduceEqDiff,Go.Addr.add,↓reduceIte] at hx196_1)
              have qi196:(1<l0_1.length)=True:=eq_true (by omega)
              (try rw [show ((1:Int)).toNat=1 from rfl] at hx196_0)
              (try rw [show 1 * 2=2 from rfl] at hx196_0)
              (try rw [show ((1:Int)).toNat=1 from rfl] at hx196_1)
              (try rw [show 1 * 2=2 from rfl] at hx196_1)
              replace hx196_0:=(HB.out.cell (World.block_lt_of_cell? w _ hx196_0)).trans hx196_0
              replace hx196_1:=(HB.out.cell (World.block_lt_of_cell? w _ hx196_1)).trans hx196_1
              have HR196_1:=Aside0.mk hi196_1
              have HC196_1:=Aside0.mk hl196_1
              clear hi196_1 hl196_1
              replace p196:=eq_true p196
              replace q196:=eq_true q196
              go_wp2_with (first|((with_reducible refine gate_callee (f:=28) rfl ?_);refine goesL_ (some 112) rfl rfl Try.func28 (by kernel_rfl) rfl #[.agg #[.int .u8 ((rd_T44 l0_1 1).f0),.slice A196_1 ((rd_T44 l0_1 1).f1).length c196_1],.int .i64 a1] rfl (by (try simp only [List.map_toArray,List.map_cons,List.map_nil]);first|done|rfl|(simp only [List.length_drop,List.length_take];rfl)) ?_;(with_reducible refine (ih kj62 (by have:=HJ9.out;have:=HJ62.out;omega) ((rd_T44 l0_1 1).f0) _ _ ((rd_T44 l0_1 1).f1) a1 t197 _ ?side1 ?side2 A79.out).mono ?_);(case side1=>repeat (first|exact (Kd.C_below HR196_1.out HB.out)|(with_reducible refine Kd.C_alloc ?_ _)|(with_reducible refine Kd.C_drewN ?_ _)|(with_reducible refine Kd.C_drew ?_)));(case side2=>exact HC196_1.out);rintro e w83 ⟨v198,rfl,ho0,hb⟩;refine ⟨_,rfl,?_⟩;have n0_:=Aside0.mk (Kd.R_elder' (by (with_reducible repeat (first|apply yH|apply yI|apply yJ));exact HO_5.out) (Kd.R_base ho0) hb);have n1_:=Aside0.mk (Kd.R_elder' (by (with_reducible repeat (first|apply yH|apply yI|apply yJ));exact HO_7.out) (Kd.R_base ho0) hb);have n2_:=Aside0.mk (Kd.R_lower (Kd.R_new' (Kd.R_new' ho0 (Kd.R_lt (by (with_reducible repeat (first|apply yH|apply yI|apply yJ));exact HO_5.out))) (Kd.R_lt (by (with_reducible repeat (first|apply yH|apply yI|apply yJ));exact HO_7.out))) (yQ (by repeat (first|(with_reducible first|exact HB.out|apply yA|apply yB|apply yC|refine yD ?_ GE176.out)|exact HB.out))));have n3_:=Aside0.mk (blk_below (g:=gb176) (o:=.cells #[.int .u8 a0_0,.slice (some ad182) l0_1.length c0_1] 44 (0,0)) (by (with_reducible repeat (first|refine yE ?_ _|refine yF ?_|refine yG ?_ _));exact BK176.out) hb);have n4_:=Aside0.mk (yP (by repeat (first|(with_reducible first|exact HB.out|apply yA|apply yB|apply yC|refine yD ?_ GE176.out)|exact HB.out)) hb);clear HO_5;clear HO_7;clear BK176;clear HB;have HO_5:=n0_;have HO_7:=n1_;have HO199:=n2_;have BK176:=n3_;have HB:=n4_;clear n0_ n1_ n2_ n3_ n4_;(try clear hb);(try clear hb2);(try clear hk);(try clear hi);(try clear ho0);have hcz84_0:w83.cell? ⟨gb176,0,none⟩=some (.int .u8 a0_0):=(blk_cell BK176.out 0).trans rfl;have hcz84_1:w83.cell? ⟨gb176,1,none⟩=some (.slice (some ad182) l0_1.length c0_1):=(blk_cell BK176.out 1).trans rfl;have hfz84_0:=blk_frozen BK176.out 0;have hfz84_1:=blk_frozen BK176.out 1;obtain ⟨Ao85,co85,eo85⟩:=Kd.R_slice HO_7.out;subst eo85;obtain ⟨Ao86,co86,eo86⟩:=Kd.R_slice HO199.out;subst eo86)|((with_reducible refine gate_callee (f:=42) rfl ?_);refine goesL_ (some 118) rfl rfl Try.func42 (by kernel_rfl) rfl #[.slice Ao85 t183.length co85,.slice Ao86 t197.length co86] rfl (by (try simp only [List.map_toArray,List.map_cons,List.map_nil]);first|done|rfl|(simp only [List.length_drop,List.length_take];rfl)) ?_;(with_reducible refine (spec_l7Sum.calls kj62 _ _ t183 _ _ t197 t200 _ ?side1 ?side2 ?side3 ?side4 A81.out).mono ?_);(case side1=>repeat (first|exact (Kd.R_reads' HO_7.out).2.2|(with_reducible refine Kd.C_alloc ?_ _)|(with_reducible refine Kd.C_drewN ?_ _)|(with_reducible refine Kd.C_drew ?_)));(case side2=>exact (Kd.R_reads' HO_7.out).2.1);(case side3=>repeat (first|exact (Kd.R_reads' HO199.out).2.2|(with_reducible refine Kd.C_alloc ?_ _)|(with_reducible refine Kd.C_drewN ?_ _)|(with_reducible refine Kd.C_drew ?_)));(case side4=>exact (Kd.R_reads' HO199.out).2.1);rintro e w87 ⟨v201,rfl,ho0,hb⟩;refine ⟨_,rfl,?_⟩;have n0_:=Aside0.mk (Kd.R_elder' (by (with_reducible repeat (first|apply yH|apply yI|apply yJ));exact HO_5.out) (Kd.R_base ho0) hb);have n1_:=Aside0.mk (Kd.R_elder' (by (with_reducible repeat (first|apply yH|apply yI|apply yJ));exact HO_7.out) (Kd.R_base ho0) hb);have n2_:=Aside0.mk (Kd.R_elder' (by (with_reducible repeat (first|apply yH|apply yI|apply yJ));exact HO199.out) (Kd.R_base ho0) hb);have n3_:=Aside0.mk (Kd.R_lower (Kd.R_new' (Kd.R_new' (Kd.R_new' ho0 (Kd.R_lt (by (with_reducible repeat (first|apply yH|apply yI|apply yJ));exact HO_5.out))) (Kd.R_lt (by (with_reducible repeat (first|apply yH|apply yI|apply yJ));exact HO_7.out))) (Kd.R_lt (by (with_reducible repeat (first|apply yH|apply yI|apply yJ));exact HO199.out))) (yQ (by repeat (first|(with_reducible first|exact HB.out|apply yA|apply yB|apply yC|refine yD ?_ GE176.out)|exact HB.out))));have n4_:=Aside0.mk (blk_below (g:=gb176) (o:=.cells #[.int .u8 a0_0,.slice (some ad182) l0_1.length c0_1] 44 (0,0)) (by (with_reducible repeat (first|refine yE ?_ _|refine yF ?_|refine yG ?_ _));exact BK176.out) hb);have n5_:=Aside0.mk (yP (by repeat (first|(with_reducible first|exact HB.out|apply yA|apply yB|apply yC|refine yD ?_ GE176.out)|exact HB.out)) hb);clear HO_5;clear HO_7;clear HO199;clear BK176;clear HB;have HO_5:=n0_;have HO_7:=n1_;have HO199:=n2_;have HO202:=n3_;have BK176:=n4_;have HB:=n5_;clear n0_ n1_ n2_ n3_ n4_ n5_;(try clear hb);(try clear hb2);(try clear hk);(try clear hi);(try clear ho0)))
              go_ret
              exact ⟨_,by first|rfl|(simp [errW_none,errW_some]<;>rfl)|(simp [*,errW_none,errW_some]<;>rfl)|(simp [errW_none,errW_some];exact ⟨rfl,rfl⟩),by (with_reducible repeat (first|apply yH|apply yI|apply yJ));exact Kd.R_mono HO202.out (fun _ hk=>trivial),by repeat (first|(with_reducible first|exact HB.out|apply yA|apply yB|apply yC|refine yD ?_ GE176.out)|exact HB.out)⟩
             ·rw [if_neg c80] at H
              have c80b0:(a0_0 == 46)=false:=beq_eq_false_iff_ne.mpr c80
              have c80b1:(a0_0 != 46)=true:=bne_iff_ne.mpr c80
              have H':=Aside0.mk H
              clear H
              have hcz88_0:wc.cell? ⟨gb176,0,none⟩=some (.int .u8 a0_0):=(blk_cell BK176.out 0).trans rfl
              have hcz88_1:wc.cell? ⟨gb176,1,none⟩=some (.slice (some ad182) l0_1.length c0_1):=(blk_cell BK176.out 1).trans rfl
              have hfz88_0:=blk_frozen BK176.out 0
              have hfz88_1:=blk_frozen BK176.out 1
              have p196:0≤(1:Int):=(by omega)
              have q196:1<(l0_1.length:Int):=of_decide_eq_true (by first|(with_reducible assumption)|assumption)
              obtain ⟨ad196,A196_1,c196_1,e196,hx196_0,hx196_1,hl196_1,hi196_1⟩:=at_T44 HR0_1.out 1 p196 q196
              obtain rfl:ad182=ad196:=(by injection e196)
              (try simp only [show (1:Int).toNat=1 from rfl,Nat.reduceMul,Nat.reduceEqDiff,Go.Addr.add,↓reduceIte] at hx196_0)
              (try simp only [show (1:Int).toNat=1 from rfl,Nat.reduceMul,Nat.reduceEqDiff,Go.Addr.add,↓reduceIte] at hx196_1)
              have qi196:(1<l0_1.length)=True:=eq_true (by omega)
              (try rw [show ((1:Int)).toNat=1 from rfl] at hx196_0)
              (try rw [show 1 * 2=2 from rfl] at hx196_0)
              (try rw [show ((1:Int)).toNat=1 from rfl] at hx196_1)
              (try rw [show 1 * 2=2 from rfl] at hx196_1)
              replace hx196_0:=(HB.out.cell (World.block_lt_of_cell? w _ hx196_0)).trans hx196_0
              replace hx196_1:=(HB.out.cell (World.block_lt_of_cell? w _ hx196_1)).trans hx196_1
              have HR196_1:=Aside0.mk hi196_1
              have HC196_1:=Aside0.mk hl196_1
              clear hi196_1 hl196_1
              replace p196:=eq_true p196
              replace q196:=eq_true q196
              go_wp2_with (first|((with_reducible refine gate_callee (f:=28) rfl ?_);refine goesL_ (some 112) rfl rfl Try.func28 (by kernel_rfl) rfl #[.agg #[.int .u8 ((rd_T44 l0_1 1).f0),.slice A196_1 ((rd_T44 l0_1 1).f1).length c196_1],.int .i64 a1] rfl (by (try simp only [List.map_toArray,List.map_cons,List.map_nil]);first|done|rfl|(simp only [List.length_drop,List.length_take];rfl)) ?_;(with_reducible refine (ih kj62 (by have:=HJ9.out;have:=HJ62.out;omega) ((rd_T44 l0_1 1).f0) _ _ ((rd_T44 l0_1 1).f1) a1 t197 _ ?side1 ?side2 A79.out).mono ?_);(case side1=>repeat (first|exact (Kd.C_below HR196_1.out HB.out)|(with_reducible refine Kd.C_alloc ?_ _)|(with_reducible refine Kd.C_drewN ?_ _)|(with_reducible refine Kd.C_drew ?_)));(case side2=>exact HC196_1.out);rintro e w89 ⟨v198,rfl,ho0,hb⟩;refine ⟨_,rfl,?_⟩;have n0_:=Aside0.mk (Kd.R_elder' (by (with_reducible repeat (first|apply yH|apply yI|apply yJ));exact HO_5.out) (Kd.R_base ho0) hb);have n1_:=Aside0.mk (Kd.R_elder' (by (with_reducible repeat (first|apply yH|apply yI|apply yJ));exact HO_7.out) (Kd.R_base ho0) hb);have n2_:=Aside0.mk (Kd.R_lower (Kd.R_new' (Kd.R_new' ho0 (Kd.R_lt (by (with_reducible repeat (first|apply yH|apply yI|apply yJ));exact HO_5.out))) (Kd.R_lt (by (with_reducible repeat (first|apply yH|apply yI|apply yJ));exact HO_7.out))) (yQ (by repeat (first|(with_reducible first|exact HB.out|apply yA|apply yB|apply yC|refine yD ?_ GE176.out)|exact HB.out))));have n3_:=Aside0.mk (blk_below (g:=gb176) (o:=.cells #[.int .u8 a0_0,.slice (some ad182) l0_1.length c0_1] 44 (0,0)) (by (with_reducible repeat (first|refine yE ?_ _|refine yF ?_|refine yG ?_ _));exact BK176.out) hb);have n4_:=Aside0.mk (yP (by repeat (first|(with_reducible first|exact HB.out|apply yA|apply yB|apply yC|refine yD ?_ GE176.out)|exact HB.out)) hb);clear HO_5;clear HO_7;clear BK176;clear HB;have HO_5:=n0_;have HO_7:=n1_;have HO199:=n2_;have BK176:=n3_;have HB:=n4_;clear n0_ n1_ n2_ n3_ n4_;(try clear hb);(try clear hb2);(try clear hk);(try clear hi);(try clear ho0);have hcz90_0:w89.cell? ⟨gb176,0,none⟩=some (.int .u8 a0_0):=(blk_cell BK176.out 0).trans rfl;have hcz90_1:w89.cell? ⟨gb176,1,none⟩=some (.slice (some ad182) l0_1.length c0_1):=(blk_cell BK176.out 1).trans rfl;have hfz90_0:=blk_frozen BK176.out 0;have hfz90_1:=blk_frozen BK176.out 1))
              go_loopg [12] kj62 (fun kq v12 w'=>∃ (x5_3:List Bool) (x12_3:Int),v12=.int .i64 x12_3∧Aside0 (spec_l7Marks.l3 kq a1 x5_3 t183 t197 x12_3 a0_0 l0_1=some r)∧Aside0 (kq≤kj62)∧Aside0 (Kd.R Kd.bool 4 w' w.heap.size (fun k_=>some k_≠(v184:Value).ownBlock∧some k_≠(v198:Value).ownBlock) v178 x5_3)∧Aside0 (Kd.R Kd.bool 4 w' w.heap.size (fun k_=>some k_≠(v178:Value).ownBlock∧some k_≠(v198:Value).ownBlock) v184 t183)∧Aside0 (Kd.R Kd.bool 4 w' w.heap.size (fun k_=>some k_≠(v178:Value).ownBlock∧some k_≠(v184:Value).ownBlock) v198 t197)∧Aside0 (w'.heap[gb176]?=some (.cells #[.int .u8 a0_0,(.slice (some ad182) l0_1.length c0_1)] 44 (0,0)))∧Aside0 (Below w.heap.size w w'))
              case atStart=>exact ⟨(y177),(0),(by first|rfl|(simp;done)|(simp [*];done)|(simp [Int.tmod_eq_emod_of_nonneg];done)),H',⟨Nat.le_refl _⟩,⟨by (with_reducible repeat (first|apply yH|apply yI|apply yJ));exact HO_5.out⟩,⟨by (with_reducible repeat (first|apply yH|apply yI|apply yJ));exact HO_7.out⟩,⟨by (with_reducible repeat (first|apply yH|apply yI|apply yJ));exact Kd.R_mono HO199.out (fun _ hk=>⟨hk.1.2,hk.2⟩)⟩,⟨by (with_reducible repeat (first|refine yE ?_ _|refine yF ?_|refine yG ?_ _));exact BK176.out⟩,⟨by repeat (first|(with_reducible first|exact HB.out|apply yA|apply yB|apply yC|refine yD ?_ GE176.out)|exact HB.out)⟩⟩
              case round =>
               clear H'
               try clear c1
               try clear p1
               try clear q1
               try clear hx1
               try clear qi1
               try clear c2
               try clear p2
               try clear q2
               try clear hx2
               try clear hf2
               try clear c3
               try clear c3b0
               try clear c3b1
               try clear p3
               try clear q3
               try clear hx3
               try clear hf3
               try clear c4
               try clear c4b0
               try clear c4b1
               try clear p4
               try clear q4
               try clear hx4
               try clear hf4
               try clear c5
               try clear c5b0
               try clear c5b1
               try clear p5
               try clear q5
               try clear hx5
               try clear hf5
               try clear c6
               try clear p6
               try clear c7
               try clear c8
               try clear c15
               try clear c15b0
               try clear c15b1
               try clear c18
               try clear p18
               try clear q18
               try clear hx18
               try clear qi18
               try clear c19
               try clear p19
               try clear q19
               try clear hx19
               try clear qi19
               try clear c20
               try clear c20b0
               try clear c21
               try clear c21b0
               try clear c22
               try clear c22b0
               try clear p23
               try clear q23
               try clear hx23
               try clear hf23
               try clear c28
               try clear c28b0
               try clear c28b1
               try clear c30
               try clear c30b0
               try clear c30b1
               try clear c34
               try clear c34b0
               try clear c35
               try clear c35b0
               try clear c36
               try clear c36b0
               try clear p37
               try clear q37
               try clear hx37
               try clear hf37
               try clear c40
               try clear c40b0
               try clear c41
               try clear c41b0
               try clear c42
               try clear c42b0
               try clear q43
               try clear c44
               try clear p45
               try clear q45
               try clear hx45
               try clear hf45
               try clear c48
               try clear c48b0
               try clear c49
               try clear c49b0
               try clear q50
               try clear c51
               try clear c53
               try clear c53b0
               try clear c54
               try clear c54b0
               try clear p55
               try clear q55
               try clear hx55
               try clear hf55
               try clear p59
               try clear q59
               try clear hx59
               try clear hf59
               try clear p64
               try clear c67
               try clear c67b0
               try clear c70
               try clear c71
               try clear c71b0
               try clear c78
               try clear c78b0
               try clear c78b1
               try clear c80
               try clear c80b0
               try clear c80b1
               try clear hcz14_0
               try clear hcz14_1
               try clear hcz16_0
               try clear hcz16_1
               try clear hcz17_0
               try clear hcz17_1
               try clear hcz24_0
               try clear hcz24_1
               try clear hcz27_0
               try clear hcz27_1
               try clear hcz31_0
               try clear hcz31_1
               try clear hcz33_0
               try clear hcz33_1
               try clear hcz64_0
               try clear hcz64_1
               try clear hcz66_0
               try clear hcz66_1
               try clear hcz68_0
               try clear hcz68_1
               try clear hcz69_0
               try clear hcz69_1
               try clear hcz73_0
               try clear hcz73_1
               try clear hcz77_0
               try clear hcz77_1
               try clear hcz82_0
               try clear hcz82_1
               try clear hcz84_0
               try clear hcz84_1
               try clear hcz88_0
               try clear hcz88_1
               try clear hcz90_0
               try clear hcz90_1
               try clear hcz9_0
               try clear hcz9_1
               try clear hfz14_0
               try clear hfz14_1
               try clear hfz16_0
               try clear hfz16_1
               try clear hfz17_0
               try clear hfz17_1
               try clear hfz24_0
               try clear hfz24_1
               try clear hfz27_0
               try clear hfz27_1
               try clear hfz31_0
               try clear hfz31_1
               try clear hfz33_0
               try clear hfz33_1
               try clear hfz64_0
               try clear hfz64_1
               try clear hfz66_0
               try clear hfz66_1
               try clear hfz68_0
               try clear hfz68_1
               try clear hfz69_0
               try clear hfz69_1
               try clear hfz73_0
               try clear hfz73_1
               try clear hfz77_0
               try clear hfz77_1
               try clear hfz82_0
               try clear hfz82_1
               try clear hfz84_0
               try clear hfz84_1
               try clear hfz88_0
               try clear hfz88_1
               try clear hfz90_0
               try clear hfz90_1
               try clear hfz9_0
               try clear hfz9_1
               try clear hx182_0
               try clear hx182_1
               try clear hx187_0
               try clear hx189_0
               try clear hx190_0
               try clear hx196_0
               try clear hx196_1
               try clear hx23_0
               try clear hx37_0
               try clear hx45_0
               try clear hx55_0
               try clear hx59_0
               try clear p1
               try clear p18
               try clear p182
               try clear p187
               try clear p189
               try clear p19
               try clear p190
               try clear p196
               try clear p2
               try clear p23
               try clear p3
               try clear p37
               try clear p4
               try clear p45
               try clear p5
               try clear p55
               try clear p59
               try clear p6
               try clear p64
               try clear q1
               try clear q18
               try clear q182
               try clear q187
               try clear q189
               try clear q19
               try clear q190
               try clear q196
               try clear q2
               try clear q23
               try clear q3
               try clear q37
               try clear q4
               try clear q43
               try clear q45
               try clear q5
               try clear q50
               try clear q55
               try clear q59
               obtain ⟨x5_3,x12_3,rfl,HA,HK3,HO_5,HO_7,HO_11,BK176,HB⟩:=hrel
               cases gk with
               | zero=>exact absurd HA.out (by simp [spec_l7Marks.l3])
               | succ k3 =>
                have H:=HA.out
                clear HA
                simp only [spec_l7Marks.l3] at H
                by_cases c91:x12_3<a1
                ·rw [if_pos c91] at H
                 have c91b0:decide (x12_3<a1)=true:=decide_eq_true c91
                 clear c91
                 by_cases c92:a0_0=43
                 ·rw [if_pos c92] at H
                  have c92b0:(a0_0 == 43)=true:=beq_iff_eq.mpr c92
                  have c92b1:(a0_0 != 43)=false:=bne_eq_false_iff_eq.mpr c92
                  clear c92
                  by_cases c93:0≤x12_3
                  ·rw [if_pos c93] at H
                   have c93b0:decide (0≤x12_3)=true:=decide_eq_true c93
                   clear c93
                   by_cases c94:x12_3<(t183.length:Int)
                   ·rw [if_pos c94] at H
                    have c94b0:decide (x12_3<(t183.length:Int))=true:=decide_eq_true c94
                    clear c94
                    obtain ⟨bq95,hbq95⟩:∃ b_:Bool,b_=(rdOf false t183 x12_3):=⟨_,rfl⟩
                    replace H:(if bq95=true then (if x12_3<(x5_3.length:Int) then (spec_l7Marks.l3 k3 a1 (x5_3.set (x12_3:Int).toNat true) t183 t197 (wrap64 (x12_3+1)) a0_0 l0_1) else (none)) else (if x12_3<(t197.length:Int) then (if x12_3<(x5_3.length:Int) then (spec_l7Marks.l3 k3 a1 (x5_3.set (x12_3:Int).toNat (rdOf false t197 x12_3)) t183 t197 (wrap64 (x12_3+1)) a0_0 l0_1) else (none)) else (none)))=some r:=by rw [← hbq95] at H;exact H
                    have Nbq95:=Aside0.mk hbq95
                    clear hbq95
                    by_cases c96:bq95=true
                    ·subst c96
                     have H1:(if x12_3<(x5_3.length:Int) then (spec_l7Marks.l3 k3 a1 (x5_3.set (x12_3:Int).toNat true) t183 t197 (wrap64 (x12_3+1)) a0_0 l0_1) else (none))=some r:=by rw [if_pos rfl] at H;exact H
                     clear H
                     have H:=H1
                     clear H1
                     by_cases c97:x12_3<(x5_3.length:Int)
                     ·rw [if_pos c97] at H
                      have c97b0:decide (x12_3<(x5_3.length:Int))=true:=decide_eq_true c97
                      clear c97
                      obtain ⟨y204,hy204⟩:∃ y_:List Bool,y_=(x5_3.set (x12_3:Int).toNat true):=⟨_,rfl⟩
                      replace H:(spec_l7Marks.l3 k3 a1 y204 t183 t197 (wrap64 (x12_3+1)) a0_0 l0_1)=some r:=by first|(rw [hy204];with_reducible exact H)|(have H2_:=(Option.bind_some _ _).symm.trans H;rw [hy204];with_reducible exact H2_)|(have H2_:=(Option.bind_some _ _).symm.trans H;with_reducible exact H2_)|with_reducible exact H|(rw [hy204];exact H)|exact H
                      have Ny204:=Aside0.mk hy204
                      clear hy204
                      have H':=Aside0.mk H
                      clear H
                      have hcz99_0:wr.cell? ⟨gb176,0,none⟩=some (.int .u8 a0_0):=(blk_cell BK176.out 0).trans rfl
                      have hcz99_1:wr.cell? ⟨gb176,1,none⟩=some (.slice (some ad182) l0_1.length c0_1):=(blk_cell BK176.out 1).trans rfl
                      have hfz99_0:=blk_frozen BK176.out 0
                      have hfz99_1:=blk_frozen BK176.out 1
                      have HO_5k:=HO_5
                      obtain ⟨Ao100,co100,eo100⟩:=Kd.R_slice HO_7.out
                      subst eo100
                      have HO_5:=HO_5k
                      have p203:0≤(x12_3:Int):=of_decide_eq_true (by first|(with_reducible assumption)|assumption)
                      have q203:x12_3<(t183.length:Int):=of_decide_eq_true (by first|(with_reducible assumption)|assumption)
                      obtain ⟨ad203,e203,hx203_0⟩:=Kd.at_bool (Kd.R_reads' HO_7.out).2.2 x12_3 p203 q203
                      (try rw [← Nbq95.out] at hx203_0)
                      cases e203
                      replace p203:=eq_true p203
                      replace q203:=eq_true q203
                      have p98:0≤(x12_3:Int):=of_decide_eq_true (by first|(with_reducible assumption)|assumption)
                      have q98:(x12_3:Int)<((x5_3.length:Int):Int):=of_decide_eq_true (by first|(with_reducible assumption)|assumption)
                      obtain ⟨go98,co98,eo98,gb98,gl98,cl98,HG98⟩:=Kd.R_form HO_5.out (by omega)
                      (first|cases eo98|(injection eo98 with ea_ en_ ec_;(first|subst ea_|(injection ea_ with ea_;subst ea_));subst ec_;clear en_))
                      have GB98:=Aside0.mk gb98
                      have GG98:=Aside0.mk HG98
                      clear gb98 gl98 HG98
                      obtain ⟨hx98_0,hf98_0⟩:=Kd.R_celln false HO_5.out (x12_3:Int) p98 q98
                      replace p98:=eq_true p98
                      replace q98:=eq_true q98
                      have HP101:=Kd.R_putg HO_5.out (x12_3:Int) true
                      go_wp2_with (first|((with_reducible refine gate_store (t:=4) (p:=139) rfl ?_);refine store_event (t:=4) (p:=139) (v:=?vo_w102) (w1:=(wr.setCell ⟨go98,(x12_3:Int).toNat,none⟩ (.bool true))) ?hg ?ho ?hn ?hr ?_;(case ho=>rfl);(case hg=>rfl);(case hn=>rfl);(case hr=>first|(go_simp;done)|(go_simp;rfl));intro w102 hw;have hg:wr.grownBy w102 (some go98):=(by rw [hw];exact HP101.2);have hp_:Kd.R Kd.bool 4 w102 w.heap.size (fun k_=>some k_≠(.slice (some ad203) t183.length co100:Value).ownBlock∧some k_≠(v198:Value).ownBlock) (.slice (some ⟨go98,0,none⟩) x5_3.length co98) y204:=(by rw [hw,Ny204.out];exact HP101.1);clear HP101;have n0_:=Aside0.mk (hp_);have n1_:=Aside0.mk (Kd.R_after (v:=(.slice (some ⟨go98,0,none⟩) x5_3.length co98)) (v1:=(.slice (some ⟨go98,0,none⟩) x5_3.length co98)) (ok:=(fun k_=>some k_≠(v198:Value).ownBlock)) (by (with_reducible repeat (first|apply yH|apply yI|apply yJ));exact Kd.R_mono HO_7.out (fun _ hk=>⟨hk.2,hk.1⟩)) hg (.inl rfl));have n2_:=Aside0.mk (Kd.R_after (v:=(.slice (some ⟨go98,0,none⟩) x5_3.length co98)) (v1:=(.slice (some ⟨go98,0,none⟩) x5_3.length co98)) (ok:=(fun k_=>some k_≠(.slice (some ad203) t183.length co100:Value).ownBlock)) (by (with_reducible repeat (first|apply yH|apply yI|apply yJ));exact Kd.R_mono HO_11.out (fun _ hk=>⟨hk.2,hk.1⟩)) hg (.inl rfl));have n3_:=Aside0.mk (blk_grown (g:=gb176) (o:=.cells #[.int .u8 a0_0,.slice (some ad182) l0_1.length c0_1] 44 (0,0)) (by (with_reducible repeat (first|refine yE ?_ _|refine yF ?_|refine yG ?_ _));exact BK176.out) hg (Kd.R_ne HO_5.out BK176.out (by decide)));have n4_:=Aside0.mk ((by rw [hw];exact yD (HB.out) GB98.out:Below w.heap.size w w102));clear HO_5;clear HO_7;clear HO_11;clear BK176;clear HB;have HO_5:=n0_;have HO_7:=n1_;have HO_11:=n2_;have BK176:=n3_;have HB:=n4_;clear n0_ n1_ n2_ n3_ n4_;clear hg hw hp_))
                      go_roundg k3
                      case measure=>have:=HJ9.out;have:=HJ62.out;have:=HK3.out;omega
                      case rel=>exact ⟨(y204),(wrap64 (x12_3+1)),(by first|rfl|(simp;done)|(simp [*];done)|(simp [Int.tmod_eq_emod_of_nonneg];done)),H',⟨by have:=HJ9.out;have:=HJ62.out;have:=HK3.out;omega⟩,⟨by (with_reducible repeat (first|apply yH|apply yI|apply yJ));exact HO_5.out⟩,⟨by (with_reducible repeat (first|apply yH|apply yI|apply yJ));exact Kd.R_mono HO_7.out (fun _ hk=>⟨hk.2,hk.1⟩)⟩,⟨by (with_reducible repeat (first|apply yH|apply yI|apply yJ));exact Kd.R_mono HO_11.out (fun _ hk=>⟨hk.2,hk.1⟩)⟩,⟨by (with_reducible repeat (first|refine yE ?_ _|refine yF ?_|refine yG ?_ _));exact BK176.out⟩,⟨by repeat (first|(with_reducible first|exact HB.out|apply yA|apply yB|apply yC|refine yD ?_ GE176.out)|exact HB.out)⟩⟩
                     ·rw [if_neg c97] at H
                      exact absurd H (by simp)
                    ·replace c96:=Bool.eq_false_iff.mpr c96
                     subst c96
                     have H1:(if x12_3<(t197.length:Int) then (if x12_3<(x5_3.length:Int) then (spec_l7Marks.l3 k3 a1 (x5_3.set (x12_3:Int).toNat (rdOf false t197 x12_3)) t183 t197 (wrap64 (x12_3+1)) a0_0 l0_1) else (none)) else (none))=some r:=by rw [if_neg (show ¬ (false=true) by decide)] at H;exact H
                     clear H
                     have H:=H1
                     clear H1
                     by_cases c103:x12_3<(t197.length:Int)
                     ·rw [if_pos c103] at H
                      have c103b0:decide (x12_3<(t197.length:Int))=true:=decide_eq_true c103
                      clear c103
                      by_cases c104:x12_3<(x5_3.length:Int)
                      ·rw [if_pos c104] at H
                       have c104b0:decide (x12_3<(x5_3.length:Int))=true:=decide_eq_true c104
                       clear c104
                       obtain ⟨y206,hy206⟩:∃ y_:List Bool,y_=(x5_3.set (x12_3:Int).toNat (rdOf false t197 x12_3)):=⟨_,rfl⟩
                       replace H:(spec_l7Marks.l3 k3 a1 y206 t183 t197 (wrap64 (x12_3+1)) a0_0 l0_1)=some r:=by first|(rw [hy206];with_reducible exact H)|(have H2_:=(Option.bind_some _ _).symm.trans H;rw [hy206];with_reducible exact H2_)|(have H2_:=(Option.bind_some _ _).symm.trans H;with_reducible exact H2_)|with_reducible exact H|(rw [hy206];exact H)|exact H
                       have Ny206:=Aside0.mk hy206
                       clear hy206
                       have H':=Aside0.mk H
                       clear H
                       have hcz106_0:wr.cell? ⟨gb176,0,none⟩=some (.int .u8 a0_0):=(blk_cell BK176.out 0).trans rfl
                       have hcz106_1:wr.cell? ⟨gb176,1,none⟩=some (.slice (some ad182) l0_1.length c0_1):=(blk_cell BK176.out 1).trans rfl
                       have hfz106_0:=blk_frozen BK176.out 0
                       have hfz106_1:=blk_frozen BK176.out 1
                       have HO_5k:=HO_5
                       obtain ⟨Ao107,co107,eo107⟩:=Kd.R_slice HO_7.out
                       subst eo107
                       have HO_5:=HO_5k
                       have p203:0≤(x12_3:Int):=of_decide_eq_true (by first|(with_reducible assumption)|assumption)
                       have q203:x12_3<(t183.length:Int):=of_decide_eq_true (by first|(with_reducible assumption)|assumption)
                       obtain ⟨ad203,e203,hx203_0⟩:=Kd.at_bool (Kd.R_reads' HO_7.out).2.2 x12_3 p203 q203
                       (try rw [← Nbq95.out] at hx203_0)
                       cases e203
                       replace p203:=eq_true p203
                       replace q203:=eq_true q203
                       obtain ⟨Ao108,co108,eo108⟩:=Kd.R_slice HO_11.out
                       subst eo108
                       have p205:0≤(x12_3:Int):=of_decide_eq_true (by first|(with_reducible assumption)|assumption)
                       have q205:x12_3<(t197.length:Int):=of_decide_eq_true (by first|(with_reducible assumption)|assumption)
                       obtain ⟨ad205,e205,hx205_0⟩:=Kd.at_bool (Kd.R_reads' HO_11.out).2.2 x12_3 p205 q205
                       (try rw [← Nbq95.out] at hx205_0)
                       cases e205
                       replace p205:=eq_true p205
                       replace q205:=eq_true q205
                       have p105:0≤(x12_3:Int):=of_decide_eq_true (by first|(with_reducible assumption)|assumption)
                       have q105:(x12_3:Int)<((x5_3.length:Int):Int):=of_decide_eq_true (by first|(with_reducible assumption)|assumption)
                       obtain ⟨go105,co105,eo105,gb105,gl105,cl105,HG105⟩:=Kd.R_form HO_5.out (by omega)
                       (first|cases eo105|(injection eo105 with ea_ en_ ec_;(first|subst ea_|(injection ea_ with ea_;subst ea_));subst ec_;clear en_))
                       have GB105:=Aside0.mk gb105
                       have GG105:=Aside0.mk HG105
                       clear gb105 gl105 HG105
                       obtain ⟨hx105_0,hf105_0⟩:=Kd.R_celln false HO_5.out (x12_3:Int) p105 q105
                       replace p105:=eq_true p105
                       replace q105:=eq_true q105
                       have HP109:=Kd.R_putg HO_5.out (x12_3:Int) (rdOf false t197 x12_3)
                       go_wp2_with (first|((with_reducible refine gate_store (t:=4) (p:=139) rfl ?_);refine store_event (t:=4) (p:=139) (v:=?vo_w110) (w1:=(wr.setCell ⟨go105,(x12_3:Int).toNat,none⟩ (.bool (rdOf false t197 x12_3)))) ?hg ?ho ?hn ?hr ?_;(case ho=>rfl);(case hg=>rfl);(case hn=>rfl);(case hr=>first|(go_simp;done)|(go_simp;rfl));intro w110 hw;have hg:wr.grownBy w110 (some go105):=(by rw [hw];exact HP109.2);have hp_:Kd.R Kd.bool 4 w110 w.heap.size (fun k_=>some k_≠(.slice (some ad203) t183.length co107:Value).ownBlock∧some k_≠(.slice (some ad205) t197.length co108:Value).ownBlock) (.slice (some ⟨go105,0,none⟩) x5_3.length co105) y206:=(by rw [hw,Ny206.out];exact HP109.1);clear HP109;have n0_:=Aside0.mk (hp_);have n1_:=Aside0.mk (Kd.R_after (v:=(.slice (some ⟨go105,0,none⟩) x5_3.length co105)) (v1:=(.slice (some ⟨go105,0,none⟩) x5_3.length co105)) (ok:=(fun k_=>some k_≠(.slice (some ad205) t197.length co108:Value).ownBlock)) (by (with_reducible repeat (first|apply yH|apply yI|apply yJ));exact Kd.R_mono HO_7.out (fun _ hk=>⟨hk.2,hk.1⟩)) hg (.inl rfl));have n2_:=Aside0.mk (Kd.R_after (v:=(.slice (some ⟨go105,0,none⟩) x5_3.length co105)) (v1:=(.slice (some ⟨go105,0,none⟩) x5_3.length co105)) (ok:=(fun k_=>some k_≠(.slice (some ad203) t183.length co107:Value).ownBlock)) (by (with_reducible repeat (first|apply yH|apply yI|apply yJ));exact Kd.R_mono HO_11.out (fun _ hk=>⟨hk.2,hk.1⟩)) hg (.inl rfl));have n3_:=Aside0.mk (blk_grown (g:=gb176) (o:=.cells #[.int .u8 a0_0,.slice (some ad182) l0_1.length c0_1] 44 (0,0)) (by (with_reducible repeat (first|refine yE ?_ _|refine yF ?_|refine yG ?_ _));exact BK176.out) hg (Kd.R_ne HO_5.out BK176.out (by decide)));have n4_:=Aside0.mk ((by rw [hw];exact yD (HB.out) GB105.out:Below w.heap.size w w110));clear HO_5;clear HO_7;clear HO_11;clear BK176;clear HB;have HO_5:=n0_;have HO_7:=n1_;have HO_11:=n2_;have BK176:=n3_;have HB:=n4_;clear n0_ n1_ n2_ n3_ n4_;clear hg hw hp_))
                       go_roundg k3
                       case measure=>have:=HJ9.out;have:=HJ62.out;have:=HK3.out;omega
                       case rel=>exact ⟨(y206),(wrap64 (x12_3+1)),(by first|rfl|(simp;done)|(simp [*];done)|(simp [Int.tmod_eq_emod_of_nonneg];done)),H',⟨by have:=HJ9.out;have:=HJ62.out;have:=HK3.out;omega⟩,⟨by (with_reducible repeat (first|apply yH|apply yI|apply yJ));exact HO_5.out⟩,⟨by (with_reducible repeat (first|apply yH|apply yI|apply yJ));exact Kd.R_mono HO_7.out (fun _ hk=>⟨hk.2,hk.1⟩)⟩,⟨by (with_reducible repeat (first|apply yH|apply yI|apply yJ));exact Kd.R_mono HO_11.out (fun _ hk=>⟨hk.2,hk.1⟩)⟩,⟨by (with_reducible repeat (first|refine yE ?_ _|refine yF ?_|refine yG ?_ _));exact BK176.out⟩,⟨by repeat (first|(with_reducible first|exact HB.out|apply yA|apply yB|apply yC|refine yD ?_ GE176.out)|exact HB.out)⟩⟩
                      ·rw [if_neg c104] at H
                       exact absurd H (by simp)
                     ·rw [if_neg c103] at H
                      exact absurd H (by simp)
                   ·rw [if_neg c94] at H
                    exact absurd H (by simp)
                  ·rw [if_neg c93] at H
                   exact absurd H (by simp)
                 ·rw [if_neg c92] at H
                  have c92b0:(a0_0 == 43)=false:=beq_eq_false_iff_ne.mpr c92
                  have c92b1:(a0_0 != 43)=true:=bne_iff_ne.mpr c92
                  by_cases c111:0≤x12_3
                  ·rw [if_pos c111] at H
                   have c111b0:decide (0≤x12_3)=true:=decide_eq_true c111
                   clear c111
                   by_cases c112:x12_3<(t183.length:Int)
                   ·rw [if_pos c112] at H
                    have c112b0:decide (x12_3<(t183.length:Int))=true:=decide_eq_true c112
                    clear c112
                    obtain ⟨bq113,hbq113⟩:∃ b_:Bool,b_=(rdOf false t183 x12_3):=⟨_,rfl⟩
                    replace H:(if bq113=true then (if x12_3<(t197.length:Int) then (if x12_3<(x5_3.length:Int) then (spec_l7Marks.l3 k3 a1 (x5_3.set (x12_3:Int).toNat (rdOf false t197 x12_3)) t183 t197 (wrap64 (x12_3+1)) a0_0 l0_1) else (none)) else (none)) else (if x12_3<(x5_3.length:Int) then (spec_l7Marks.l3 k3 a1 (x5_3.set (x12_3:Int).toNat false) t183 t197 (wrap64 (x12_3+1)) a0_0 l0_1) else (none)))=some r:=by rw [← hbq113] at H;exact H
                    have Nbq113:=Aside0.mk hbq113
                    clear hbq113
                    by_cases c114:bq113=true
                    ·subst c114
                     have H1:(if x12_3<(t197.length:Int) then (if x12_3<(x5_3.length:Int) then (spec_l7Marks.l3 k3 a1 (x5_3.set (x12_3:Int).toNat (rdOf false t197 x12_3)) t183 t197 (wrap64 (x12_3+1)) a0_0 l0_1) else (none)) else (none))=some r:=by rw [if_pos rfl] at H;exact H
                     clear H
                     have H:=H1
                     clear H1
                     by_cases c115:x12_3<(t197.length:Int)
                     ·rw [if_pos c115] at H
                      have c115b0:decide (x12_3<(t197.length:Int))=true:=decide_eq_true c115
                      clear c115
                      by_cases c116:x12_3<(x5_3.length:Int)
                      ·rw [if_pos c116] at H
                       have c116b0:decide (x12_3<(x5_3.length:Int))=true:=decide_eq_true c116
                       clear c116
                       obtain ⟨y209,hy209⟩:∃ y_:List Bool,y_=(x5_3.set (x12_3:Int).toNat (rdOf false t197 x12_3)):=⟨_,rfl⟩
                       replace H:(spec_l7Marks.l3 k3 a1 y209 t183 t197 (wrap64 (x12_3+1)) a0_0 l0_1)=some r:=by first|(rw [hy209];with_reducible exact H)|(have H2_:=(Option.bind_some _ _).symm.trans H;rw [hy209];with_reducible exact H2_)|(have H2_:=(Option.bind_some _ _).symm.trans H;with_reducible exact H2_)|with_reducible exact H|(rw [hy209];exact H)|exact H
                       have Ny209:=Aside0.mk hy209
                       clear hy209
                       have H':=Aside0.mk H
                       clear H
                       have hcz118_0:wr.cell? ⟨gb176,0,none⟩=some (.int .u8 a0_0):=(blk_cell BK176.out 0).trans rfl
                       have hcz118_1:wr.cell? ⟨gb176,1,none⟩=some (.slice (some ad182) l0_1.length c0_1):=(blk_cell BK176.out 1).trans rfl
                       have hfz118_0:=blk_frozen BK176.out 0
                       have hfz118_1:=blk_frozen BK176.out 1
                       have HO_5k:=HO_5
                       obtain ⟨Ao119,co119,eo119⟩:=Kd.R_slice HO_7.out
                       subst eo119
                       have HO_5:=HO_5k
                       have p207:0≤(x12_3:Int):=of_decide_eq_true (by first|(with_reducible assumption)|assumption)
                       have q207:x12_3<(t183.length:Int):=of_decide_eq_true (by first|(with_reducible assumption)|assumption)
                       obtain ⟨ad207,e207,hx207_0⟩:=Kd.at_bool (Kd.R_reads' HO_7.out).2.2 x12_3 p207 q207
                       (try rw [← Nbq113.out] at hx207_0)
                       cases e207
                       replace p207:=eq_true p207
                       replace q207:=eq_true q207
                       obtain ⟨Ao120,co120,eo120⟩:=Kd.R_slice HO_11.out
                       subst eo120
                       have p208:0≤(x12_3:Int):=of_decide_eq_true (by first|(with_reducible assumption)|assumption)
                       have q208:x12_3<(t197.length:Int):=of_decide_eq_true (by first|(with_reducible assumption)|assumption)
                       obtain ⟨ad208,e208,hx208_0⟩:=Kd.at_bool (Kd.R_reads' HO_11.out).2.2 x12_3 p208 q208
                       (try rw [← Nbq113.out] at hx208_0)
                       cases e208
                       replace p208:=eq_true p208
                       replace q208:=eq_true q208
                       have p117:0≤(x12_3:Int):=of_decide_eq_true (by first|(with_reducible assumption)|assumption)
                       have q117:(x12_3:Int)<((x5_3.length:Int):Int):=of_decide_eq_true (by first|(with_reducible assumption)|assumption)
                       obtain ⟨go117,co117,eo117,gb117,gl117,cl117,HG117⟩:=Kd.R_form HO_5.out (by omega)
                       (first|cases eo117|(injection eo117 with ea_ en_ ec_;(first|subst ea_|(injection ea_ with ea_;subst ea_));subst ec_;clear en_))
                       have GB117:=Aside0.mk gb117
                       have GG117:=Aside0.mk HG117
                       clear gb117 gl117 HG117
                       obtain ⟨hx117_0,hf117_0⟩:=Kd.R_celln false HO_5.out (x12_3:Int) p117 q117
                       replace p117:=eq_true p117
                       replace q117:=eq_true q117
                       have HP121:=Kd.R_putg HO_5.out (x12_3:Int) (rdOf false t197 x12_3)
                       go_wp2_with (first|((with_reducible refine gate_store (t:=4) (p:=152) rfl ?_);refine store_event (t:=4) (p:=152) (v:=?vo_w122) (w1:=(wr.setCell ⟨go117,(x12_3:Int).toNat,none⟩ (.bool (rdOf false t197 x12_3)))) ?hg ?ho ?hn ?hr ?_;(case ho=>rfl);(case hg=>rfl);(case hn=>rfl);(case hr=>first|(go_simp;done)|(go_simp;rfl));intro w122 hw;have hg:wr.grownBy w122 (some go117):=(by rw [hw];exact HP121.2);have hp_:Kd.R Kd.bool 4 w122 w.heap.size (fun k_=>some k_≠(.slice (some ad207) t183.length co119:Value).ownBlock∧some k_≠(.slice (some ad208) t197.length co120:Value).ownBlock) (.slice (some ⟨go117,0,none⟩) x5_3.length co117) y209:=(by rw [hw,Ny209.out];exact HP121.1);clear HP121;have n0_:=Aside0.mk (hp_);have n1_:=Aside0.mk (Kd.R_after (v:=(.slice (some ⟨go117,0,none⟩) x5_3.length co117)) (v1:=(.slice (some ⟨go117,0,none⟩) x5_3.length co117)) (ok:=(fun k_=>some k_≠(.slice (some ad208) t197.length co120:Value).ownBlock)) (by (with_reducible repeat (first|apply yH|apply yI|apply yJ));exact Kd.R_mono HO_7.out (fun _ hk=>⟨hk.2,hk.1⟩)) hg (.inl rfl));have n2_:=Aside0.mk (Kd.R_after (v:=(.slice (some ⟨go117,0,none⟩) x5_3.length co117)) (v1:=(.slice (some ⟨go117,0,none⟩) x5_3.length co117)) (ok:=(fun k_=>some k_≠(.slice (some ad207) t183.length co119:Value).ownBlock)) (by (with_reducible repeat (first|apply yH|apply yI|apply yJ));exact Kd.R_mono HO_11.out (fun _ hk=>⟨hk.2,hk.1⟩)) hg (.inl rfl));have n3_:=Aside0.mk (blk_grown (g:=gb176) (o:=.cells #[.int .u8 a0_0,.slice (some ad182) l0_1.length c0_1] 44 (0,0)) (by (with_reducible repeat (first|refine yE ?_ _|refine yF ?_|refine yG ?_ _));exact BK176.out) hg (Kd.R_ne HO_5.out BK176.out (by decide)));have n4_:=Aside0.mk ((by rw [hw];exact yD (HB.out) GB117.out:Below w.heap.size w w122));clear HO_5;clear HO_7;clear HO_11;clear BK176;clear HB;have HO_5:=n0_;have HO_7:=n1_;have HO_11:=n2_;have BK176:=n3_;have HB:=n4_;clear n0_ n1_ n2_ n3_ n4_;clear hg hw hp_))
                       go_roundg k3
                       case measure=>have:=HJ9.out;have:=HJ62.out;have:=HK3.out;omega
                       case rel=>exact ⟨(y209),(wrap64 (x12_3+1)),(by first|rfl|(simp;done)|(simp [*];done)|(simp [Int.tmod_eq_emod_of_nonneg];done)),H',⟨by have:=HJ9.out;have:=HJ62.out;have:=HK3.out;omega⟩,⟨by (with_reducible repeat (first|apply yH|apply yI|apply yJ));exact HO_5.out⟩,⟨by (with_reducible repeat (first|apply yH|apply yI|apply yJ));exact Kd.R_mono HO_7.out (fun _ hk=>⟨hk.2,hk.1⟩)⟩,⟨by (with_reducible repeat (first|apply yH|apply yI|apply yJ));exact Kd.R_mono HO_11.out (fun _ hk=>⟨hk.2,hk.1⟩)⟩,⟨by (with_reducible repeat (first|refine yE ?_ _|refine yF ?_|refine yG ?_ _));exact BK176.out⟩,⟨by repeat (first|(with_reducible first|exact HB.out|apply yA|apply yB|apply yC|refine yD ?_ GE176.out)|exact HB.out)⟩⟩
                      ·rw [if_neg c116] at H
                       exact absurd H (by simp)
                     ·rw [if_neg c115] at H
                      exact absurd H (by simp)
                    ·replace c114:=Bool.eq_false_iff.mpr c114
                     subst c114
                     have H1:(if x12_3<(x5_3.length:Int) then (spec_l7Marks.l3 k3 a1 (x5_3.set (x12_3:Int).toNat false) t183 t197 (wrap64 (x12_3+1)) a0_0 l0_1) else (none))=some r:=by rw [if_neg (show ¬ (false=true) by decide)] at H;exact H
                     clear H
                     have H:=H1
                     clear H1
                     by_cases c123:x12_3<(x5_3.length:Int)
                     ·rw [if_pos c123] at H
                      have c123b0:decide (x12_3<(x5_3.length:Int))=true:=decide_eq_true c123
                      clear c123
                      obtain ⟨y210,hy210⟩:∃ y_:List Bool,y_=(x5_3.set (x12_3:Int).toNat false):=⟨_,rfl⟩
                      replace H:(spec_l7Marks.l3 k3 a1 y210 t183 t197 (wrap64 (x12_3+1)) a0_0 l0_1)=some r:=by first|(rw [hy210];with_reducible exact H)|(have H2_:=(Option.bind_some _ _).symm.trans H;rw [hy210];with_reducible exact H2_)|(have H2_:=(Option.bind_some _ _).symm.trans H;with_reducible exact H2_)|with_reducible exact H|(rw [hy210];exact H)|exact H
                      have Ny210:=Aside0.mk hy210
                      clear hy210
                      have H':=Aside0.mk H
                      clear H
                      have hcz125_0:wr.cell? ⟨gb176,0,none⟩=some (.int .u8 a0_0):=(blk_cell BK176.out 0).trans rfl
                      have hcz125_1:wr.cell? ⟨gb176,1,none⟩=some (.slice (some ad182) l0_1.length c0_1):=(blk_cell BK176.out 1).trans rfl
                      have hfz125_0:=blk_frozen BK176.out 0
                      have hfz125_1:=blk_frozen BK176.out 1
                      have HO_5k:=HO_5
                      obtain ⟨Ao126,co126,eo126⟩:=Kd.R_slice HO_7.out
                      subst eo126
                      have HO_5:=HO_5k
                      have p207:0≤(x12_3:Int):=of_decide_eq_true (by first|(with_reducible assumption)|assumption)
                      have q207:x12_3<(t183.length:Int):=of_decide_eq_true (by first|(with_reducible assumption)|assumption)
                      obtain ⟨ad207,e207,hx207_0⟩:=Kd.at_bool (Kd.R_reads' HO_7.out).2.2 x12_3 p207 q207
                      (try rw [← Nbq113.out] at hx207_0)
                      cases e207
                      replace p207:=eq_true p207
                      replace q207:=eq_true q207
                      have p124:0≤(x12_3:Int):=of_decide_eq_true (by first|(with_reducible assumption)|assumption)
                      have q124:(x12_3:Int)<((x5_3.length:Int):Int):=of_decide_eq_true (by first|(with_reducible assumption)|assumption)
                      obtain ⟨go124,co124,eo124,gb124,gl124,cl124,HG124⟩:=Kd.R_form HO_5.out (by omega)
                      (first|cases eo124|(injection eo124 with ea_ en_ ec_;(first|subst ea_|(injection ea_ with ea_;subst ea_));subst ec_;clear en_))
                      have GB124:=Aside0.mk gb124
                      have GG124:=Aside0.mk HG124
                      clear gb124 gl124 HG124
                      obtain ⟨hx124_0,hf124_0⟩:=Kd.R_celln false HO_5.out (x12_3:Int) p124 q124
                      replace p124:=eq_true p124
                      replace q124:=eq_true q124
                      have HP127:=Kd.R_putg HO_5.out (x12_3:Int) false
                      go_wp2_with (first|((with_reducible refine gate_store (t:=4) (p:=152) rfl ?_);refine store_event (t:=4) (p:=152) (v:=?vo_w128) (w1:=(wr.setCell ⟨go124,(x12_3:Int).toNat,none⟩ (.bool false))) ?hg ?ho ?hn ?hr ?_;(case ho=>rfl);(case hg=>rfl);(case hn=>rfl);(case hr=>first|(go_simp;done)|(go_simp;rfl));intro w128 hw;have hg:wr.grownBy w128 (some go124):=(by rw [hw];exact HP127.2);have hp_:Kd.R Kd.bool 4 w128 w.heap.size (fun k_=>some k_≠(.slice (some ad207) t183.length co126:Value).ownBlock∧some k_≠(v198:Value).ownBlock) (.slice (some ⟨go124,0,none⟩) x5_3.length co124) y210:=(by rw [hw,Ny210.out];exact HP127.1);clear HP127;have n0_:=Aside0.mk (hp_);have n1_:=Aside0.mk (Kd.R_after (v:=(.slice (some ⟨go124,0,none⟩) x5_3.length co124)) (v1:=(.slice (some ⟨go124,0,none⟩) x5_3.length co124)) (ok:=(fun k_=>some k_≠(v198:Value).ownBlock)) (by (with_reducible repeat (first|apply yH|apply yI|apply yJ));exact Kd.R_mono HO_7.out (fun _ hk=>⟨hk.2,hk.1⟩)) hg (.inl rfl));have n2_:=Aside0.mk (Kd.R_after (v:=(.slice (some ⟨go124,0,none⟩) x5_3.length co124)) (v1:=(.slice (some ⟨go124,0,none⟩) x5_3.length co124)) (ok:=(fun k_=>some k_≠(.slice (some ad207) t183.length co126:Value).ownBlock)) (by (with_reducible repeat (first|apply yH|apply yI|apply yJ));exact Kd.R_mono HO_11.out (fun _ hk=>⟨hk.2,hk.1⟩)) hg (.inl rfl));have n3_:=Aside0.mk (blk_grown (g:=gb176) (o:=.cells #[.int .u8 a0_0,.slice (some ad182) l0_1.length c0_1] 44 (0,0)) (by (with_reducible repeat (first|refine yE ?_ _|refine yF ?_|refine yG ?_ _));exact BK176.out) hg (Kd.R_ne HO_5.out BK176.out (by decide)));have n4_:=Aside0.mk ((by rw [hw];exact yD (HB.out) GB124.out:Below w.heap.size w w128));clear HO_5;clear HO_7;clear HO_11;clear BK176;clear HB;have HO_5:=n0_;have HO_7:=n1_;have HO_11:=n2_;have BK176:=n3_;have HB:=n4_;clear n0_ n1_ n2_ n3_ n4_;clear hg hw hp_))
                      go_roundg k3
                      case measure=>have:=HJ9.out;have:=HJ62.out;have:=HK3.out;omega
                      case rel=>exact ⟨(y210),(wrap64 (x12_3+1)),(by first|rfl|(simp;done)|(simp [*];done)|(simp [Int.tmod_eq_emod_of_nonneg];done)),H',⟨by have:=HJ9.out;have:=HJ62.out;have:=HK3.out;omega⟩,⟨by (with_reducible repeat (first|apply yH|apply yI|apply yJ));exact HO_5.out⟩,⟨by (with_reducible repeat (first|apply yH|apply yI|apply yJ));exact Kd.R_mono HO_7.out (fun _ hk=>⟨hk.2,hk.1⟩)⟩,⟨by (with_reducible repeat (first|apply yH|apply yI|apply yJ));exact Kd.R_mono HO_11.out (fun _ hk=>⟨hk.2,hk.1⟩)⟩,⟨by (with_reducible repeat (first|refine yE ?_ _|refine yF ?_|refine yG ?_ _));exact BK176.out⟩,⟨by repeat (first|(with_reducible first|exact HB.out|apply yA|apply yB|apply yC|refine yD ?_ GE176.out)|exact HB.out)⟩⟩
                     ·rw [if_neg c123] at H
                      exact absurd H (by simp)
                   ·rw [if_neg c112] at H
                    exact absurd H (by simp)
                  ·rw [if_neg c111] at H
                   exact absurd H (by simp)
                ·rw [if_neg c91] at H
                 have c91b0:decide (x12_3<a1)=false:=decide_eq_false c91
                 clear c91
                 obtain rfl:=Option.some.inj H
                 go_wp2
                 go_ret
                 exact ⟨_,by first|rfl|(simp [errW_none,errW_some]<;>rfl)|(simp [*,errW_none,errW_some]<;>rfl)|(simp [errW_none,errW_some];exact ⟨rfl,rfl⟩),by (with_reducible repeat (first|apply yH|apply yI|apply yJ));exact Kd.R_mono HO_5.out (fun _ hk=>trivial),by repeat (first|(with_reducible first|exact HB.out|apply yA|apply yB|apply yC|refine yD ?_ GE176.out)|exact HB.out)⟩
            ·rw [if_neg c78] at H
             exact absurd H (by simp)
       ·rw [if_neg c28] at H
        exact absurd H (by simp)
  ·rw [if_neg c4] at H
   exact absurd H (by simp)
 ·rw [if_neg c3] at H
  exact absurd H (by simp)

end Go.Proofs.Ytjjnckgdpdelkaa.P
