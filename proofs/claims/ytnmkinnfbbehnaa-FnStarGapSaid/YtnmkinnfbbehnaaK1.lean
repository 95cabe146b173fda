/- What these laws reach, joined by a program of this session: contracts (written by that program over the kit's print, or by hand) and plain lemmas. -/
import Derived.Test.YtnmkinnfbbehnaaProg
import Derived.Below
import Derived.Deep.Draws
import Derived.Deep.AppendLies
import Derived.Maps.AppendAt
import Derived.OwnWalk
import Derived.Laws.BytesArg
import Derived.Laws.MakeOwn
import Derived.Laws.OwnMore
import Derived.Deep.OwnRows
import Derived.Tactics
import Derived.Lib.ConvBytes
import Derived.Laws.Slices
import Derived.WalkKit
import Derived.KernelRfl
import Derived.RowKit3
import Derived.Deep.LoopGhost
import Derived.Deep.QuietTactic
import Derived.BigQuiet
import Derived.WideLaws
import Derived.Deep.DeepCutAuto
import Derived.Deep.CutBlock
import Derived.Deep.RegionHeld3
import Derived.Laws.Rows
import Derived.Lib.AppendStr
import Derived.ArgAppend
import Derived.Laws.IdiomCopy
import Derived.OrdersHeld
import Derived.Laws.BitsLemmas
import Derived.RowKit
import Derived.Test.YtnmkinnfbbehnaaV
import Derived.Lib.SliceRun
import Derived.WalkSpells
open Go.Proofs.YtnmkinnfbbehnaaW.PrintWords renaming below_alloc → yA, pw_below_drewN → yB, below_drew1 → yC, below_set → yD, blk_drewN → yE, blk_drew → yF, blk_alloc → yG, below_step → yP, below_size → yQ
open Go.Proofs.YtnmkinnfbbehnaaW.PrintWords.Kd renaming R_alloc → yH, R_drewN → yI, R_drew → yJ
open List renaming setIfInBounds_toArray → yK, set_cons_zero → yL, set_cons_succ → yM
namespace Go.Proofs.Ytnmkinnfbbehnaa.P
open Go.RowKit Go.Proofs.YtnmkinnfbbehnaaW.PrintWords Go.Proofs.YtnmkinnfbbehnaaW.PrintLast Go.Proofs.YtnmkinnfbbehnaaW.PrintMore
attribute [local go_sem] max2_int min2_int max_two min_two max_three min_three max_four min_four   -- for this text's walks alone
set_option linter.unusedVariables false
set_option linter.unusedSimpArgs false

def errW : Option Int → Value
  | none => .nilIface
  | some c => .iface 0 (.int .i64 c)
theorem errW_none : errW none = .nilIface := rfl
theorem errW_some (c : Int) : errW (some c) = .iface 0 (.int .i64 c) := rfl

theorem bne_f {a b : Bool} (h : ¬ (a != b) = true) : (a == b) = true := by cases a <;> cases b <;> simp_all
theorem bne_t {a b : Bool} (h : (a != b) = true) : (a == b) = false := by cases a <;> cases b <;> simp_all
theorem bne_ft {a : Bool} (h : ¬ (a != (!false)) = true) : (!a) = false := by cases a <;> simp_all
theorem bne_tt {a : Bool} (h : (a != (!false)) = true) : (!a) = true := by cases a <;> simp_all

theorem info3 : (Try.prog.info? 3).map (fun i => (i.zero, i.size, i.bytes)) = some (some (.int .i64 0), 1, 8) := by kernel_rfl
theorem info4 : (Try.prog.info? 4).map (fun i => (i.zero, i.size, i.bytes)) = some (some (.bool false), 1, 1) := by kernel_rfl
theorem info5 : (Try.prog.info? 5).map (fun i => (i.zero, i.size, i.bytes)) = some (some (.int .u8 0), 1, 1) := by kernel_rfl
theorem info9 : (Try.prog.info? 9).map (fun i => (i.zero, i.size, i.bytes)) = some (some (.string ⟨#[]⟩), 1, 16) := by kernel_rfl
-- the values' own types

end Go.Proofs.Ytnmkinnfbbehnaa.P

-- '[]byte(s)': a new row of bytes, which is only read.
namespace Go.Proofs.Ytnmkinnfbbehnaa.P
open Go.RowKit Go.Proofs.YtnmkinnfbbehnaaW.PrintWords Go.Proofs.YtnmkinnfbbehnaaW.PrintLast Go.Proofs.YtnmkinnfbbehnaaW.PrintMore
set_option linter.unusedVariables false
set_option linter.unusedSimpArgs false

def bytesConv.f (a0 : ByteArray) : Option (List Int) := if a0.size ≤ 70368744177664 then some (bytesOf a0) else none

theorem conv_event {P : Program} {ops : Array Oper} {rest : List Oper} {o : Oper} {a : Act} {Q : Exit → Act → World → Prop} {W : World} (N : Tmp) (hd : o.dst = some N) (hg : o.guard = none) (T t e : TypeId) {u : TypeDesc}
    (hs : P.underlying T = some u) (ht : P.underlying t = some (.slice e)) (he : P.underlying e = some (.int .u8)) (s : ByteArray) {r : List Int} (hr : bytesConv.f s = some r) (ho : ∃ x, o.op = .convert T t x ∧ a.eval x = .string s)
    (h : ∀ v w1, Kd.V (Kd.int .u8) e w1 W.heap.size (fun k_ => W.heap.size ≤ k_) v r → Below W.heap.size W w1 → wpList P ops Q rest (a.put (some N) v) w1) : wpList P ops Q (o :: rest) a W := by
  obtain ⟨x, hx, hv⟩ := ho
  unfold bytesConv.f at hr
  by_cases hsz : s.size ≤ 70368744177664
  · rw [if_pos hsz] at hr
    injection hr with hr
    subst hr
    have hrun : (execOp a.eval o).run P W = .ok (.value (.slice (some ⟨W.heap.size, 0, none⟩) s.size (grownCap W s.size 0 e))) (Lib.bytesWorld W e s) := by
      have hp := print_bytes T t e hs ht he s W
      unfold execOp
      simp only [hx, hv, Sem.run_bind, Sem.run_pure, hp, Result.andThen_ok]
    rw [← hd] at h
    refine Kd.event_run hg hrun (h _ _ ?_ ?_)
    · refine ⟨_, _, by rw [bytesOf_length], ?_, ?_⟩
      · rw [bytesOf_length]; exact grownCap_ge _ _ _ _
      · rw [bytesOf_length]
        intro W' hW
        have h1 := bytes_reads W e s (by omega)
        have hb : W'.heap[W.heap.size]? = (Lib.bytesWorld W e s).heap[W.heap.size]? := hW _ (Nat.le_refl _) (by rw [Lib.bytesWorld_size]; omega)
        refine Kd.C_of_reads (d := (0 : Int)) (h1 := fun _ => rfl) ?_
        obtain ⟨g1, g2, g3⟩ := h1
        refine ⟨g1, g2, fun hp => ?_⟩
        obtain ⟨ad, had, hc⟩ := g3 hp
        refine ⟨ad, had, fun j hj => ?_⟩
        rw [← hc j hj]
        injection had with had
        subst had
        have hbk : ((⟨W.heap.size, 0, none⟩ : Addr).add j).block = W.heap.size := by unfold Addr.add; split <;> rfl
        unfold World.cell?
        rw [hbk, hb]
    · exact bytes_below (Below.refl _ _) (Nat.le_refl _) e s
  · rw [if_neg hsz] at hr; cases hr
end Go.Proofs.Ytnmkinnfbbehnaa.P

-- slices.Clone at []bool: a new row of the same elements.
namespace Go.Proofs.Ytnmkinnfbbehnaa.P
open Go.RowKit Go.Proofs.YtnmkinnfbbehnaaW.PrintWords Go.Proofs.YtnmkinnfbbehnaaW.PrintLast Go.Proofs.YtnmkinnfbbehnaaW.PrintMore
set_option linter.unusedVariables false
set_option linter.unusedSimpArgs false

def slices_Clone_bool_bool.f (l0 : List Bool) : Option (List Bool) := if l0.length ≤ 70368744177664 then some l0 else none

set_option maxHeartbeats 4000000 in
set_option maxRecDepth 100000 in
theorem slices_Clone_bool_bool.calls (A0 : Option Addr) (c0 : Nat) (l0 : List Bool) (r : List Bool) (w : World) (hr0 : Kd.C Kd.bool w A0 l0.length l0) (hc0 : l0.length ≤ c0) (h : slices_Clone_bool_bool.f l0 = some r) :
    Calls Try.prog 32 #[.slice A0 l0.length c0] w fun e w' => ∃ v0_ : Value, e = .returned (v0_) ∧ Kd.R Kd.bool 4 w' w.heap.size (fun _ => True) v0_ r ∧ Below w.heap.size w w' := by
  have hlen : l0.length ≤ 70368744177664 := by
    unfold slices_Clone_bool_bool.f at h
    split at h
    · assumption
    · cases h
  obtain rfl : l0 = r := by
    unfold slices_Clone_bool_bool.f at h
    rw [if_pos hlen] at h
    injection h
  have hq : ∀ (w : World) (a : Option Addr) (n c n' c' : Nat), (binOp .eql 31 (.slice a n c) (.slice none n' c')).run Try.prog w = .ok (.bool a.isNone) w := fun w a n c n' c' => Lib.run_eql_slice_nil w _ _ a n c n' c' Try.underlying31
  have HR := Aside0.mk hr0
  clear hr0 h
  cases A0 with
  | none =>
    have h0 : l0 = [] := by
      rcases Nat.eq_zero_or_pos l0.length with h | h
      · exact List.eq_nil_of_length_eq_zero h
      · obtain ⟨ad, e, _⟩ := HR.out.2.2 h
        cases e
    subst h0
    go_enter Try.func32, Try.ntmps32
    go_wp2
    go_ret
    exact ⟨_, rfl, Kd.R_nil _ _ _ _ _, Below.refl _ _⟩
  | some ad =>
    have HL := Aside0.mk hlen
    clear hlen hc0
    go_enter Try.func32, Try.ntmps32
    go_wp2_with (first | ((with_reducible refine gate_dst (N := 5) rfl ?_); refine Kd.R_lit Kd.bool w.heap.size 4 ?hg (N := 5) ?hd (xs := ([] : List Bool)) (inner := []) (ok := fun _ => True) (okp := fun _ => True) ?hr ?hp (fun _ hk => hk) trivial (Below.refl _ _) (Nat.le_refl _) (by simp) ?_; (case hd => rfl); (case hg => rfl); (case hr => first | (go_simp; done) | (go_simp; rfl)); (case hp => exact (Reps.none _ _)); intro v1 w1 ho1 hb1 hg1 hn1; have HO := Aside0.mk ho1; have HB := Aside0.mk hb1; clear ho1 hb1 hg1 hn1) | ((with_reducible refine gate_builtin (b := .append) (xs := #[.tmp 5, .tmp 6]) rfl ?_); refine Kd.R_append_row Value.bool false (h1 := fun _ => rfl) (w0 := w) w.heap.size rfl (.tmp 5) (.tmp 6) 31 4 (.bool false) 1 rfl Try.underlying31 info4 rfl (by decide) v1 [] l0 (some ad) l0.length c0 (fun _ => True) rfl rfl (fun _ _ => trivial) HO.out (Kd.C_below HR.out HB.out) HB.out HB.out.size (by have := HL.out; simp; omega) ?_; intro v2 w2 ho2 hb2 hg2 hat2; have HO2 := Aside0.mk ho2; have HB2 := Aside0.mk hb2; clear ho2 hb2 hg2 hat2))
    go_ret
    exact ⟨_, rfl, by have h := HO2.out; rw [List.nil_append] at h; exact h, HB2.out⟩
end Go.Proofs.Ytnmkinnfbbehnaa.P

namespace Go.Proofs.Ytnmkinnfbbehnaa.P
open Go.RowKit Go.Proofs.YtnmkinnfbbehnaaW.PrintWords Go.Proofs.YtnmkinnfbbehnaaW.PrintLast Go.Proofs.YtnmkinnfbbehnaaW.PrintMore
attribute [local go_sem] max2_int min2_int max_two min_two max_three min_three max_four min_four   -- for this text's walks alone
set_option linter.unusedVariables false
set_option linter.unusedSimpArgs false

/-! ### impl_in: function 16 -/
def impl_in.f (a0:Int) (a1:Int) (a2:Int):Option (Bool):=if a0 ≥ a1 then (some (decide (a0≤a2))) else (some false)
set_option maxHeartbeats 8000000 in
set_option maxRecDepth 100000 in
theorem impl_in.calls (a0:Int) (a1:Int) (a2:Int) (r:Bool) (w:World) (h:impl_in.f a0 a1 a2=some r) :
  Calls Try.prog 16 #[.int .i64 a0,.int .i64 a1,.int .i64 a2] w fun e w'=>e=.returned (.bool r)∧Drawn0 w w':=by
 have H:(if a0 ≥ a1 then (some (decide (a0≤a2))) else (some false))=some r:=h
 clear h
 by_cases c4:a0 ≥ a1
 ·rw [if_pos c4] at H
  have c4b0:decide (a1≤a0)=true:=decide_eq_true c4
  clear c4
  obtain rfl:=Option.some.inj H
  go_enter Try.func16,Try.ntmps16
  go_wp2
  go_ret
  exact ⟨by first|rfl|(simp;done)|(simp [*];done),by repeat (first|exact Drawn0.refl _|apply Drawn0.step)⟩
 ·rw [if_neg c4] at H
  have c4b0:decide (a1≤a0)=false:=decide_eq_false c4
  clear c4
  obtain rfl:=Option.some.inj H
  go_enter Try.func16,Try.ntmps16
  go_wp2
  go_ret
  exact ⟨by first|rfl|(simp;done)|(simp [*];done),by repeat (first|exact Drawn0.refl _|apply Drawn0.step)⟩

end Go.Proofs.Ytnmkinnfbbehnaa.P

namespace Go.Proofs.Ytnmkinnfbbehnaa.P
open Go.RowKit Go.Proofs.YtnmkinnfbbehnaaW.PrintWords Go.Proofs.YtnmkinnfbbehnaaW.PrintLast Go.Proofs.YtnmkinnfbbehnaaW.PrintMore
attribute [local go_sem] max2_int min2_int max_two min_two max_three min_three max_four min_four   -- for this text's walks alone
set_option linter.unusedVariables false
set_option linter.unusedSimpArgs false

/-! ### impl_set_has: function 20 -/
def impl_set_has.f (l0_0:List Bool) (l0_1:List Bool) (a1:Int):Option (Bool):=if a1<0 then (some false) else (if a1<(l0_0.length:Int) then (if 0≤a1 then (some (rdOf false l0_0 a1)) else (none)) else (if (l0_1.length:Int)=0 then (none) else (if 0≤(Int.tmod (wrap64 (a1 - (l0_0.length:Int))) (l0_1.length:Int)) then (if (Int.tmod (wrap64 (a1 - (l0_0.length:Int))) (l0_1.length:Int))<(l0_1.length:Int) then (some (rdOf false l0_1 (Int.tmod (wrap64 (a1 - (l0_0.length:Int))) (l0_1.length:Int)))) else (none)) else (none))))
set_option maxHeartbeats 8000000 in
set_option maxRecDepth 100000 in
theorem impl_set_has.calls (A0_0:Option Addr) (c0_0:Nat) (l0_0:List Bool) (A0_1:Option Addr) (c0_1:Nat) (l0_1:List Bool) (a1:Int) (r:Bool) (w:World) (hr0_0:Kd.C Kd.bool w A0_0 l0_0.length l0_0) (hc0_0:l0_0.length≤c0_0) (hr0_1:Kd.C Kd.bool w A0_1 l0_1.length l0_1) (hc0_1:l0_1.length≤c0_1) (h:impl_set_has.f l0_0 l0_1 a1=some r) :
  Calls Try.prog 20 #[.agg #[.slice A0_0 l0_0.length c0_0,.slice A0_1 l0_1.length c0_1],.int .i64 a1] w fun e w'=>e=.returned (.bool r)∧Below w.heap.size w w':=by
 have hu33:=Try.underlying33
 have HR0_0:=Aside0.mk hr0_0
 have HC0_0:=Aside0.mk hc0_0
 clear hr0_0 hc0_0
 have HR0_1:=Aside0.mk hr0_1
 have HC0_1:=Aside0.mk hc0_1
 clear hr0_1 hc0_1
 have HB:=Aside0.mk (Below.refl w.heap.size w)
 have H:(if a1<0 then (some false) else (if a1<(l0_0.length:Int) then (if 0≤a1 then (some (rdOf false l0_0 a1)) else (none)) else (if (l0_1.length:Int)=0 then (none) else (if 0≤(Int.tmod (wrap64 (a1 - (l0_0.length:Int))) (l0_1.length:Int)) then (if (Int.tmod (wrap64 (a1 - (l0_0.length:Int))) (l0_1.length:Int))<(l0_1.length:Int) then (some (rdOf false l0_1 (Int.tmod (wrap64 (a1 - (l0_0.length:Int))) (l0_1.length:Int)))) else (none)) else (none)))))=some r:=h
 clear h
 by_cases c3:a1<0
 ·rw [if_pos c3] at H
  have c3b0:decide (a1<0)=true:=decide_eq_true c3
  clear c3
  obtain rfl:=Option.some.inj H
  go_enter Try.func20,Try.ntmps20
  go_wp2_with (first|((with_reducible refine gate_dst (N:=2) rfl ?_);refine box_event ?hg (N:=2) ?hd (cs:=#[.slice A0_0 l0_0.length c0_0,.slice A0_1 l0_1.length c0_1]) (t:=33) ?hr ?_;(case hd=>rfl);(case hg=>rfl);(case hr=>first|(go_simp;done)|(go_simp;rfl));intro gb219 hg w4 hbox hb;have n0_:=Aside0.mk (yP (by repeat (first|(with_reducible first|exact HB.out|apply yA|apply yB|apply yC)|exact HB.out)) hb);have n1_:=Aside0.mk (hbox);have n2_:=Aside0.mk ((by rw [hg];exact (yQ (by repeat (first|(with_reducible first|exact HB.out|apply yA|apply yB|apply yC)|exact HB.out))):w.heap.size≤gb219));have n3_:=Aside0.mk ((by rw [hg];exact (yQ (by repeat (first|(with_reducible first|exact HB.out|apply yA|apply yB|apply yC)|exact HB.out))):w.heap.size≤gb219));clear HB;have HB:=n0_;have BK219:=n1_;have GW219:=n2_;have GE219:=n3_;clear n0_ n1_ n2_ n3_;clear hb hbox hg))
  repeat (go_quiet (first|((with_reducible refine gate_dst (N:=2) rfl ?_);refine box_event ?hg (N:=2) ?hd (cs:=#[.slice A0_0 l0_0.length c0_0,.slice A0_1 l0_1.length c0_1]) (t:=33) ?hr ?_;(case hd=>rfl);(case hg=>rfl);(case hr=>first|(go_simp;done)|(go_simp;rfl));intro gb219 hg w4 hbox hb;have n0_:=Aside0.mk (yP (by repeat (first|(with_reducible first|exact HB.out|apply yA|apply yB|apply yC)|exact HB.out)) hb);have n1_:=Aside0.mk (hbox);have n2_:=Aside0.mk ((by rw [hg];exact (yQ (by repeat (first|(with_reducible first|exact HB.out|apply yA|apply yB|apply yC)|exact HB.out))):w.heap.size≤gb219));have n3_:=Aside0.mk ((by rw [hg];exact (yQ (by repeat (first|(with_reducible first|exact HB.out|apply yA|apply yB|apply yC)|exact HB.out))):w.heap.size≤gb219));clear HB;have HB:=n0_;have BK219:=n1_;have GW219:=n2_;have GE219:=n3_;clear n0_ n1_ n2_ n3_;clear hb hbox hg));try go_wp2_with (first|((with_reducible refine gate_dst (N:=2) rfl ?_);refine box_event ?hg (N:=2) ?hd (cs:=#[.slice A0_0 l0_0.length c0_0,.slice A0_1 l0_1.length c0_1]) (t:=33) ?hr ?_;(case hd=>rfl);(case hg=>rfl);(case hr=>first|(go_simp;done)|(go_simp;rfl));intro gb219 hg w4 hbox hb;have n0_:=Aside0.mk (yP (by repeat (first|(with_reducible first|exact HB.out|apply yA|apply yB|apply yC)|exact HB.out)) hb);have n1_:=Aside0.mk (hbox);have n2_:=Aside0.mk ((by rw [hg];exact (yQ (by repeat (first|(with_reducible first|exact HB.out|apply yA|apply yB|apply yC)|exact HB.out))):w.heap.size≤gb219));have n3_:=Aside0.mk ((by rw [hg];exact (yQ (by repeat (first|(with_reducible first|exact HB.out|apply yA|apply yB|apply yC)|exact HB.out))):w.heap.size≤gb219));clear HB;have HB:=n0_;have BK219:=n1_;have GW219:=n2_;have GE219:=n3_;clear n0_ n1_ n2_ n3_;clear hb hbox hg)))
  go_ret
  exact ⟨by first|rfl|(simp [errW_none,errW_some]<;>rfl)|(simp [*,errW_none,errW_some]<;>rfl)|(simp [errW_none,errW_some];exact ⟨rfl,rfl⟩),by repeat (first|(with_reducible first|exact HB.out|apply yA|apply yB|apply yC|refine yD ?_ GE219.out)|exact HB.out)⟩
 ·rw [if_neg c3] at H
  have c3b0:decide (a1<0)=false:=decide_eq_false c3
  clear c3
  by_cases c5:a1<(l0_0.length:Int)
  ·rw [if_pos c5] at H
   have c5b0:decide (a1<(l0_0.length:Int))=true:=decide_eq_true c5
   clear c5
   by_cases c6:0≤a1
   ·rw [if_pos c6] at H
    have c6b0:decide (0≤a1)=true:=decide_eq_true c6
    clear c6
    obtain rfl:=Option.some.inj H
    go_enter Try.func20,Try.ntmps20
    go_wp2_with (first|((with_reducible refine gate_dst (N:=2) rfl ?_);refine box_event ?hg (N:=2) ?hd (cs:=#[.slice A0_0 l0_0.length c0_0,.slice A0_1 l0_1.length c0_1]) (t:=33) ?hr ?_;(case hd=>rfl);(case hg=>rfl);(case hr=>first|(go_simp;done)|(go_simp;rfl));intro gb219 hg w7 hbox hb;have n0_:=Aside0.mk (yP (by repeat (first|(with_reducible first|exact HB.out|apply yA|apply yB|apply yC)|exact HB.out)) hb);have n1_:=Aside0.mk (hbox);have n2_:=Aside0.mk ((by rw [hg];exact (yQ (by repeat (first|(with_reducible first|exact HB.out|apply yA|apply yB|apply yC)|exact HB.out))):w.heap.size≤gb219));have n3_:=Aside0.mk ((by rw [hg];exact (yQ (by repeat (first|(with_reducible first|exact HB.out|apply yA|apply yB|apply yC)|exact HB.out))):w.heap.size≤gb219));clear HB;have HB:=n0_;have BK219:=n1_;have GW219:=n2_;have GE219:=n3_;clear n0_ n1_ n2_ n3_;clear hb hbox hg;have hcz8_0:w7.cell? ⟨gb219,0,none⟩=some (.slice A0_0 l0_0.length c0_0):=(blk_cell BK219.out 0).trans rfl;have hcz8_1:w7.cell? ⟨gb219,1,none⟩=some (.slice A0_1 l0_1.length c0_1):=(blk_cell BK219.out 1).trans rfl;have hfz8_0:=blk_frozen BK219.out 0;have hfz8_1:=blk_frozen BK219.out 1;have p220:0≤(a1:Int):=of_decide_eq_true (by first|(with_reducible assumption)|assumption);have q220:a1<(l0_0.length:Int):=of_decide_eq_true (by first|(with_reducible assumption)|assumption);obtain ⟨ad220,e220,hx220_0⟩:=Kd.at_bool HR0_0.out a1 p220 q220;cases e220;replace hx220_0:=(HB.out.cell (World.block_lt_of_cell? w _ hx220_0)).trans hx220_0;replace p220:=eq_true p220;replace q220:=eq_true q220))
    repeat (go_quiet (first|((with_reducible refine gate_dst (N:=2) rfl ?_);refine box_event ?hg (N:=2) ?hd (cs:=#[.slice A0_0 l0_0.length c0_0,.slice A0_1 l0_1.length c0_1]) (t:=33) ?hr ?_;(case hd=>rfl);(case hg=>rfl);(case hr=>first|(go_simp;done)|(go_simp;rfl));intro gb219 hg w7 hbox hb;have n0_:=Aside0.mk (yP (by repeat (first|(with_reducible first|exact HB.out|apply yA|apply yB|apply yC)|exact HB.out)) hb);have n1_:=Aside0.mk (hbox);have n2_:=Aside0.mk ((by rw [hg];exact (yQ (by repeat (first|(with_reducible first|exact HB.out|apply yA|apply yB|apply yC)|exact HB.out))):w.heap.size≤gb219));have n3_:=Aside0.mk ((by rw [hg];exact (yQ (by repeat (first|(with_reducible first|exact HB.out|apply yA|apply yB|apply yC)|exact HB.out))):w.heap.size≤gb219));clear HB;have HB:=n0_;have BK219:=n1_;have GW219:=n2_;have GE219:=n3_;clear n0_ n1_ n2_ n3_;clear hb hbox hg;have hcz8_0:w7.cell? ⟨gb219,0,none⟩=some (.slice A0_0 l0_0.length c0_0):=(blk_cell BK219.out 0).trans rfl;have hcz8_1:w7.cell? ⟨gb219,1,none⟩=some (.slice A0_1 l0_1.length c0_1):=(blk_cell BK219.out 1).trans rfl;have hfz8_0:=blk_frozen BK219.out 0;have hfz8_1:=blk_frozen BK219.out 1;have p220:0≤(a1:Int):=of_decide_eq_true (by first|(with_reducible assumption)|assumption);have q220:a1<(l0_0.length:Int):=of_decide_eq_true (by first|(with_reducible assumption)|assumption);obtain ⟨ad220,e220,hx220_0⟩:=Kd.at_bool HR0_0.out a1 p220 q220;cases e220;replace hx220_0:=(HB.out.cell (World.block_lt_of_cell? w _ hx220_0)).trans hx220_0;replace p220:=eq_true p220;replace q220:=eq_true q220));try go_wp2_with (first|((with_reducible refine gate_dst (N:=2) rfl ?_);refine box_event ?hg (N:=2) ?hd (cs:=#[.slice A0_0 l0_0.length c0_0,.slice A0_1 l0_1.length c0_1]) (t:=33) ?hr ?_;(case hd=>rfl);(case hg=>rfl);(case hr=>first|(go_simp;done)|(go_simp;rfl));intro gb219 hg w7 hbox hb;have n0_:=Aside0.mk (yP (by repeat (first|(with_reducible first|exact HB.out|apply yA|apply yB|apply yC)|exact HB.out)) hb);have n1_:=Aside0.mk (hbox);have n2_:=Aside0.mk ((by rw [hg];exact (yQ (by repeat (first|(with_reducible first|exact HB.out|apply yA|apply yB|apply yC)|exact HB.out))):w.heap.size≤gb219));have n3_:=Aside0.mk ((by rw [hg];exact (yQ (by repeat (first|(with_reducible first|exact HB.out|apply yA|apply yB|apply yC)|exact HB.out))):w.heap.size≤gb219));clear HB;have HB:=n0_;have BK219:=n1_;have GW219:=n2_;have GE219:=n3_;clear n0_ n1_ n2_ n3_;clear hb hbox hg;have hcz8_0:w7.cell? ⟨gb219,0,none⟩=some (.slice A0_0 l0_0.length c0_0):=(blk_cell BK219.out 0).trans rfl;have hcz8_1:w7.cell? ⟨gb219,1,none⟩=some (.slice A0_1 l0_1.length c0_1):=(blk_cell BK219.out 1).trans rfl;have hfz8_0:=blk_frozen BK219.out 0;have hfz8_1:=blk_frozen BK219.out 1;have p220:0≤(a1:Int):=of_decide_eq_true (by first|(with_reducible assumption)|assumption);have q220:a1<(l0_0.length:Int):=of_decide_eq_true (by first|(with_reducible assumption)|assumption);obtain ⟨ad220,e220,hx220_0⟩:=Kd.at_bool HR0_0.out a1 p220 q220;cases e220;replace hx220_0:=(HB.out.cell (World.block_lt_of_cell? w _ hx220_0)).trans hx220_0;replace p220:=eq_true p220;replace q220:=eq_true q220)))
    go_ret
    exact ⟨by first|rfl|(simp [errW_none,errW_some]<;>rfl)|(simp [*,errW_none,errW_some]<;>rfl)|(simp [errW_none,errW_some];exact ⟨rfl,rfl⟩),by repeat (first|(with_reducible first|exact HB.out|apply yA|apply yB|apply yC|refine yD ?_ GE219.out)|exact HB.out)⟩
   ·rw [if_neg c6] at H
    exact absurd H (by simp)
  ·rw [if_neg c5] at H
   have c5b0:decide (a1<(l0_0.length:Int))=false:=decide_eq_false c5
   clear c5
   by_cases c9:(l0_1.length:Int)=0
   ·rw [if_pos c9] at H
    exact absurd H (by simp)
   ·rw [if_neg c9] at H
    have c9b0:((l0_1.length:Int) == 0)=false:=beq_eq_false_iff_ne.mpr c9
    have c9b1:((l0_1.length:Int) != 0)=true:=bne_iff_ne.mpr c9
    have c9b2:¬ (l0_1=[]):=fun h_=>c9 (by rw [h_];rfl)
    obtain ⟨ji10,hji10⟩:∃ j_:Int,(Int.tmod (wrap64 (a1 - (l0_0.length:Int))) (l0_1.length:Int))=j_:=⟨_,rfl⟩
    replace H:(if 0≤(ji10) then (if (ji10)<(l0_1.length:Int) then (some (rdOf false l0_1 (ji10))) else (none)) else (none))=some r:=by first|(rw [hji10] at H;exact H)|(simp only [hji10] at H ⊢;exact H)
    by_cases c11:0≤(ji10)
    ·rw [if_pos c11] at H
     have c11b0:decide (0≤(ji10))=true:=decide_eq_true c11
     clear c11
     by_cases c12:(ji10)<(l0_1.length:Int)
     ·rw [if_pos c12] at H
      have c12b0:decide ((ji10)<(l0_1.length:Int))=true:=decide_eq_true c12
      clear c12
      obtain rfl:=Option.some.inj H
      go_enter Try.func20,Try.ntmps20
      go_wp2_with (first|((with_reducible refine gate_dst (N:=2) rfl ?_);refine box_event ?hg (N:=2) ?hd (cs:=#[.slice A0_0 l0_0.length c0_0,.slice A0_1 l0_1.length c0_1]) (t:=33) ?hr ?_;(case hd=>rfl);(case hg=>rfl);(case hr=>first|(go_simp;done)|(go_simp;rfl));intro gb219 hg w13 hbox hb;have n0_:=Aside0.mk (yP (by repeat (first|(with_reducible first|exact HB.out|apply yA|apply yB|apply yC)|exact HB.out)) hb);have n1_:=Aside0.mk (hbox);have n2_:=Aside0.mk ((by rw [hg];exact (yQ (by repeat (first|(with_reducible first|exact HB.out|apply yA|apply yB|apply yC)|exact HB.out))):w.heap.size≤gb219));have n3_:=Aside0.mk ((by rw [hg];exact (yQ (by repeat (first|(with_reducible first|exact HB.out|apply yA|apply yB|apply yC)|exact HB.out))):w.heap.size≤gb219));clear HB;have HB:=n0_;have BK219:=n1_;have GW219:=n2_;have GE219:=n3_;clear n0_ n1_ n2_ n3_;clear hb hbox hg;have hcz14_0:w13.cell? ⟨gb219,0,none⟩=some (.slice A0_0 l0_0.length c0_0):=(blk_cell BK219.out 0).trans rfl;have hcz14_1:w13.cell? ⟨gb219,1,none⟩=some (.slice A0_1 l0_1.length c0_1):=(blk_cell BK219.out 1).trans rfl;have hfz14_0:=blk_frozen BK219.out 0;have hfz14_1:=blk_frozen BK219.out 1;have p221:0≤((ji10):Int):=of_decide_eq_true (by first|(with_reducible assumption)|assumption);have q221:(ji10)<(l0_1.length:Int):=of_decide_eq_true (by first|(with_reducible assumption)|assumption);obtain ⟨ad221,e221,hx221_0⟩:=Kd.at_bool HR0_1.out (ji10) p221 q221;cases e221;replace hx221_0:=(HB.out.cell (World.block_lt_of_cell? w _ hx221_0)).trans hx221_0;replace p221:=eq_true p221;replace q221:=eq_true q221))
      repeat (go_quiet (first|((with_reducible refine gate_dst (N:=2) rfl ?_);refine box_event ?hg (N:=2) ?hd (cs:=#[.slice A0_0 l0_0.length c0_0,.slice A0_1 l0_1.length c0_1]) (t:=33) ?hr ?_;(case hd=>rfl);(case hg=>rfl);(case hr=>first|(go_simp;done)|(go_simp;rfl));intro gb219 hg w13 hbox hb;have n0_:=Aside0.mk (yP (by repeat (first|(with_reducible first|exact HB.out|apply yA|apply yB|apply yC)|exact HB.out)) hb);have n1_:=Aside0.mk (hbox);have n2_:=Aside0.mk ((by rw [hg];exact (yQ (by repeat (first|(with_reducible first|exact HB.out|apply yA|apply yB|apply yC)|exact HB.out))):w.heap.size≤gb219));have n3_:=Aside0.mk ((by rw [hg];exact (yQ (by repeat (first|(with_reducible first|exact HB.out|apply yA|apply yB|apply yC)|exact HB.out))):w.heap.size≤gb219));clear HB;have HB:=n0_;have BK219:=n1_;have GW219:=n2_;have GE219:=n3_;clear n0_ n1_ n2_ n3_;clear hb hbox hg;have hcz14_0:w13.cell? ⟨gb219,0,none⟩=some (.slice A0_0 l0_0.length c0_0):=(blk_cell BK219.out 0).trans rfl;have hcz14_1:w13.cell? ⟨gb219,1,none⟩=some (.slice A0_1 l0_1.length c0_1):=(blk_cell BK219.out 1).trans rfl;have hfz14_0:=blk_frozen BK219.out 0;have hfz14_1:=blk_frozen BK219.out 1;have p221:0≤((ji10):Int):=of_decide_eq_true (by first|(with_reducible assumption)|assumption);have q221:(ji10)<(l0_1.length:Int):=of_decide_eq_true (by first|(with_reducible assumption)|assumption);obtain ⟨ad221,e221,hx221_0⟩:=Kd.at_bool HR0_1.out (ji10) p221 q221;cases e221;replace hx221_0:=(HB.out.cell (World.block_lt_of_cell? w _ hx221_0)).trans hx221_0;replace p221:=eq_true p221;replace q221:=eq_true q221));try go_wp2_with (first|((with_reducible refine gate_dst (N:=2) rfl ?_);refine box_event ?hg (N:=2) ?hd (cs:=#[.slice A0_0 l0_0.length c0_0,.slice A0_1 l0_1.length c0_1]) (t:=33) ?hr ?_;(case hd=>rfl);(case hg=>rfl);(case hr=>first|(go_simp;done)|(go_simp;rfl));intro gb219 hg w13 hbox hb;have n0_:=Aside0.mk (yP (by repeat (first|(with_reducible first|exact HB.out|apply yA|apply yB|apply yC)|exact HB.out)) hb);have n1_:=Aside0.mk (hbox);have n2_:=Aside0.mk ((by rw [hg];exact (yQ (by repeat (first|(with_reducible first|exact HB.out|apply yA|apply yB|apply yC)|exact HB.out))):w.heap.size≤gb219));have n3_:=Aside0.mk ((by rw [hg];exact (yQ (by repeat (first|(with_reducible first|exact HB.out|apply yA|apply yB|apply yC)|exact HB.out))):w.heap.size≤gb219));clear HB;have HB:=n0_;have BK219:=n1_;have GW219:=n2_;have GE219:=n3_;clear n0_ n1_ n2_ n3_;clear hb hbox hg;have hcz14_0:w13.cell? ⟨gb219,0,none⟩=some (.slice A0_0 l0_0.length c0_0):=(blk_cell BK219.out 0).trans rfl;have hcz14_1:w13.cell? ⟨gb219,1,none⟩=some (.slice A0_1 l0_1.length c0_1):=(blk_cell BK219.out 1).trans rfl;have hfz14_0:=blk_frozen BK219.out 0;have hfz14_1:=blk_frozen BK219.out 1;have p221:0≤((ji10):Int):=of_decide_eq_true (by first|(with_reducible assumption)|assumption);have q221:(ji10)<(l0_1.length:Int):=of_decide_eq_true (by first|(with_reducible assumption)|assumption);obtain ⟨ad221,e221,hx221_0⟩:=Kd.at_bool HR0_1.out (ji10) p221 q221;cases e221;replace hx221_0:=(HB.out.cell (World.block_lt_of_cell? w _ hx221_0)).trans hx221_0;replace p221:=eq_true p221;replace q221:=eq_true q221)))
      go_ret
      exact ⟨by first|rfl|(simp [errW_none,errW_some]<;>rfl)|(simp only [← hji10];first|rfl|(simp [errW_none,errW_some]<;>rfl))|(simp [*,errW_none,errW_some]<;>rfl),by repeat (first|(with_reducible first|exact HB.out|apply yA|apply yB|apply yC|refine yD ?_ GE219.out)|exact HB.out)⟩
     ·rw [if_neg c12] at H
      exact absurd H (by simp)
    ·rw [if_neg c11] at H
     exact absurd H (by simp)

end Go.Proofs.Ytnmkinnfbbehnaa.P

namespace Go.Proofs.Ytnmkinnfbbehnaa.P
open Go.RowKit Go.Proofs.YtnmkinnfbbehnaaW.PrintWords Go.Proofs.YtnmkinnfbbehnaaW.PrintLast Go.Proofs.YtnmkinnfbbehnaaW.PrintMore
attribute [local go_sem] max2_int min2_int max_two min_two max_three min_three max_four min_four   -- for this text's walks alone
set_option linter.unusedVariables false
set_option linter.unusedSimpArgs false

/-! ### impl_signs: function 30 -/
def impl_signs.l0:Nat→List Bool→List Int→Int→Int→Option (List Bool × Bool)
 | 0,_,_,_,_=>none
 | k+1,x4,x8,x9,x10=>if x10<x9 then (if 0≤x10 then (if x10<(x8.length:Int) then (if (rd x8 x10)=48 then (if x4.length<140737488355328 then (impl_signs.l0 k (x4++[((rd x8 x10) == 49)]) x8 x9 (wrap64 (x10+1))) else (none)) else (if (rd x8 x10)=49 then (if x4.length<140737488355328 then (impl_signs.l0 k (x4++[true]) x8 x9 (wrap64 (x10+1))) else (none)) else (some (([]:List Bool),false)))) else (none)) else (none)) else (some (x4,decide ((x4.length:Int)≤60)))
def impl_signs.f (k:Nat) (a0:ByteArray):Option (List Bool × Bool):=(bytesConv.f a0).bind fun t143=>(impl_signs.l0 k ([]:List Bool) t143 (t143.length:Int) 0)
theorem impl_signs.mono_l:∀ k,(∀ y0 y1 y2 y3,LeO (impl_signs.l0 k y0 y1 y2 y3) (impl_signs.l0 (k+1) y0 y1 y2 y3))
 | 0=>fun _ _ _ _ r h=>by simp [impl_signs.l0] at h
 | k+1=>by
  have ih0:=impl_signs.mono_l k
  ·intro y0 y1 y2 y3
   unfold impl_signs.l0
   repeat' first
   | (with_reducible exact ih0 _ _ _ _)
   | (with_reducible exact LeO.refl _)
   | (with_reducible exact LeO.none _)
   | (with_reducible refine LeO.ite ?_ ?_)
   | (with_reducible refine LeO.bind ?_ (fun _=>?_))
   | exact ih0 _ _ _ _
   | exact LeO.none _
   | refine LeO.ite ?_ ?_
   | refine LeO.bind ?_ (fun _=>?_)
theorem impl_signs.mono:∀ a0 k,LeO (impl_signs.f k a0) (impl_signs.f (k+1) a0):=by
 intro a0 k
 have ih0:=impl_signs.mono_l k
 unfold impl_signs.f
 repeat' first
   | (with_reducible exact ih0 _ _ _ _)
   | (with_reducible exact LeO.refl _)
   | (with_reducible exact LeO.none _)
   | (with_reducible refine LeO.ite ?_ ?_)
   | (with_reducible refine LeO.bind ?_ (fun _=>?_))
   | exact ih0 _ _ _ _
   | exact LeO.none _
   | refine LeO.ite ?_ ?_
   | refine LeO.bind ?_ (fun _=>?_)
set_option maxHeartbeats 8000000 in
set_option maxRecDepth 100000 in
theorem impl_signs.calls (k:Nat) (a0:ByteArray) (r1:List Bool) (r2:Bool) (w:World) (h:impl_signs.f k a0=some (r1,r2)) :
  Calls Try.prog 30 #[.string a0] w fun e w'=>∃ v0_:Value,e=.returned (.tuple #[v0_,.bool r2])∧Kd.R Kd.bool 4 w' w.heap.size (fun _=>True) v0_ r1∧Below w.heap.size w w':=by
 have HB:=Aside0.mk (Below.refl w.heap.size w)
 have H:((bytesConv.f a0).bind fun t143=>(impl_signs.l0 k ([]:List Bool) t143 (t143.length:Int) 0))=some (r1,r2):=h
 clear h
 replace H:=Option.bind_eq_some_iff.mp H
 obtain ⟨t143,A20,H⟩:=H
 replace H:(impl_signs.l0 k ([]:List Bool) t143 (t143.length:Int) 0)=some (r1,r2):=H
 have A2:=Aside0.mk A20
 clear A20
 have H':=Aside0.mk H
 clear H
 go_enter Try.func30,Try.ntmps30
 go_wp2_with (first|((with_reducible refine gate_dst (N:=8) rfl ?_);refine conv_event (P:=Try.prog) 8 rfl rfl 9 22 5 Try.underlying9 Try.underlying22 Try.underlying5 a0 A2.out ⟨_,rfl,rfl⟩ ?_;intro v144 w3 ho0 hb;have n0_:=Aside0.mk (Kd.V_lower (Kd.V_mono (ok':=fun k_=>True) ho0 (fun k_ hk_=>trivial)) (yQ (by repeat (first|(with_reducible first|exact HB.out|apply yA|apply yB|apply yC)|exact HB.out))));have n1_:=Aside0.mk (yP (by repeat (first|(with_reducible first|exact HB.out|apply yA|apply yB|apply yC)|exact HB.out)) hb);clear HB;have HO145:=n0_;have HB:=n1_;clear n0_ n1_;(try clear hb);(try clear hb2);(try clear hk);(try clear hi);(try clear ho0);obtain ⟨Ao4,co4,eo4⟩:=Kd.V_slice HO145.out;subst eo4))
 go_loopg [4,10] k (fun kq v4 v10 w'=>∃ (x4_1:List Bool) (x10_1:Int),v10=.int .i64 x10_1∧Aside0 (impl_signs.l0 kq x4_1 t143 (t143.length:Int) x10_1=some (r1,r2))∧Aside0 (kq≤k)∧Aside0 (Kd.R Kd.bool 4 w' w.heap.size (fun _=>True) v4 x4_1)∧Aside0 (Kd.V (Kd.int .u8) 5 w' w.heap.size (fun k_=>some k_≠(v4:Value).ownBlock) (.slice Ao4 t143.length co4) t143)∧Aside0 (Below w.heap.size w w'))
 case atStart=>exact ⟨(([]:List Bool)),(0),(by first|rfl|(simp;done)|(simp [*];done)|(simp [Int.tmod_eq_emod_of_nonneg];done)),H',⟨Nat.le_refl _⟩,⟨by first|exact Kd.R_nil _ _ _ _ _|exact Kd.N_nil _ _ _ _ _|exact Kd.V_nil _ _ _ _ _|exact Kd.Q_nil _ _ _ _ _|exact Kd.S_nil _ _ _ _ _⟩,⟨by (with_reducible repeat (first|apply Kd.V_alloc|apply Kd.V_drewN|apply Kd.V_drew));exact Kd.V_mono HO145.out (fun _ hk=>(by simp [Value.ownBlock]))⟩,⟨by repeat (first|(with_reducible first|exact HB.out|apply yA|apply yB|apply yC)|exact HB.out)⟩⟩
 case round =>
  clear H'
  try clear c1
  try clear p2
  try clear c3
  obtain ⟨x4_1,x10_1,rfl,HA,HK1,HO_4,HO_8,HB⟩:=hrel
  cases gk with
  | zero=>exact absurd HA.out (by simp [impl_signs.l0])
  | succ k1 =>
   have H:=HA.out
   clear HA
   simp only [impl_signs.l0] at H
   by_cases c5:x10_1<(t143.length:Int)
   ·rw [if_pos c5] at H
    have c5b0:decide (x10_1<(t143.length:Int))=true:=decide_eq_true c5
    clear c5
    by_cases c6:0≤x10_1
    ·rw [if_pos c6] at H
     have c6b0:decide (0≤x10_1)=true:=decide_eq_true c6
     clear c6
     by_cases c7:x10_1<(t143.length:Int)
     ·rw [if_pos c7] at H
      have c7b0:decide (x10_1<(t143.length:Int))=true:=decide_eq_true c7
      clear c7
      by_cases c8:(rd t143 x10_1)=48
      ·rw [if_pos c8] at H
       have c8b0:((rd t143 x10_1) == 48)=true:=beq_iff_eq.mpr c8
       have c8b1:((rd t143 x10_1) != 48)=false:=bne_eq_false_iff_eq.mpr c8
       clear c8
       by_cases c9:x4_1.length<140737488355328
       ·rw [if_pos c9] at H
        have LMc9:=Aside0.mk c9
        clear c9
        obtain ⟨y147,hy147⟩:∃ y_:List Bool,y_=(x4_1++[((rd t143 x10_1) == 49)]):=⟨_,rfl⟩
        replace H:(impl_signs.l0 k1 y147 t143 (t143.length:Int) (wrap64 (x10_1+1)))=some (r1,r2):=by first|(rw [hy147];with_reducible exact H)|(have H2_:=(Option.bind_some _ _).symm.trans H;rw [hy147];with_reducible exact H2_)|(have H2_:=(Option.bind_some _ _).symm.trans H;with_reducible exact H2_)|with_reducible exact H|(rw [hy147];exact H)|exact H
        have Ny147:=Aside0.mk hy147
        clear hy147
        have H':=Aside0.mk H
        clear H
        have p146:0≤(x10_1:Int):=of_decide_eq_true (by first|(with_reducible assumption)|assumption)
        have q146:x10_1<(t143.length:Int):=of_decide_eq_true (by first|(with_reducible assumption)|assumption)
        obtain ⟨ad146,e146,hx146_0⟩:=Kd.at_int (Kd.V_reads' HO_8.out).2.2 x10_1 p146 q146
        cases e146
        replace p146:=eq_true p146
        replace q146:=eq_true q146
        go_wp2_with (first|((with_reducible refine gate_builtin (b:=.append) (xs:=#[.tmp 20,.tmp 23]) rfl ?_);at_builtin;refine Kd.R_append Kd.bool (w0:=w) w.heap.size rfl (.tmp 20) (.tmp 23) 31 4 (.bool false) 1 rfl Try.underlying31 info4 rfl (by decide) (by omega) u4 x4_1 ((rd t143 x10_1) == 49) [.bool ((rd t143 x10_1) == 49)] (fun _=>True) (fun _=>False) rfl rfl ?aP (fun _ hk=>hk.elim) ?aF ?aO ?aB ?aS ?aL ?_;(case aP=>exact rfl);(case aB=>exact (by repeat (first|(with_reducible first|exact HB.out|apply yA|apply yB|apply yC)|exact HB.out)));(case aF=>exact (fun _ _=>trivial));(case aO=>exact (by (with_reducible repeat (first|apply yH|apply yI|apply yJ));exact HO_4.out));(case aS=>exact (yQ (by repeat (first|(with_reducible first|exact HB.out|apply yA|apply yB|apply yC)|exact HB.out))));(case aL=>have:=LMc9.out;omega);intro v148 w10 ho hb hg hat;rw [← Ny147.out] at ho;have n0_:=Aside0.mk (Kd.V_afterv (ok:=(fun _=>True)) (by (with_reducible repeat (first|apply Kd.V_alloc|apply Kd.V_drewN|apply Kd.V_drew));exact Kd.V_mono HO_8.out (fun _ hk=>⟨trivial,hk⟩)) hg hat);have n1_:=Aside0.mk (hb);have n2_:=Aside0.mk (ho);clear HO_8;clear HB;clear HO_4;have HO_8:=n0_;have HB:=n1_;have HO149:=n2_;clear n0_ n1_ n2_;clear ho hb hg hat))
        go_roundg k1
        case measure=>have:=HK1.out;omega
        case rel=>exact ⟨(y147),(wrap64 (x10_1+1)),(by first|rfl|(simp;done)|(simp [*];done)|(simp [Int.tmod_eq_emod_of_nonneg];done)),H',⟨by have:=HK1.out;omega⟩,⟨by (with_reducible repeat (first|apply yH|apply yI|apply yJ));exact HO149.out⟩,⟨by (with_reducible repeat (first|apply Kd.V_alloc|apply Kd.V_drewN|apply Kd.V_drew));exact Kd.V_mono HO_8.out (fun _ hk=>hk.2)⟩,⟨by repeat (first|(with_reducible first|exact HB.out|apply yA|apply yB|apply yC)|exact HB.out)⟩⟩
       ·rw [if_neg c9] at H
        exact absurd H (by simp)
      ·rw [if_neg c8] at H
       have c8b0:((rd t143 x10_1) == 48)=false:=beq_eq_false_iff_ne.mpr c8
       have c8b1:((rd t143 x10_1) != 48)=true:=bne_iff_ne.mpr c8
       by_cases c11:(rd t143 x10_1)=49
       ·rw [if_pos c11] at H
        have c11b0:((rd t143 x10_1) == 49)=true:=beq_iff_eq.mpr c11
        have c11b1:((rd t143 x10_1) != 49)=false:=bne_eq_false_iff_eq.mpr c11
        clear c11
        by_cases c12:x4_1.length<140737488355328
        ·rw [if_pos c12] at H
         have LMc12:=Aside0.mk c12
         clear c12
         obtain ⟨y150,hy150⟩:∃ y_:List Bool,y_=(x4_1++[true]):=⟨_,rfl⟩
         replace H:(impl_signs.l0 k1 y150 t143 (t143.length:Int) (wrap64 (x10_1+1)))=some (r1,r2):=by first|(rw [hy150];with_reducible exact H)|(have H2_:=(Option.bind_some _ _).symm.trans H;rw [hy150];with_reducible exact H2_)|(have H2_:=(Option.bind_some _ _).symm.trans H;with_reducible exact H2_)|with_reducible exact H|(rw [hy150];exact H)|exact H
         have Ny150:=Aside0.mk hy150
         clear hy150
         have H':=Aside0.mk H
         clear H
         have p146:0≤(x10_1:Int):=of_decide_eq_true (by first|(with_reducible assumption)|assumption)
         have q146:x10_1<(t143.length:Int):=of_decide_eq_true (by first|(with_reducible assumption)|assumption)
         obtain ⟨ad146,e146,hx146_0⟩:=Kd.at_int (Kd.V_reads' HO_8.out).2.2 x10_1 p146 q146
         cases e146
         replace p146:=eq_true p146
         replace q146:=eq_true q146
         go_wp2_with (first|((with_reducible refine gate_builtin (b:=.append) (xs:=#[.tmp 20,.tmp 23]) rfl ?_);at_builtin;refine Kd.R_append Kd.bool (w0:=w) w.heap.size rfl (.tmp 20) (.tmp 23) 31 4 (.bool false) 1 rfl Try.underlying31 info4 rfl (by decide) (by omega) u4 x4_1 true [.bool true] (fun _=>True) (fun _=>False) rfl rfl ?aP (fun _ hk=>hk.elim) ?aF ?aO ?aB ?aS ?aL ?_;(case aP=>exact rfl);(case aB=>exact (by repeat (first|(with_reducible first|exact HB.out|apply yA|apply yB|apply yC)|exact HB.out)));(case aF=>exact (fun _ _=>trivial));(case aO=>exact (by (with_reducible repeat (first|apply yH|apply yI|apply yJ));exact HO_4.out));(case aS=>exact (yQ (by repeat (first|(with_reducible first|exact HB.out|apply yA|apply yB|apply yC)|exact HB.out))));(case aL=>have:=LMc12.out;omega);intro v151 w13 ho hb hg hat;rw [← Ny150.out] at ho;have n0_:=Aside0.mk (Kd.V_afterv (ok:=(fun _=>True)) (by (with_reducible repeat (first|apply Kd.V_alloc|apply Kd.V_drewN|apply Kd.V_drew));exact Kd.V_mono HO_8.out (fun _ hk=>⟨trivial,hk⟩)) hg hat);have n1_:=Aside0.mk (hb);have n2_:=Aside0.mk (ho);clear HO_8;clear HB;clear HO_4;have HO_8:=n0_;have HB:=n1_;have HO152:=n2_;clear n0_ n1_ n2_;clear ho hb hg hat))
         go_roundg k1
         case measure=>have:=HK1.out;omega
         case rel=>exact ⟨(y150),(wrap64 (x10_1+1)),(by first|rfl|(simp;done)|(simp [*];done)|(simp [Int.tmod_eq_emod_of_nonneg];done)),H',⟨by have:=HK1.out;omega⟩,⟨by (with_reducible repeat (first|apply yH|apply yI|apply yJ));exact HO152.out⟩,⟨by (with_reducible repeat (first|apply Kd.V_alloc|apply Kd.V_drewN|apply Kd.V_drew));exact Kd.V_mono HO_8.out (fun _ hk=>hk.2)⟩,⟨by repeat (first|(with_reducible first|exact HB.out|apply yA|apply yB|apply yC)|exact HB.out)⟩⟩
        ·rw [if_neg c12] at H
         exact absurd H (by simp)
       ·rw [if_neg c11] at H
        have c11b0:((rd t143 x10_1) == 49)=false:=beq_eq_false_iff_ne.mpr c11
        have c11b1:((rd t143 x10_1) != 49)=true:=bne_iff_ne.mpr c11
        simp only [Option.some.injEq,Prod.mk.injEq] at H
        obtain ⟨rfl,rfl⟩:=H
        have p146:0≤(x10_1:Int):=of_decide_eq_true (by first|(with_reducible assumption)|assumption)
        have q146:x10_1<(t143.length:Int):=of_decide_eq_true (by first|(with_reducible assumption)|assumption)
        obtain ⟨ad146,e146,hx146_0⟩:=Kd.at_int (Kd.V_reads' HO_8.out).2.2 x10_1 p146 q146
        cases e146
        replace p146:=eq_true p146
        replace q146:=eq_true q146
        go_wp2
        go_ret2
        exact ⟨_,by first|rfl|(simp [errW_none,errW_some]<;>rfl)|(simp [*,errW_none,errW_some]<;>rfl)|(simp [errW_none,errW_some];exact ⟨rfl,rfl⟩),by first|exact Kd.R_nil _ _ _ _ _|exact Kd.N_nil _ _ _ _ _|exact Kd.V_nil _ _ _ _ _|exact Kd.Q_nil _ _ _ _ _|exact Kd.S_nil _ _ _ _ _,by repeat (first|(with_reducible first|exact HB.out|apply yA|apply yB|apply yC)|exact HB.out)⟩
     ·rw [if_neg c7] at H
      exact absurd H (by simp)
    ·rw [if_neg c6] at H
     exact absurd H (by simp)
   ·rw [if_neg c5] at H
    have c5b0:decide (x10_1<(t143.length:Int))=false:=decide_eq_false c5
    clear c5
    simp only [Option.some.injEq,Prod.mk.injEq] at H
    obtain ⟨rfl,rfl⟩:=H
    obtain ⟨Ao14,co14,eo14⟩:=Kd.R_slice HO_4.out
    subst eo14
    go_wp2
    go_ret2
    exact ⟨_,by first|rfl|(simp [errW_none,errW_some]<;>rfl)|(simp [*,errW_none,errW_some]<;>rfl)|(simp [errW_none,errW_some];exact ⟨rfl,rfl⟩),by (with_reducible repeat (first|apply yH|apply yI|apply yJ));exact HO_4.out,by repeat (first|(with_reducible first|exact HB.out|apply yA|apply yB|apply yC)|exact HB.out)⟩

end Go.Proofs.Ytnmkinnfbbehnaa.P

namespace Go.Proofs.Ytnmkinnfbbehnaa.P
open Go.RowKit Go.Proofs.YtnmkinnfbbehnaaW.PrintWords Go.Proofs.YtnmkinnfbbehnaaW.PrintLast Go.Proofs.YtnmkinnfbbehnaaW.PrintMore
attribute [local go_sem] max2_int min2_int max_two min_two max_three min_three max_four min_four   -- for this text's walks alone
set_option linter.unusedVariables false
set_option linter.unusedSimpArgs false

/-! ### impl_star: function 11 -/
mutual
def impl_star.l0:Nat→List Bool→Int→Int→List Bool→List Bool→Option (List Bool)
 | 0,_,_,_,_,_=>none
 | k+1,x5,x11,x12,x223000,x223001=>if x12<x11 then (if 0≤x12 then (if x12<(x5.length:Int) then (impl_star.l1 k (x5.set (x12:Int).toNat (x12 == 0)) x12 1 x11 x12 x223000 x223001) else (none)) else (none)) else (some x5)
def impl_star.l1:Nat→List Bool→Int→Int→Int→Int→List Bool→List Bool→Option (List Bool)
 | 0,_,_,_,_,_,_,_=>none
 | k+1,x5,x6,x7,x11,x12,x223000,x223001=>if x7≤x6 then (if 0≤x6 then (if x6<(x5.length:Int) then (if rdOf false x5 x6=true then (impl_star.l0 k x5 x11 (wrap64 (x12+1)) x223000 x223001) else ((impl_set_has.f x223000 x223001 x7).bind fun t228=>(if t228=true then (if 0≤(wrap64 (x6 - x7)) then (if (wrap64 (x6 - x7))<(x5.length:Int) then (impl_star.l1 k (x5.set (x6:Int).toNat (rdOf false x5 (wrap64 (x6 - x7)))) x6 (wrap64 (x7+1)) x11 x12 x223000 x223001) else (none)) else (none)) else (impl_star.l1 k (x5.set (x6:Int).toNat false) x6 (wrap64 (x7+1)) x11 x12 x223000 x223001)))) else (none)) else (none)) else (impl_star.l0 k x5 x11 (wrap64 (x12+1)) x223000 x223001)
end
def impl_star.f (k:Nat) (l0_0:List Bool) (l0_1:List Bool) (a1:Int):Option (List Bool):=if 0≤a1 then (if (a1:Int).toNat≤281474976710656 then ((some (List.replicate (a1:Int).toNat false:List Bool)).bind fun y223=>(impl_star.l0 k y223 (y223.length:Int) 0 l0_0 l0_1)) else (none)) else (none)
theorem impl_star.mono_l:∀ k,(∀ y0 y1 y2 y3 y4,LeO (impl_star.l0 k y0 y1 y2 y3 y4) (impl_star.l0 (k+1) y0 y1 y2 y3 y4))∧(∀ y0 y1 y2 y3 y4 y5 y6,LeO (impl_star.l1 k y0 y1 y2 y3 y4 y5 y6) (impl_star.l1 (k+1) y0 y1 y2 y3 y4 y5 y6))
 | 0=>⟨fun _ _ _ _ _ r h=>by simp [impl_star.l0] at h,fun _ _ _ _ _ _ _ r h=>by simp [impl_star.l1] at h⟩
 | k+1=>by
  obtain ⟨ih0,ih1⟩:=impl_star.mono_l k
  refine ⟨?_,?_⟩
  ·intro y0 y1 y2 y3 y4
   unfold impl_star.l0
   repeat' first
   | (with_reducible exact ih0 _ _ _ _ _)
   | (with_reducible exact ih1 _ _ _ _ _ _ _)
   | (with_reducible exact LeO.refl _)
   | (with_reducible exact LeO.none _)
   | (with_reducible refine LeO.ite ?_ ?_)
   | (with_reducible refine LeO.bind ?_ (fun _=>?_))
   | exact ih0 _ _ _ _ _
   | exact ih1 _ _ _ _ _ _ _
   | exact LeO.none _
   | refine LeO.ite ?_ ?_
   | refine LeO.bind ?_ (fun _=>?_)
  ·intro y0 y1 y2 y3 y4 y5 y6
   unfold impl_star.l1
   repeat' first
   | (with_reducible exact ih0 _ _ _ _ _)
   | (with_reducible exact ih1 _ _ _ _ _ _ _)
   | (with_reducible exact LeO.refl _)
   | (with_reducible exact LeO.none _)
   | (with_reducible refine LeO.ite ?_ ?_)
   | (with_reducible refine LeO.bind ?_ (fun _=>?_))
   | exact ih0 _ _ _ _ _
   | exact ih1 _ _ _ _ _ _ _
   | exact LeO.none _
   | refine LeO.ite ?_ ?_
   | refine LeO.bind ?_ (fun _=>?_)
theorem impl_star.mono:∀ a0 a1 a2 k,LeO (impl_star.f k a0 a1 a2) (impl_star.f (k+1) a0 a1 a2):=by
 intro a0 a1 a2 k
 obtain ⟨ih0,ih1⟩:=impl_star.mono_l k
 unfold impl_star.f
 repeat' first
   | (with_reducible exact ih0 _ _ _ _ _)
   | (with_reducible exact ih1 _ _ _ _ _ _ _)
   | (with_reducible exact LeO.refl _)
   | (with_reducible exact LeO.none _)
   | (with_reducible refine LeO.ite ?_ ?_)
   | (with_reducible refine LeO.bind ?_ (fun _=>?_))
   | exact ih0 _ _ _ _ _
   | exact ih1 _ _ _ _ _ _ _
   | exact LeO.none _
   | refine LeO.ite ?_ ?_
   | refine LeO.bind ?_ (fun _=>?_)
set_option maxHeartbeats 8000000 in
set_option maxRecDepth 100000 in
theorem impl_star.calls (k:Nat) (A0_0:Option Addr) (c0_0:Nat) (l0_0:List Bool) (A0_1:Option Addr) (c0_1:Nat) (l0_1:List Bool) (a1:Int) (r:List Bool) (w:World) (hr0_0:Kd.C Kd.bool w A0_0 l0_0.length l0_0) (hc0_0:l0_0.length≤c0_0) (hr0_1:Kd.C Kd.bool w A0_1 l0_1.length l0_1) (hc0_1:l0_1.length≤c0_1) (h:impl_star.f k l0_0 l0_1 a1=some r) :
  Calls Try.prog 11 #[.agg #[.slice A0_0 l0_0.length c0_0,.slice A0_1 l0_1.length c0_1],.int .i64 a1] w fun e w'=>∃ v0_:Value,e=.returned (v0_)∧Kd.R Kd.bool 4 w' w.heap.size (fun _=>True) v0_ r∧Below w.heap.size w w':=by
 have hu33:=Try.underlying33
 have HR0_0:=Aside0.mk hr0_0
 have HC0_0:=Aside0.mk hc0_0
 clear hr0_0 hc0_0
 have HR0_1:=Aside0.mk hr0_1
 have HC0_1:=Aside0.mk hc0_1
 clear hr0_1 hc0_1
 have HB:=Aside0.mk (Below.refl w.heap.size w)
 have H:(if 0≤a1 then (if (a1:Int).toNat≤281474976710656 then ((some (List.replicate (a1:Int).toNat false:List Bool)).bind fun y223=>(impl_star.l0 k y223 (y223.length:Int) 0 l0_0 l0_1)) else (none)) else (none))=some r:=h
 clear h
 by_cases c3:0≤a1
 ·rw [if_pos c3] at H
  have c3b0:=eq_true c3
  have c3b1:decide (0≤a1)=true:=decide_eq_true c3
  clear c3
  by_cases c4:(a1:Int).toNat≤281474976710656
  ·rw [if_pos c4] at H
   have c4b0:=eq_true c4
   have c4b1:decide ((a1:Int).toNat≤281474976710656)=true:=decide_eq_true c4
   clear c4
   obtain ⟨y223,hy223⟩:∃ y_:List Bool,y_=(List.replicate (a1:Int).toNat false):=⟨_,rfl⟩
   replace H:(impl_star.l0 k y223 (y223.length:Int) 0 l0_0 l0_1)=some r:=by first|(rw [hy223];with_reducible exact H)|(have H2_:=(Option.bind_some _ _).symm.trans H;rw [hy223];with_reducible exact H2_)|(have H2_:=(Option.bind_some _ _).symm.trans H;with_reducible exact H2_)|with_reducible exact H|(rw [hy223];exact H)|exact H
   have Ny223:=Aside0.mk hy223
   clear hy223
   have H':=Aside0.mk H
   clear H
   go_enter Try.func11,Try.ntmps11
   go_wp2_with (first|((with_reducible refine gate_dst (N:=2) rfl ?_);refine box_event ?hg (N:=2) ?hd (cs:=#[.slice A0_0 l0_0.length c0_0,.slice A0_1 l0_1.length c0_1]) (t:=33) ?hr ?_;(case hd=>rfl);(case hg=>rfl);(case hr=>first|(go_simp;done)|(go_simp;rfl));intro gb222 hg w5 hbox hb;have n0_:=Aside0.mk (yP (by repeat (first|(with_reducible first|exact HB.out|apply yA|apply yB|apply yC)|exact HB.out)) hb);have n1_:=Aside0.mk (hbox);have n2_:=Aside0.mk ((by rw [hg];exact (yQ (by repeat (first|(with_reducible first|exact HB.out|apply yA|apply yB|apply yC)|exact HB.out))):w.heap.size≤gb222));have n3_:=Aside0.mk ((by rw [hg];exact (yQ (by repeat (first|(with_reducible first|exact HB.out|apply yA|apply yB|apply yC)|exact HB.out))):w.heap.size≤gb222));clear HB;have HB:=n0_;have BK222:=n1_;have GW222:=n2_;have GE222:=n3_;clear n0_ n1_ n2_ n3_;clear hb hbox hg)|((with_reducible refine gate_dst (N:=9) rfl ?_);refine Kd.R_make Kd.bool _ 4 rfl (N:=9) rfl 31 _ _ rfl a1 rfl rfl Try.underlying31 (.bool false) 1 info4 rfl (by decide) (by omega) false (ok:=fun _=>True) (okp:=fun _=>True) rfl (fun _ hk=>hk) trivial (of_decide_eq_true (by first|(with_reducible assumption)|assumption)) (Nat.le_trans (Nat.mul_le_mul_right _ (of_decide_eq_true (by first|(with_reducible assumption)|assumption):a1.toNat≤281474976710656)) (by omega)) (Below.refl _ _) (Nat.le_refl _) ?_;intro v224 w6 ho7 hb hg_ hnew_;clear hg_ hnew_;(first|rw [← Ny223.out] at ho7|(simp only [Int.reduceToNat] at ho7;rw [← Ny223.out] at ho7));have n0_:=Aside0.mk (Kd.R_lower ho7 (yQ (by repeat (first|(with_reducible first|exact HB.out|apply yA|apply yB|apply yC|refine yD ?_ GE222.out)|exact HB.out))));have n1_:=Aside0.mk (blk_below (g:=gb222) (o:=.cells #[.slice A0_0 l0_0.length c0_0,.slice A0_1 l0_1.length c0_1] 33 (0,0)) (by (with_reducible repeat (first|refine yE ?_ _|refine yF ?_|refine yG ?_ _));exact BK222.out) hb);have n2_:=Aside0.mk (yP (by repeat (first|(with_reducible first|exact HB.out|apply yA|apply yB|apply yC|refine yD ?_ GE222.out)|exact HB.out)) hb);clear BK222;clear HB;have HO225:=n0_;have BK222:=n1_;have HB:=n2_;clear n0_ n1_ n2_;clear hb ho7;obtain ⟨Ao8,co8,eo8⟩:=Kd.R_slice HO225.out;subst eo8))
   go_loopg [12] k (fun kq v12 w'=>∃ (x5_1:List Bool) (x12_1:Int),v12=.int .i64 x12_1∧Aside0 (impl_star.l0 kq x5_1 (y223.length:Int) x12_1 l0_0 l0_1=some r)∧Aside0 (kq≤k)∧Aside0 (Kd.R Kd.bool 4 w' w.heap.size (fun _=>True) (.slice Ao8 y223.length co8) x5_1)∧Aside0 (w'.heap[gb222]?=some (.cells #[(.slice A0_0 l0_0.length c0_0),(.slice A0_1 l0_1.length c0_1)] 33 (0,0)))∧Aside0 (Below w.heap.size w w'))
   case atStart=>exact ⟨(y223),(0),(by first|rfl|(simp;done)|(simp [*];done)|(simp [Int.tmod_eq_emod_of_nonneg];done)),H',⟨Nat.le_refl _⟩,⟨by (with_reducible repeat (first|apply yH|apply yI|apply yJ));exact HO225.out⟩,⟨by (with_reducible repeat (first|refine yE ?_ _|refine yF ?_|refine yG ?_ _));exact BK222.out⟩,⟨by repeat (first|(with_reducible first|exact HB.out|apply yA|apply yB|apply yC|refine yD ?_ GE222.out)|exact HB.out)⟩⟩
   case round =>
    clear H'
    try clear c1
    try clear p2
    try clear c3
    try clear c3b0
    try clear c3b1
    try clear c4
    try clear c4b0
    try clear c4b1
    obtain ⟨x5_1,x12_1,rfl,HA,HK1,HO_5,BK222,HB⟩:=hrel
    have hl5_1:=(Kd.R_reads' HO_5.out).1
    rw [hl5_1] at HO_5
    (try simp only [hl5_1])
    (try simp only [hl5_1] at BK222)
    cases gk with
    | zero=>exact absurd HA.out (by simp [impl_star.l0])
    | succ k1 =>
     have H:=HA.out
     clear HA
     simp only [impl_star.l0] at H
     by_cases c9:x12_1<(y223.length:Int)
     ·rw [if_pos c9] at H
      have c9b0:decide (x12_1<(y223.length:Int))=true:=decide_eq_true c9
      clear c9
      by_cases c10:0≤x12_1
      ·rw [if_pos c10] at H
       have c10b0:decide (0≤x12_1)=true:=decide_eq_true c10
       clear c10
       by_cases c11:x12_1<(x5_1.length:Int)
       ·rw [if_pos c11] at H
        have c11b0:decide (x12_1<(x5_1.length:Int))=true:=decide_eq_true c11
        clear c11
        obtain ⟨y226,hy226⟩:∃ y_:List Bool,y_=(x5_1.set (x12_1:Int).toNat (x12_1 == 0)):=⟨_,rfl⟩
        replace H:(impl_star.l1 k1 y226 x12_1 1 (y223.length:Int) x12_1 l0_0 l0_1)=some r:=by first|(rw [hy226];with_reducible exact H)|(have H2_:=(Option.bind_some _ _).symm.trans H;rw [hy226];with_reducible exact H2_)|(have H2_:=(Option.bind_some _ _).symm.trans H;with_reducible exact H2_)|with_reducible exact H|(rw [hy226];exact H)|exact H
        have Ny226:=Aside0.mk hy226
        clear hy226
        have H':=Aside0.mk H
        clear H
        have p12:0≤(x12_1:Int):=of_decide_eq_true (by first|(with_reducible assumption)|assumption)
        have q12:(x12_1:Int)<((x5_1.length:Int):Int):=of_decide_eq_true (by first|(with_reducible assumption)|assumption)
        obtain ⟨go12,co12,eo12,gb12,gl12,cl12,HG12⟩:=Kd.R_form HO_5.out (by omega)
        (first|cases eo12|(injection eo12 with ea_ en_ ec_;(first|subst ea_|(injection ea_ with ea_;subst ea_));subst ec_;clear en_))
        have GB12:=Aside0.mk gb12
        have GG12:=Aside0.mk HG12
        clear gb12 gl12 HG12
        obtain ⟨hx12_0,hf12_0⟩:=Kd.R_celln false HO_5.out (x12_1:Int) p12 q12
        replace p12:=eq_true p12
        replace q12:=eq_true q12
        have HP13:=Kd.R_putg HO_5.out (x12_1:Int) (x12_1 == 0)
        go_wp2_with (first|((with_reducible refine gate_store (t:=4) (p:=19) rfl ?_);refine store_event (t:=4) (p:=19) (v:=?vo_w14) (w1:=(wr.setCell ⟨go12,(x12_1:Int).toNat,none⟩ (.bool (x12_1 == 0)))) ?hg ?ho ?hn ?hr ?_;(case ho=>rfl);(case hg=>rfl);(case hn=>rfl);(case hr=>first|(go_simp;done)|(go_simp;rfl));intro w14 hw;have hg:wr.grownBy w14 (some go12):=(by rw [hw];exact HP13.2);have hp_:Kd.R Kd.bool 4 w14 w.heap.size (fun _=>True) (.slice (some ⟨go12,0,none⟩) x5_1.length co8) y226:=(by rw [hw,Ny226.out];exact HP13.1);clear HP13;have n0_:=Aside0.mk (hp_);have n1_:=Aside0.mk (blk_grown (g:=gb222) (o:=.cells #[.slice A0_0 l0_0.length c0_0,.slice A0_1 l0_1.length c0_1] 33 (0,0)) (by (with_reducible repeat (first|refine yE ?_ _|refine yF ?_|refine yG ?_ _));exact BK222.out) hg (Kd.R_ne HO_5.out BK222.out (by decide)));have n2_:=Aside0.mk ((by rw [hw];exact yD (HB.out) GB12.out:Below w.heap.size w w14));clear HO_5;clear BK222;clear HB;have HO_5:=n0_;have BK222:=n1_;have HB:=n2_;clear n0_ n1_ n2_;clear hg hw hp_))
        go_loopg [7] k1 (fun kq v7 w'=>∃ (x5_2:List Bool) (x7_2:Int),v7=.int .i64 x7_2∧Aside0 (impl_star.l1 kq x5_2 x12_1 x7_2 (y223.length:Int) x12_1 l0_0 l0_1=some r)∧Aside0 (kq≤k1)∧Aside0 (Kd.R Kd.bool 4 w' w.heap.size (fun _=>True) (.slice (some ⟨go12,0,none⟩) x5_1.length co8) x5_2)∧Aside0 (w'.heap[gb222]?=some (.cells #[(.slice A0_0 l0_0.length c0_0),(.slice A0_1 l0_1.length c0_1)] 33 (0,0)))∧Aside0 (Below w.heap.size w w'))
        case atStart=>exact ⟨(y226),(1),(by first|rfl|(simp;done)|(simp [*];done)|(simp [Int.tmod_eq_emod_of_nonneg];done)),H',⟨Nat.le_refl _⟩,⟨by (try simp only [hl5_1]);(with_reducible repeat (first|apply yH|apply yI|apply yJ));exact HO_5.out⟩,⟨by (try simp only [hl5_1]);(with_reducible repeat (first|refine yE ?_ _|refine yF ?_|refine yG ?_ _));exact BK222.out⟩,⟨by repeat (first|(with_reducible first|exact HB.out|apply yA|apply yB|apply yC|refine yD ?_ GE222.out)|exact HB.out)⟩⟩
        case round =>
         clear H'
         try clear c1
         try clear p1
         try clear q1
         try clear hx1
         try clear p2
         try clear c3
         try clear c3b0
         try clear c3b1
         try clear c4
         try clear c4b0
         try clear c4b1
         try clear c9
         try clear c9b0
         try clear c10
         try clear c10b0
         try clear c11
         try clear c11b0
         try clear p12
         try clear q12
         try clear hx12
         try clear hf12
         try clear hx12_0
         try clear p12
         try clear p2
         try clear q12
         obtain ⟨x5_2,x7_2,rfl,HA,HK2,HO_5,BK222,HB⟩:=hrel
         have hl5_2:=(Kd.R_reads' HO_5.out).1
         rw [hl5_2] at HO_5
         (try simp only [hl5_2])
         (try simp only [hl5_2] at BK222)
         cases gk with
         | zero=>exact absurd HA.out (by simp [impl_star.l1])
         | succ k2 =>
          have H:=HA.out
          clear HA
          simp only [impl_star.l1] at H
          by_cases c15:x7_2≤x12_1
          ·rw [if_pos c15] at H
           have c15b0:decide (x7_2≤x12_1)=true:=decide_eq_true c15
           clear c15
           by_cases c16:0≤x12_1
           ·rw [if_pos c16] at H
            have c16b0:decide (0≤x12_1)=true:=decide_eq_true c16
            clear c16
            by_cases c17:x12_1<(x5_2.length:Int)
            ·rw [if_pos c17] at H
             have c17b0:decide (x12_1<(x5_2.length:Int))=true:=decide_eq_true c17
             clear c17
             obtain ⟨bq18,hbq18⟩:∃ b_:Bool,b_=(rdOf false x5_2 x12_1):=⟨_,rfl⟩
             replace H:(if bq18=true then (impl_star.l0 k2 x5_2 (y223.length:Int) (wrap64 (x12_1+1)) l0_0 l0_1) else ((impl_set_has.f l0_0 l0_1 x7_2).bind fun t228=>(if t228=true then (if 0≤(wrap64 (x12_1 - x7_2)) then (if (wrap64 (x12_1 - x7_2))<(x5_2.length:Int) then (impl_star.l1 k2 (x5_2.set (x12_1:Int).toNat (rdOf false x5_2 (wrap64 (x12_1 - x7_2)))) x12_1 (wrap64 (x7_2+1)) (y223.length:Int) x12_1 l0_0 l0_1) else (none)) else (none)) else (impl_star.l1 k2 (x5_2.set (x12_1:Int).toNat false) x12_1 (wrap64 (x7_2+1)) (y223.length:Int) x12_1 l0_0 l0_1))))=some r:=by rw [← hbq18] at H;exact H
             have Nbq18:=Aside0.mk hbq18
             clear hbq18
             by_cases c19:bq18=true
             ·subst c19
              have H1:(impl_star.l0 k2 x5_2 (y223.length:Int) (wrap64 (x12_1+1)) l0_0 l0_1)=some r:=by rw [if_pos rfl] at H;exact H
              clear H
              have H:=H1
              clear H1
              have H':=Aside0.mk H
              clear H
              have p227:0≤(x12_1:Int):=of_decide_eq_true (by first|(with_reducible assumption)|assumption)
              have q227:x12_1<(x5_2.length:Int):=of_decide_eq_true (by first|(with_reducible assumption)|assumption)
              obtain ⟨ad227,e227,hx227_0⟩:=Kd.at_bool (Kd.R_reads' HO_5.out).2.2 x12_1 p227 q227
              (try rw [← Nbq18.out] at hx227_0)
              obtain rfl:(⟨go12,0,none⟩:Addr)=ad227:=(by injection e227)
              (first|simp only [add_plain] at hx227_0|simp only [add_at] at hx227_0|simp only [Addr.add,Nat.zero_add] at hx227_0|skip)
              replace p227:=eq_true p227
              replace q227:=eq_true q227
              go_wp2
              (try simp only [← hl5_1,← hl5_2])
              go_roundg k2
              case measure=>have:=HK1.out;have:=HK2.out;omega
              case rel=>exact ⟨(x5_2),(wrap64 (x12_1+1)),(by first|rfl|(simp;done)|(simp [*];done)|(simp [Int.tmod_eq_emod_of_nonneg];done)),H',⟨by have:=HK1.out;have:=HK2.out;omega⟩,⟨by (try simp only [hl5_1]);(try simp only [hl5_2]);(with_reducible repeat (first|apply yH|apply yI|apply yJ));exact HO_5.out⟩,⟨by (try simp only [hl5_1]);(try simp only [hl5_2]);(with_reducible repeat (first|refine yE ?_ _|refine yF ?_|refine yG ?_ _));exact BK222.out⟩,⟨by repeat (first|(with_reducible first|exact HB.out|apply yA|apply yB|apply yC|refine yD ?_ GE222.out)|exact HB.out)⟩⟩
             ·replace c19:=Bool.eq_false_iff.mpr c19
              subst c19
              have H1:((impl_set_has.f l0_0 l0_1 x7_2).bind fun t228=>(if t228=true then (if 0≤(wrap64 (x12_1 - x7_2)) then (if (wrap64 (x12_1 - x7_2))<(x5_2.length:Int) then (impl_star.l1 k2 (x5_2.set (x12_1:Int).toNat (rdOf false x5_2 (wrap64 (x12_1 - x7_2)))) x12_1 (wrap64 (x7_2+1)) (y223.length:Int) x12_1 l0_0 l0_1) else (none)) else (none)) else (impl_star.l1 k2 (x5_2.set (x12_1:Int).toNat false) x12_1 (wrap64 (x7_2+1)) (y223.length:Int) x12_1 l0_0 l0_1)))=some r:=by rw [if_neg (show ¬ (false=true) by decide)] at H;exact H
              clear H
              have H:=H1
              clear H1
              replace H:=Option.bind_eq_some_iff.mp H
              obtain ⟨t228,A200,H⟩:=H
              replace H:(if t228=true then (if 0≤(wrap64 (x12_1 - x7_2)) then (if (wrap64 (x12_1 - x7_2))<(x5_2.length:Int) then (impl_star.l1 k2 (x5_2.set (x12_1:Int).toNat (rdOf false x5_2 (wrap64 (x12_1 - x7_2)))) x12_1 (wrap64 (x7_2+1)) (y223.length:Int) x12_1 l0_0 l0_1) else (none)) else (none)) else (impl_star.l1 k2 (x5_2.set (x12_1:Int).toNat false) x12_1 (wrap64 (x7_2+1)) (y223.length:Int) x12_1 l0_0 l0_1))=some r:=H
              have A20:=Aside0.mk A200
              clear A200
              by_cases c21:t228=true
              ·subst c21
               have H1:(if 0≤(wrap64 (x12_1 - x7_2)) then (if (wrap64 (x12_1 - x7_2))<(x5_2.length:Int) then (impl_star.l1 k2 (x5_2.set (x12_1:Int).toNat (rdOf false x5_2 (wrap64 (x12_1 - x7_2)))) x12_1 (wrap64 (x7_2+1)) (y223.length:Int) x12_1 l0_0 l0_1) else (none)) else (none))=some r:=by rw [if_pos rfl] at H;exact H
               clear H
               have H:=H1
               clear H1
               obtain ⟨ji22,hji22⟩:∃ j_:Int,(wrap64 (x12_1 - x7_2))=j_:=⟨_,rfl⟩
               replace H:(if 0≤(ji22) then (if (ji22)<(x5_2.length:Int) then (impl_star.l1 k2 (x5_2.set (x12_1:Int).toNat (rdOf false x5_2 (ji22))) x12_1 (wrap64 (x7_2+1)) (y223.length:Int) x12_1 l0_0 l0_1) else (none)) else (none))=some r:=by first|(rw [hji22] at H;exact H)|(simp only [hji22] at H ⊢;exact H)
               (try rw [hji22] at A20)
               have hji22w:(IntKind.i64.wrap (x12_1 - x7_2))=ji22:=(i64_w _).trans hji22
               by_cases c23:0≤(ji22)
               ·rw [if_pos c23] at H
                have c23b0:decide (0≤(ji22))=true:=decide_eq_true c23
                clear c23
                by_cases c24:(ji22)<(x5_2.length:Int)
                ·rw [if_pos c24] at H
                 have c24b0:decide ((ji22)<(x5_2.length:Int))=true:=decide_eq_true c24
                 clear c24
                 obtain ⟨y230,hy230⟩:∃ y_:List Bool,y_=(x5_2.set (x12_1:Int).toNat (rdOf false x5_2 (ji22))):=⟨_,rfl⟩
                 replace H:(impl_star.l1 k2 y230 x12_1 (wrap64 (x7_2+1)) (y223.length:Int) x12_1 l0_0 l0_1)=some r:=by first|(rw [hy230];with_reducible exact H)|(have H2_:=(Option.bind_some _ _).symm.trans H;rw [hy230];with_reducible exact H2_)|(have H2_:=(Option.bind_some _ _).symm.trans H;with_reducible exact H2_)|with_reducible exact H|(rw [hy230];exact H)|exact H
                 have Ny230:=Aside0.mk hy230
                 clear hy230
                 have H':=Aside0.mk H
                 clear H
                 have p227:0≤(x12_1:Int):=of_decide_eq_true (by first|(with_reducible assumption)|assumption)
                 have q227:x12_1<(x5_2.length:Int):=of_decide_eq_true (by first|(with_reducible assumption)|assumption)
                 obtain ⟨ad227,e227,hx227_0⟩:=Kd.at_bool (Kd.R_reads' HO_5.out).2.2 x12_1 p227 q227
                 (try rw [← Nbq18.out] at hx227_0)
                 obtain rfl:(⟨go12,0,none⟩:Addr)=ad227:=(by injection e227)
                 (first|simp only [add_plain] at hx227_0|simp only [add_at] at hx227_0|simp only [Addr.add,Nat.zero_add] at hx227_0|skip)
                 replace p227:=eq_true p227
                 replace q227:=eq_true q227
                 have hcz26_0:wr.cell? ⟨gb222,0,none⟩=some (.slice A0_0 l0_0.length c0_0):=(blk_cell BK222.out 0).trans rfl
                 have hcz26_1:wr.cell? ⟨gb222,1,none⟩=some (.slice A0_1 l0_1.length c0_1):=(blk_cell BK222.out 1).trans rfl
                 have hfz26_0:=blk_frozen BK222.out 0
                 have hfz26_1:=blk_frozen BK222.out 1
                 go_wp2_with (first|((with_reducible refine gate_callee (f:=20) rfl ?_);refine goesL_ (some 36) rfl rfl Try.func20 (by kernel_rfl) rfl #[.agg #[.slice A0_0 l0_0.length c0_0,.slice A0_1 l0_1.length c0_1],.int .i64 x7_2] rfl (by (try simp only [List.map_toArray,List.map_cons,List.map_nil]);first|done|rfl|(simp only [List.length_drop,List.length_take];rfl)) ?_;(with_reducible refine (impl_set_has.calls _ _ l0_0 _ _ l0_1 x7_2 true _ ?side1 ?side2 ?side3 ?side4 A20.out).mono ?_);(case side1=>repeat (first|exact (Kd.C_below HR0_0.out HB.out)|(with_reducible refine Kd.C_alloc ?_ _)|(with_reducible refine Kd.C_drewN ?_ _)|(with_reducible refine Kd.C_drew ?_)));(case side2=>exact HC0_0.out);(case side3=>repeat (first|exact (Kd.C_below HR0_1.out HB.out)|(with_reducible refine Kd.C_alloc ?_ _)|(with_reducible refine Kd.C_drewN ?_ _)|(with_reducible refine Kd.C_drew ?_)));(case side4=>exact HC0_1.out);rintro e w27 ⟨rfl,hb⟩;refine ⟨_,rfl,?_⟩;have n0_:=Aside0.mk (Kd.R_below (by (with_reducible repeat (first|apply yH|apply yI|apply yJ));exact HO_5.out) hb);have n1_:=Aside0.mk (blk_below (g:=gb222) (o:=.cells #[.slice A0_0 l0_0.length c0_0,.slice A0_1 l0_1.length c0_1] 33 (0,0)) (by (with_reducible repeat (first|refine yE ?_ _|refine yF ?_|refine yG ?_ _));exact BK222.out) hb);have n2_:=Aside0.mk (yP (by repeat (first|(with_reducible first|exact HB.out|apply yA|apply yB|apply yC|refine yD ?_ GE222.out)|exact HB.out)) hb);clear HO_5;clear BK222;clear HB;have HO_5:=n0_;have BK222:=n1_;have HB:=n2_;clear n0_ n1_ n2_;(try clear hb);(try clear hb2);(try clear hk);(try clear hi);have p229:0≤((ji22):Int):=of_decide_eq_true (by first|(with_reducible assumption)|assumption);have q229:(ji22)<(x5_2.length:Int):=of_decide_eq_true (by first|(with_reducible assumption)|assumption);obtain ⟨ad229,e229,hx229_0⟩:=Kd.at_bool (Kd.R_reads' HO_5.out).2.2 (ji22) p229 q229;(try rw [← Nbq18.out] at hx229_0);obtain rfl:(⟨go12,0,none⟩:Addr)=ad229:=(by injection e229);(first|simp only [add_plain] at hx229_0|simp only [add_at] at hx229_0|simp only [Addr.add,Nat.zero_add] at hx229_0|skip);replace p229:=eq_true p229;replace q229:=eq_true q229;have p25:0≤(x12_1:Int):=of_decide_eq_true (by first|(with_reducible assumption)|assumption);have q25:(x12_1:Int)<((x5_2.length:Int):Int):=of_decide_eq_true (by first|(with_reducible assumption)|assumption);obtain ⟨hx25_0,hf25_0⟩:=Kd.R_celln false HO_5.out (x12_1:Int) p25 q25;replace p25:=eq_true p25;replace q25:=eq_true q25;obtain ⟨hy28_,hz28_⟩:=Kd.R_celln false HO_5.out (x12_1:Int) (of_decide_eq_true (by first|(with_reducible assumption)|assumption)) (of_decide_eq_true (by first|(with_reducible assumption)|assumption));have HP28:=Kd.R_putg HO_5.out (x12_1:Int) (rdOf false x5_2 (ji22)))|((with_reducible refine gate_store (t:=4) (p:=45) rfl ?_);refine store_event (t:=4) (p:=45) (v:=?vo_w29) (w1:=(w27.setCell ⟨go12,(x12_1:Int).toNat,none⟩ (.bool (rdOf false x5_2 (ji22))))) ?hg ?ho ?hn ?hr ?_;(case ho=>rfl);(case hg=>rfl);(case hn=>rfl);(case hr=>first|(go_simp;done)|(go_simp;rfl));intro w29 hw;have hg:w27.grownBy w29 (some go12):=(by rw [hw];exact HP28.2);have hp_:Kd.R Kd.bool 4 w29 w.heap.size (fun _=>True) (.slice (some ⟨go12,0,none⟩) x5_2.length co8) y230:=(by rw [hw,Ny230.out];exact HP28.1);clear HP28;have n0_:=Aside0.mk (hp_);have n1_:=Aside0.mk (blk_grown (g:=gb222) (o:=.cells #[.slice A0_0 l0_0.length c0_0,.slice A0_1 l0_1.length c0_1] 33 (0,0)) (by (with_reducible repeat (first|refine yE ?_ _|refine yF ?_|refine yG ?_ _));exact BK222.out) hg (Kd.R_ne HO_5.out BK222.out (by decide)));have n2_:=Aside0.mk ((by rw [hw];exact yD (HB.out) GB12.out:Below w.heap.size w w29));clear HO_5;clear BK222;clear HB;have HO_5:=n0_;have BK222:=n1_;have HB:=n2_;clear n0_ n1_ n2_;clear hg hw hp_))
                 (try simp only [← hl5_2])
                 go_roundg k2
                 case measure=>have:=HK1.out;have:=HK2.out;omega
                 case rel=>exact ⟨(y230),(wrap64 (x7_2+1)),(by first|rfl|(simp;done)|(simp [*];done)|(simp [Int.tmod_eq_emod_of_nonneg];done)),H',⟨by have:=HK1.out;have:=HK2.out;omega⟩,⟨by (try simp only [hl5_1]);(try simp only [hl5_2]);(with_reducible repeat (first|apply yH|apply yI|apply yJ));exact HO_5.out⟩,⟨by (try simp only [hl5_1]);(try simp only [hl5_2]);(with_reducible repeat (first|refine yE ?_ _|refine yF ?_|refine yG ?_ _));exact BK222.out⟩,⟨by repeat (first|(with_reducible first|exact HB.out|apply yA|apply yB|apply yC|refine yD ?_ GE222.out)|exact HB.out)⟩⟩
                ·rw [if_neg c24] at H
                 exact absurd H (by simp)
               ·rw [if_neg c23] at H
                exact absurd H (by simp)
              ·replace c21:=Bool.eq_false_iff.mpr c21
               subst c21
               have H1:(impl_star.l1 k2 (x5_2.set (x12_1:Int).toNat false) x12_1 (wrap64 (x7_2+1)) (y223.length:Int) x12_1 l0_0 l0_1)=some r:=by rw [if_neg (show ¬ (false=true) by decide)] at H;exact H
               clear H
               have H:=H1
               clear H1
               obtain ⟨y231,hy231⟩:∃ y_:List Bool,y_=(x5_2.set (x12_1:Int).toNat false):=⟨_,rfl⟩
               replace H:(impl_star.l1 k2 y231 x12_1 (wrap64 (x7_2+1)) (y223.length:Int) x12_1 l0_0 l0_1)=some r:=by first|(rw [hy231];with_reducible exact H)|(have H2_:=(Option.bind_some _ _).symm.trans H;rw [hy231];with_reducible exact H2_)|(have H2_:=(Option.bind_some _ _).symm.trans H;with_reducible exact H2_)|with_reducible exact H|(rw [hy231];exact H)|exact H
               have Ny231:=Aside0.mk hy231
               clear hy231
               have H':=Aside0.mk H
               clear H
               have p227:0≤(x12_1:Int):=of_decide_eq_true (by first|(with_reducible assumption)|assumption)
               have q227:x12_1<(x5_2.length:Int):=of_decide_eq_true (by first|(with_reducible assumption)|assumption)
               obtain ⟨ad227,e227,hx227_0⟩:=Kd.at_bool (Kd.R_reads' HO_5.out).2.2 x12_1 p227 q227
               (try rw [← Nbq18.out] at hx227_0)
               obtain rfl:(⟨go12,0,none⟩:Addr)=ad227:=(by injection e227)
               (first|simp only [add_plain] at hx227_0|simp only [add_at] at hx227_0|simp only [Addr.add,Nat.zero_add] at hx227_0|skip)
               replace p227:=eq_true p227
               replace q227:=eq_true q227
               have hcz31_0:wr.cell? ⟨gb222,0,none⟩=some (.slice A0_0 l0_0.length c0_0):=(blk_cell BK222.out 0).trans rfl
               have hcz31_1:wr.cell? ⟨gb222,1,none⟩=some (.slice A0_1 l0_1.length c0_1):=(blk_cell BK222.out 1).trans rfl
               have hfz31_0:=blk_frozen BK222.out 0
               have hfz31_1:=blk_frozen BK222.out 1
               go_wp2_with (first|((with_reducible refine gate_callee (f:=20) rfl ?_);refine goesL_ (some 36) rfl rfl Try.func20 (by kernel_rfl) rfl #[.agg #[.slice A0_0 l0_0.length c0_0,.slice A0_1 l0_1.length c0_1],.int .i64 x7_2] rfl (by (try simp only [List.map_toArray,List.map_cons,List.map_nil]);first|done|rfl|(simp only [List.length_drop,List.length_take];rfl)) ?_;(with_reducible refine (impl_set_has.calls _ _ l0_0 _ _ l0_1 x7_2 false _ ?side1 ?side2 ?side3 ?side4 A20.out).mono ?_);(case side1=>repeat (first|exact (Kd.C_below HR0_0.out HB.out)|(with_reducible refine Kd.C_alloc ?_ _)|(with_reducible refine Kd.C_drewN ?_ _)|(with_reducible refine Kd.C_drew ?_)));(case side2=>exact HC0_0.out);(case side3=>repeat (first|exact (Kd.C_below HR0_1.out HB.out)|(with_reducible refine Kd.C_alloc ?_ _)|(with_reducible refine Kd.C_drewN ?_ _)|(with_reducible refine Kd.C_drew ?_)));(case side4=>exact HC0_1.out);rintro e w32 ⟨rfl,hb⟩;refine ⟨_,rfl,?_⟩;have n0_:=Aside0.mk (Kd.R_below (by (with_reducible repeat (first|apply yH|apply yI|apply yJ));exact HO_5.out) hb);have n1_:=Aside0.mk (blk_below (g:=gb222) (o:=.cells #[.slice A0_0 l0_0.length c0_0,.slice A0_1 l0_1.length c0_1] 33 (0,0)) (by (with_reducible repeat (first|refine yE ?_ _|refine yF ?_|refine yG ?_ _));exact BK222.out) hb);have n2_:=Aside0.mk (yP (by repeat (first|(with_reducible first|exact HB.out|apply yA|apply yB|apply yC|refine yD ?_ GE222.out)|exact HB.out)) hb);clear HO_5;clear BK222;clear HB;have HO_5:=n0_;have BK222:=n1_;have HB:=n2_;clear n0_ n1_ n2_;(try clear hb);(try clear hb2);(try clear hk);(try clear hi);have p30:0≤(x12_1:Int):=of_decide_eq_true (by first|(with_reducible assumption)|assumption);have q30:(x12_1:Int)<((x5_2.length:Int):Int):=of_decide_eq_true (by first|(with_reducible assumption)|assumption);obtain ⟨hx30_0,hf30_0⟩:=Kd.R_celln false HO_5.out (x12_1:Int) p30 q30;replace p30:=eq_true p30;replace q30:=eq_true q30;obtain ⟨hy33_,hz33_⟩:=Kd.R_celln false HO_5.out (x12_1:Int) (of_decide_eq_true (by first|(with_reducible assumption)|assumption)) (of_decide_eq_true (by first|(with_reducible assumption)|assumption));have HP33:=Kd.R_putg HO_5.out (x12_1:Int) false)|((with_reducible refine gate_store (t:=4) (p:=45) rfl ?_);refine store_event (t:=4) (p:=45) (v:=?vo_w34) (w1:=(w32.setCell ⟨go12,(x12_1:Int).toNat,none⟩ (.bool false))) ?hg ?ho ?hn ?hr ?_;(case ho=>rfl);(case hg=>rfl);(case hn=>rfl);(case hr=>first|(go_simp;done)|(go_simp;rfl));intro w34 hw;have hg:w32.grownBy w34 (some go12):=(by rw [hw];exact HP33.2);have hp_:Kd.R Kd.bool 4 w34 w.heap.size (fun _=>True) (.slice (some ⟨go12,0,none⟩) x5_2.length co8) y231:=(by rw [hw,Ny231.out];exact HP33.1);clear HP33;have n0_:=Aside0.mk (hp_);have n1_:=Aside0.mk (blk_grown (g:=gb222) (o:=.cells #[.slice A0_0 l0_0.length c0_0,.slice A0_1 l0_1.length c0_1] 33 (0,0)) (by (with_reducible repeat (first|refine yE ?_ _|refine yF ?_|refine yG ?_ _));exact BK222.out) hg (Kd.R_ne HO_5.out BK222.out (by decide)));have n2_:=Aside0.mk ((by rw [hw];exact yD (HB.out) GB12.out:Below w.heap.size w w34));clear HO_5;clear BK222;clear HB;have HO_5:=n0_;have BK222:=n1_;have HB:=n2_;clear n0_ n1_ n2_;clear hg hw hp_))
               (try simp only [← hl5_2])
               go_roundg k2
               case measure=>have:=HK1.out;have:=HK2.out;omega
               case rel=>exact ⟨(y231),(wrap64 (x7_2+1)),(by first|rfl|(simp;done)|(simp [*];done)|(simp [Int.tmod_eq_emod_of_nonneg];done)),H',⟨by have:=HK1.out;have:=HK2.out;omega⟩,⟨by (try simp only [hl5_1]);(try simp only [hl5_2]);(with_reducible repeat (first|apply yH|apply yI|apply yJ));exact HO_5.out⟩,⟨by (try simp only [hl5_1]);(try simp only [hl5_2]);(with_reducible repeat (first|refine yE ?_ _|refine yF ?_|refine yG ?_ _));exact BK222.out⟩,⟨by repeat (first|(with_reducible first|exact HB.out|apply yA|apply yB|apply yC|refine yD ?_ GE222.out)|exact HB.out)⟩⟩
            ·rw [if_neg c17] at H
             exact absurd H (by simp)
           ·rw [if_neg c16] at H
            exact absurd H (by simp)
          ·rw [if_neg c15] at H
           have c15b0:decide (x7_2≤x12_1)=false:=decide_eq_false c15
           clear c15
           have H':=Aside0.mk H
           clear H
           go_wp2
           (try simp only [← hl5_1,← hl5_2])
           go_roundg k2
           case measure=>have:=HK1.out;have:=HK2.out;omega
           case rel=>exact ⟨(x5_2),(wrap64 (x12_1+1)),(by first|rfl|(simp;done)|(simp [*];done)|(simp [Int.tmod_eq_emod_of_nonneg];done)),H',⟨by have:=HK1.out;have:=HK2.out;omega⟩,⟨by (try simp only [hl5_1]);(try simp only [hl5_2]);(with_reducible repeat (first|apply yH|apply yI|apply yJ));exact HO_5.out⟩,⟨by (try simp only [hl5_1]);(try simp only [hl5_2]);(with_reducible repeat (first|refine yE ?_ _|refine yF ?_|refine yG ?_ _));exact BK222.out⟩,⟨by repeat (first|(with_reducible first|exact HB.out|apply yA|apply yB|apply yC|refine yD ?_ GE222.out)|exact HB.out)⟩⟩
       ·rw [if_neg c11] at H
        exact absurd H (by simp)
      ·rw [if_neg c10] at H
       exact absurd H (by simp)
     ·rw [if_neg c9] at H
      have c9b0:decide (x12_1<(y223.length:Int))=false:=decide_eq_false c9
      have c9b0r:decide (x12_1<(x5_1.length:Int))=false:=by rw [← hl5_1];exact c9b0
      clear c9
      obtain rfl:=Option.some.inj H
      go_wp2
      go_ret
      exact ⟨_,by first|rfl|(simp [errW_none,errW_some]<;>rfl)|(simp [*,errW_none,errW_some]<;>rfl)|(simp [errW_none,errW_some];exact ⟨rfl,rfl⟩),by (with_reducible repeat (first|apply yH|apply yI|apply yJ));exact HO_5.out,by repeat (first|(with_reducible first|exact HB.out|apply yA|apply yB|apply yC|refine yD ?_ GE222.out)|exact HB.out)⟩
  ·rw [if_neg c4] at H
   exact absurd H (by simp)
 ·rw [if_neg c3] at H
  exact absurd H (by simp)

end Go.Proofs.Ytnmkinnfbbehnaa.P

namespace Go.Proofs.Ytnmkinnfbbehnaa.P
open Go.RowKit Go.Proofs.YtnmkinnfbbehnaaW.PrintWords Go.Proofs.YtnmkinnfbbehnaaW.PrintLast Go.Proofs.YtnmkinnfbbehnaaW.PrintMore
attribute [local go_sem] max2_int min2_int max_two min_two max_three min_three max_four min_four   -- for this text's walks alone
set_option linter.unusedVariables false
set_option linter.unusedSimpArgs false

/-! ### impl_turns: function 31 -/
def impl_turns.l0:Nat→List Bool→Int→Int→Int→Option (Bool)
 | 0,_,_,_,_=>none
 | k+1,x0,x1,x7,x8=>if x8<x7 then (if 0≤x8 then (if x8<(x0.length:Int) then (if x1=0 then (none) else (if 0≤(Int.tmod x8 x1) then (if (Int.tmod x8 x1)<(x0.length:Int) then (if ((rdOf false x0 x8) != (rdOf false x0 (Int.tmod x8 x1)))=true then (some false) else (impl_turns.l0 k x0 x1 x7 (wrap64 (x8+1)))) else (none)) else (none))) else (none)) else (none)) else (if x1=0 then (none) else (some (((x0.length:Int) % x1) == 0)))
def impl_turns.f (k:Nat) (l0:List Bool) (a1:Int):Option (Bool):=impl_turns.l0 k l0 a1 (l0.length:Int) 0
theorem impl_turns.mono_l:∀ k,(∀ y0 y1 y2 y3,LeO (impl_turns.l0 k y0 y1 y2 y3) (impl_turns.l0 (k+1) y0 y1 y2 y3))
 | 0=>fun _ _ _ _ r h=>by simp [impl_turns.l0] at h
 | k+1=>by
  have ih0:=impl_turns.mono_l k
  ·intro y0 y1 y2 y3
   unfold impl_turns.l0
   repeat' first
   | (with_reducible exact ih0 _ _ _ _)
   | (with_reducible exact LeO.refl _)
   | (with_reducible exact LeO.none _)
   | (with_reducible refine LeO.ite ?_ ?_)
   | (with_reducible refine LeO.bind ?_ (fun _=>?_))
   | exact ih0 _ _ _ _
   | exact LeO.none _
   | refine LeO.ite ?_ ?_
   | refine LeO.bind ?_ (fun _=>?_)
theorem impl_turns.mono:∀ a0 a1 k,LeO (impl_turns.f k a0 a1) (impl_turns.f (k+1) a0 a1):=by
 intro a0 a1 k
 have ih0:=impl_turns.mono_l k
 unfold impl_turns.f
 repeat' first
   | (with_reducible exact ih0 _ _ _ _)
   | (with_reducible exact LeO.refl _)
   | (with_reducible exact LeO.none _)
   | (with_reducible refine LeO.ite ?_ ?_)
   | (with_reducible refine LeO.bind ?_ (fun _=>?_))
   | exact ih0 _ _ _ _
   | exact LeO.none _
   | refine LeO.ite ?_ ?_
   | refine LeO.bind ?_ (fun _=>?_)
set_option maxHeartbeats 8000000 in
set_option maxRecDepth 100000 in
theorem impl_turns.calls (k:Nat) (A0:Option Addr) (c0:Nat) (l0:List Bool) (a1:Int) (r:Bool) (w:World) (hr0:Kd.C Kd.bool w A0 l0.length l0) (hc0:l0.length≤c0) (h:impl_turns.f k l0 a1=some r) :
  Calls Try.prog 31 #[.slice A0 l0.length c0,.int .i64 a1] w fun e w'=>e=.returned (.bool r)∧Drawn0 w w':=by
 have HR0:=Aside0.mk hr0
 have HC0:=Aside0.mk hc0
 clear hr0 hc0
 have H:(impl_turns.l0 k l0 a1 (l0.length:Int) 0)=some r:=h
 clear h
 have H':=Aside0.mk H
 clear H
 go_enter Try.func31,Try.ntmps31
 go_wp2
 repeat (go_quiet (fail);try go_wp2)
 go_loopg [8] k (fun kq v8 w'=>∃ (x8_1:Int),v8=.int .i64 x8_1∧Aside0 (impl_turns.l0 kq l0 a1 (l0.length:Int) x8_1=some r)∧Aside0 (kq≤k)∧Drawn0 w w')
 case atStart=>exact ⟨(0),(by first|rfl|(simp;done)|(simp [*];done)|(simp [Int.tmod_eq_emod_of_nonneg];done)),H',⟨Nat.le_refl _⟩,by repeat (first|exact Drawn0.refl _|apply Drawn0.step)⟩
 case round =>
  clear H'
  try clear p2
  obtain ⟨x8_1,rfl,HA,HK1,⟨m1,rfl⟩⟩:=hrel
  cases gk with
  | zero=>exact absurd HA.out (by simp [impl_turns.l0])
  | succ k1 =>
   have H:=HA.out
   clear HA
   simp only [impl_turns.l0] at H
   by_cases c3:x8_1<(l0.length:Int)
   ·rw [if_pos c3] at H
    have c3b0:decide (x8_1<(l0.length:Int))=true:=decide_eq_true c3
    clear c3
    by_cases c4:0≤x8_1
    ·rw [if_pos c4] at H
     have c4b0:decide (0≤x8_1)=true:=decide_eq_true c4
     clear c4
     by_cases c5:x8_1<(l0.length:Int)
     ·rw [if_pos c5] at H
      have c5b0:decide (x8_1<(l0.length:Int))=true:=decide_eq_true c5
      clear c5
      by_cases c6:a1=0
      ·rw [if_pos c6] at H
       exact absurd H (by simp)
      ·rw [if_neg c6] at H
       have c6b0:(a1 == 0)=false:=beq_eq_false_iff_ne.mpr c6
       have c6b1:(a1 != 0)=true:=bne_iff_ne.mpr c6
       obtain ⟨ji7,hji7⟩:∃ j_:Int,(Int.tmod x8_1 a1)=j_:=⟨_,rfl⟩
       replace H:(if 0≤(ji7) then (if (ji7)<(l0.length:Int) then (if ((rdOf false l0 x8_1) != (rdOf false l0 (ji7)))=true then (some false) else (impl_turns.l0 k1 l0 a1 (l0.length:Int) (wrap64 (x8_1+1)))) else (none)) else (none))=some r:=by first|(rw [hji7] at H;exact H)|(simp only [hji7] at H ⊢;exact H)
       by_cases c8:0≤(ji7)
       ·rw [if_pos c8] at H
        have c8b0:decide (0≤(ji7))=true:=decide_eq_true c8
        clear c8
        by_cases c9:(ji7)<(l0.length:Int)
        ·rw [if_pos c9] at H
         have c9b0:decide ((ji7)<(l0.length:Int))=true:=decide_eq_true c9
         clear c9
         by_cases c10:((rdOf false l0 x8_1) != (rdOf false l0 (ji7)))=true
         ·rw [if_pos c10] at H
          have c10b0:((rdOf false l0 x8_1) != (rdOf false l0 (ji7)))=true:=c10
          (try (have c10b1:decide ((rdOf false l0 x8_1)=(rdOf false l0 (ji7)))=false:=by simpa using c10))
          (try (have c10b2:((rdOf false l0 x8_1) == (rdOf false l0 (ji7)))=false:=by simpa using c10))
          (try (have c10b3:¬ ((rdOf false l0 x8_1)=(rdOf false l0 (ji7))):=by simpa using c10))
          clear c10
          obtain rfl:=Option.some.inj H
          have p167:0≤(x8_1:Int):=of_decide_eq_true (by first|(with_reducible assumption)|assumption)
          have q167:x8_1<(l0.length:Int):=of_decide_eq_true (by first|(with_reducible assumption)|assumption)
          obtain ⟨ad167,e167,hx167_0⟩:=Kd.at_bool HR0.out x8_1 p167 q167
          cases e167
          replace p167:=eq_true p167
          replace q167:=eq_true q167
          have p168:0≤((ji7):Int):=of_decide_eq_true (by first|(with_reducible assumption)|assumption)
          have q168:(ji7)<(l0.length:Int):=of_decide_eq_true (by first|(with_reducible assumption)|assumption)
          obtain ⟨ad168,e168,hx168_0⟩:=Kd.at_bool HR0.out (ji7) p168 q168
          obtain rfl:ad167=ad168:=(by injection e168)
          replace p168:=eq_true p168
          replace q168:=eq_true q168
          go_wp2
          repeat (go_quiet (fail);try go_wp2)
          go_ret
          exact ⟨by first|rfl|(simp;done)|(simp only [← hji7]<;>(first|rfl|simp))|(simp [*];done),by repeat (first|exact Drawn0.refl _|apply Drawn0.step)⟩
         ·rw [if_neg c10] at H
          have c10b0:((rdOf false l0 x8_1) != (rdOf false l0 (ji7)))=false:=by simpa using c10
          (try (have c10b1:decide ((rdOf false l0 x8_1)=(rdOf false l0 (ji7)))=true:=by simpa using c10))
          (try (have c10b2:((rdOf false l0 x8_1) == (rdOf false l0 (ji7)))=true:=by simpa using c10))
          clear c10
          have H':=Aside0.mk H
          clear H
          have p167:0≤(x8_1:Int):=of_decide_eq_true (by first|(with_reducible assumption)|assumption)
          have q167:x8_1<(l0.length:Int):=of_decide_eq_true (by first|(with_reducible assumption)|assumption)
          obtain ⟨ad167,e167,hx167_0⟩:=Kd.at_bool HR0.out x8_1 p167 q167
          cases e167
          replace p167:=eq_true p167
          replace q167:=eq_true q167
          have p168:0≤((ji7):Int):=of_decide_eq_true (by first|(with_reducible assumption)|assumption)
          have q168:(ji7)<(l0.length:Int):=of_decide_eq_true (by first|(with_reducible assumption)|assumption)
          obtain ⟨ad168,e168,hx168_0⟩:=Kd.at_bool HR0.out (ji7) p168 q168
          obtain rfl:ad167=ad168:=(by injection e168)
          replace p168:=eq_true p168
          replace q168:=eq_true q168
          go_wp2
          repeat (go_quiet (fail);try go_wp2)
          go_roundg k1
          case measure=>have:=HK1.out;omega
          case rel=>exact ⟨(wrap64 (x8_1+1)),(by first|rfl|(simp;done)|(simp [*];done)|(simp [Int.tmod_eq_emod_of_nonneg];done)),H',⟨by have:=HK1.out;omega⟩,by repeat (first|exact Drawn0.refl _|apply Drawn0.step)⟩
        ·rw [if_neg c9] at H
         exact absurd H (by simp)
       ·rw [if_neg c8] at H
        exact absurd H (by simp)
     ·rw [if_neg c5] at H
      exact absurd H (by simp)
    ·rw [if_neg c4] at H
     exact absurd H (by simp)
   ·rw [if_neg c3] at H
    have c3b0:decide (x8_1<(l0.length:Int))=false:=decide_eq_false c3
    clear c3
    by_cases c11:a1=0
    ·rw [if_pos c11] at H
     exact absurd H (by simp)
    ·rw [if_neg c11] at H
     have c11b0:(a1 == 0)=false:=beq_eq_false_iff_ne.mpr c11
     have c11b1:(a1 != 0)=true:=bne_iff_ne.mpr c11
     obtain rfl:=Option.some.inj H
     go_wp2
     repeat (go_quiet (fail);try go_wp2)
     go_ret
     exact ⟨by first|rfl|(simp;done)|(simp [*];done),by repeat (first|exact Drawn0.refl _|apply Drawn0.step)⟩

end Go.Proofs.Ytnmkinnfbbehnaa.P

namespace Go.Proofs.Ytnmkinnfbbehnaa.P
open Go.RowKit Go.Proofs.YtnmkinnfbbehnaaW.PrintWords Go.Proofs.YtnmkinnfbbehnaaW.PrintLast Go.Proofs.YtnmkinnfbbehnaaW.PrintMore
attribute [local go_sem] max2_int min2_int max_two min_two max_three min_three max_four min_four   -- for this text's walks alone
set_option linter.unusedVariables false
set_option linter.unusedSimpArgs false

/-! ### impl_set_tidy: function 26 -/
mutual
def impl_set_tidy.l0:Nat→Int→List Bool→List Bool→Option (List Bool × List Bool)
 | 0,_,_,_=>none
 | k+1,x3,x170000,x170001=>(impl_turns.f k x170001 x3).bind fun t171=>(if t171=true then ((slices_Clone_bool_bool.f x170000).bind fun t172=>(if 0≤x3 then (if x3≤(x170001.length:Int) then ((slices_Clone_bool_bool.f (x170001.take (x3:Int).toNat)).bind fun t176=>(impl_set_tidy.l1 k x3 t172 t176)) else (none)) else (none))) else (impl_set_tidy.l0 k (wrap64 (x3+1)) x170000 x170001))
def impl_set_tidy.l1:Nat→Int→List Bool→List Bool→Option (List Bool × List Bool)
 | 0,_,_,_=>none
 | k+1,x3,x4,x5=>if (x4.length:Int) > 0 then (if 0≤(wrap64 ((x4.length:Int) - 1)) then (if (wrap64 ((x4.length:Int) - 1))<(x4.length:Int) then (if 0≤(wrap64 (x3 - 1)) then (if (wrap64 (x3 - 1))<(x5.length:Int) then (if ((rdOf false x4 (wrap64 ((x4.length:Int) - 1))) == (rdOf false x5 (wrap64 (x3 - 1))))=true then (if (wrap64 ((x4.length:Int) - 1))≤(x4.length:Int) then ((some (([rdOf false x5 (wrap64 (x3 - 1))]:List Bool):List Bool)).bind fun y185=>(if (wrap64 (x3 - 1))≤(x5.length:Int) then ((some (x5.take ((wrap64 (x3 - 1)):Int).toNat:List Bool)).bind fun y188=>(if y185.length+y188.length<140737488355328 then (impl_set_tidy.l1 k x3 (x4.take ((wrap64 ((x4.length:Int) - 1)):Int).toNat) (y185++y188)) else (none))) else (none))) else (none)) else (some (x4,x5))) else (none)) else (none)) else (none)) else (none)) else (some (x4,x5))
end
def impl_set_tidy.f (k:Nat) (l0_0:List Bool) (l0_1:List Bool):Option (List Bool × List Bool):=impl_set_tidy.l0 k 1 l0_0 l0_1
theorem impl_set_tidy.mono_l:∀ k,(∀ y0 y1 y2,LeO (impl_set_tidy.l0 k y0 y1 y2) (impl_set_tidy.l0 (k+1) y0 y1 y2))∧(∀ y0 y1 y2,LeO (impl_set_tidy.l1 k y0 y1 y2) (impl_set_tidy.l1 (k+1) y0 y1 y2))
 | 0=>⟨fun _ _ _ r h=>by simp [impl_set_tidy.l0] at h,fun _ _ _ r h=>by simp [impl_set_tidy.l1] at h⟩
 | k+1=>by
  obtain ⟨ih0,ih1⟩:=impl_set_tidy.mono_l k
  refine ⟨?_,?_⟩
  ·intro y0 y1 y2
   unfold impl_set_tidy.l0
   repeat' first
   | (with_reducible exact ih0 _ _ _)
   | (with_reducible exact ih1 _ _ _)
   | (with_reducible exact impl_turns.mono _ _ _)
   | (with_reducible exact LeO.refl _)
   | (with_reducible exact LeO.none _)
   | (with_reducible refine LeO.ite ?_ ?_)
   | (with_reducible refine LeO.bind ?_ (fun _=>?_))
   | exact ih0 _ _ _
   | exact ih1 _ _ _
   | exact impl_turns.mono _ _ _
   | exact LeO.none _
   | refine LeO.ite ?_ ?_
   | refine LeO.bind ?_ (fun _=>?_)
  ·intro y0 y1 y2
   unfold impl_set_tidy.l1
   repeat' first
   | (with_reducible exact ih0 _ _ _)
   | (with_reducible exact ih1 _ _ _)
   | (with_reducible exact impl_turns.mono _ _ _)
   | (with_reducible exact LeO.refl _)
   | (with_reducible exact LeO.none _)
   | (with_reducible refine LeO.ite ?_ ?_)
   | (with_reducible refine LeO.bind ?_ (fun _=>?_))
   | exact ih0 _ _ _
   | exact ih1 _ _ _
   | exact impl_turns.mono _ _ _
   | exact LeO.none _
   | refine LeO.ite ?_ ?_
   | refine LeO.bind ?_ (fun _=>?_)
theorem impl_set_tidy.mono:∀ a0 a1 k,LeO (impl_set_tidy.f k a0 a1) (impl_set_tidy.f (k+1) a0 a1):=by
 intro a0 a1 k
 obtain ⟨ih0,ih1⟩:=impl_set_tidy.mono_l k
 unfold impl_set_tidy.f
 repeat' first
   | (with_reducible exact ih0 _ _ _)
   | (with_reducible exact ih1 _ _ _)
   | (with_reducible exact impl_turns.mono _ _ _)
   | (with_reducible exact LeO.refl _)
   | (with_reducible exact LeO.none _)
   | (with_reducible refine LeO.ite ?_ ?_)
   | (with_reducible refine LeO.bind ?_ (fun _=>?_))
   | exact ih0 _ _ _
   | exact ih1 _ _ _
   | exact impl_turns.mono _ _ _
   | exact LeO.none _
   | refine LeO.ite ?_ ?_
   | refine LeO.bind ?_ (fun _=>?_)
def impl_set_tidy.T4:Bool × List (List Nat × List Nat):=(true,[([],[]),([0],[0]),([1],[1]),([],[]),([3],[3]),([],[]),([4,5],[4,5]),([6,2],[6]),([2,7,0,1,2],[2]),([7,8,0,1,2,3,4,5,6,7,8],[7])])
def impl_set_tidy.B4:List Nat:=[0,1,3,0,8,0,56,127,255,511]
theorem impl_set_tidy.tab4:rtab .any (opsOf Try.f26 4)=impl_set_tidy.T4:=by kernel_rfl
theorem impl_set_tidy.bits4:waitsOk impl_set_tidy.T4.2 impl_set_tidy.B4=true:=by kernel_rfl
def impl_set_tidy.T5:Bool × List (List Nat × List Nat):=(true,[([],[]),([0],[0]),([1],[1]),([2],[2]),([3],[3]),([3],[3]),([5,3],[3,5]),([6,3],[3,6]),([4,7,3],[3,4,7]),([8,3],[3,8]),([3],[3]),([3],[3]),([11,3],[3,11]),([10,12,3],[3,10,12]),([13,3],[3,13]),([9,14,3],[3,9,14]),([3,15],[3,15])])
def impl_set_tidy.B5:List Nat:=[0,1,3,7,15,15,47,111,255,511,15,15,2063,7183,15375,32767,65535]
theorem impl_set_tidy.tab5:rtab .any (opsOf Try.f26 5)=impl_set_tidy.T5:=by kernel_rfl
theorem impl_set_tidy.bits5:waitsOk impl_set_tidy.T5.2 impl_set_tidy.B5=true:=by kernel_rfl
def impl_set_tidy.T7:Bool × List (List Nat × List Nat):=(true,[([],[]),([],[]),([1],[1]),([0,2],[0,2]),([3],[3]),([4],[4]),([],[]),([],[]),([7],[7]),([6,8],[6,8]),([5,9],[5,9]),([10,10,0,1,2,3,4,5,6,7,8,9,10],[0,6,10])])
def impl_set_tidy.B7:List Nat:=[0,0,2,7,15,31,0,0,128,448,1023,2047]
theorem impl_set_tidy.tab7:rtab .any (opsOf Try.f26 7)=impl_set_tidy.T7:=by kernel_rfl
theorem impl_set_tidy.bits7:waitsOk impl_set_tidy.T7.2 impl_set_tidy.B7=true:=by kernel_rfl
set_option maxHeartbeats 8000000 in
set_option maxRecDepth 100000 in
theorem impl_set_tidy.calls (k:Nat) (A0_0:Option Addr) (c0_0:Nat) (l0_0:List Bool) (A0_1:Option Addr) (c0_1:Nat) (l0_1:List Bool) (r1:List Bool) (r2:List Bool) (w:World) (hr0_0:Kd.C Kd.bool w A0_0 l0_0.length l0_0) (hc0_0:l0_0.length≤c0_0) (hr0_1:Kd.C Kd.bool w A0_1 l0_1.length l0_1) (hc0_1:l0_1.length≤c0_1) (h:impl_set_tidy.f k l0_0 l0_1=some (r1,r2)) :
  Calls Try.prog 26 #[.agg #[.slice A0_0 l0_0.length c0_0,.slice A0_1 l0_1.length c0_1]] w fun e w'=>∃ v0_ v1_:Value,e=.returned (.agg #[v0_,v1_])∧Kd.R Kd.bool 4 w' w.heap.size (fun k_=>some k_≠(v1_:Value).ownBlock) v0_ r1∧Kd.R Kd.bool 4 w' w.heap.size (fun k_=>some k_≠(v0_:Value).ownBlock) v1_ r2∧Below w.heap.size w w':=by
 have hu33:=Try.underlying33
 have HR0_0:=Aside0.mk hr0_0
 have HC0_0:=Aside0.mk hc0_0
 clear hr0_0 hc0_0
 have HR0_1:=Aside0.mk hr0_1
 have HC0_1:=Aside0.mk hc0_1
 clear hr0_1 hc0_1
 have HB:=Aside0.mk (Below.refl w.heap.size w)
 have H:(impl_set_tidy.l0 k 1 l0_0 l0_1)=some (r1,r2):=h
 clear h
 have H':=Aside0.mk H
 clear H
 go_enter Try.func26,Try.ntmps26
 go_wp2_with (first|((with_reducible refine gate_dst (N:=1) rfl ?_);(try (refine gate_guard (by rfl) ?_;dsimp only));refine box_event ?hg (N:=1) ?hd (cs:=#[.slice A0_0 l0_0.length c0_0,.slice A0_1 l0_1.length c0_1]) (t:=33) ?hr ?_;(case hd=>rfl);(case hg=>rfl);(case hr=>first|(go_simp;done)|(go_simp;rfl));intro gb169 hg w2 hbox hb;have n0_:=Aside0.mk (yP (by repeat (first|(with_reducible first|exact HB.out|apply yA|apply yB|apply yC)|exact HB.out)) hb);have n1_:=Aside0.mk (hbox);have n2_:=Aside0.mk ((by rw [hg];exact (yQ (by repeat (first|(with_reducible first|exact HB.out|apply yA|apply yB|apply yC)|exact HB.out))):w.heap.size≤gb169));have n3_:=Aside0.mk ((by rw [hg];exact (yQ (by repeat (first|(with_reducible first|exact HB.out|apply yA|apply yB|apply yC)|exact HB.out))):w.heap.size≤gb169));clear HB;have HB:=n0_;have BK169:=n1_;have GW169:=n2_;have GE169:=n3_;clear n0_ n1_ n2_ n3_;clear hb hbox hg)|((with_reducible refine gate_dst (N:=2) rfl ?_);(try (refine gate_guard (by rfl) ?_;dsimp only));refine box_event ?hg (N:=2) ?hd (cs:=#[.slice none 0 0,.slice none 0 0]) (t:=33) ?hr ?_;(case hd=>rfl);(case hg=>rfl);(case hr=>first|(go_simp;done)|(go_simp;rfl));intro gb170 hg w3 hbox hb;have n0_:=Aside0.mk (blk_below (g:=gb169) (o:=.cells #[.slice A0_0 l0_0.length c0_0,.slice A0_1 l0_1.length c0_1] 33 (0,0)) (by (with_reducible repeat (first|refine yE ?_ _|refine yF ?_|refine yG ?_ _));exact BK169.out) hb);have n1_:=Aside0.mk (yP (by repeat (first|(with_reducible first|exact HB.out|apply yA|apply yB|apply yC|refine yD ?_ GE169.out)|exact HB.out)) hb);have n2_:=Aside0.mk (hbox);have n3_:=Aside0.mk ((by rw [hg];exact (yQ (by repeat (first|(with_reducible first|exact HB.out|apply yA|apply yB|apply yC|refine yD ?_ GE169.out)|exact HB.out))):w.heap.size≤gb170));have n4_:=Aside0.mk ((by rw [hg];exact (yQ (by repeat (first|(with_reducible first|exact HB.out|apply yA|apply yB|apply yC|refine yD ?_ GE169.out)|exact HB.out))):w.heap.size≤gb170));have n5_:=Aside0.mk ((by rw [hg];exact Nat.ne_of_lt (blk_lt (g:=gb169) (o:=.cells #[.slice A0_0 l0_0.length c0_0,.slice A0_1 l0_1.length c0_1] 33 (0,0)) (by (with_reducible repeat (first|refine yE ?_ _|refine yF ?_|refine yG ?_ _));exact BK169.out)):gb169≠gb170));have n6_:=Aside0.mk ((by rw [hg];exact Nat.ne_of_gt (blk_lt (g:=gb169) (o:=.cells #[.slice A0_0 l0_0.length c0_0,.slice A0_1 l0_1.length c0_1] 33 (0,0)) (by (with_reducible repeat (first|refine yE ?_ _|refine yF ?_|refine yG ?_ _));exact BK169.out)):gb170≠gb169));clear BK169;clear HB;have BK169:=n0_;have HB:=n1_;have BK170:=n2_;have GW170:=n3_;have GE170:=n4_;have NB169_170:=n5_;have NB170_169:=n6_;clear n0_ n1_ n2_ n3_ n4_ n5_ n6_;clear hb hbox hg))
 go_loopg [3] k (fun kq v3 w'=>∃ (x3_1:Int),v3=.int .i64 x3_1∧Aside0 (impl_set_tidy.l0 kq x3_1 l0_0 l0_1=some (r1,r2))∧Aside0 (kq≤k)∧Aside0 (w'.heap[gb169]?=some (.cells #[(.slice A0_0 l0_0.length c0_0),(.slice A0_1 l0_1.length c0_1)] 33 (0,0)))∧Aside0 (w'.heap[gb170]?=some (.cells #[(.slice none 0 0),(.slice none 0 0)] 33 (0,0)))∧Aside0 (Below w.heap.size w w'))
 case atStart=>exact ⟨(1),(by first|rfl|(simp;done)|(simp [*];done)|(simp [Int.tmod_eq_emod_of_nonneg];done)),H',⟨Nat.le_refl _⟩,⟨by (with_reducible repeat (first|refine yE ?_ _|refine yF ?_|refine yG ?_ _));exact BK169.out⟩,⟨by (with_reducible repeat (first|refine yE ?_ _|refine yF ?_|refine yG ?_ _));exact BK170.out⟩,⟨by repeat (first|(with_reducible first|exact HB.out|apply yA|apply yB|apply yC|refine yD ?_ GE169.out|refine yD ?_ GE170.out)|exact HB.out)⟩⟩
 case round =>
  clear H'
  try clear c2
  try clear p2
  obtain ⟨x3_1,rfl,HA,HK1,BK169,BK170,HB⟩:=hrel
  cases gk with
  | zero=>exact absurd HA.out (by simp [impl_set_tidy.l0])
  | succ k1 =>
   have H:=HA.out
   clear HA
   simp only [impl_set_tidy.l0] at H
   replace H:=Option.bind_eq_some_iff.mp H
   obtain ⟨t171,A40,H⟩:=H
   replace H:(if t171=true then ((slices_Clone_bool_bool.f l0_0).bind fun t172=>(if 0≤x3_1 then (if x3_1≤(l0_1.length:Int) then ((slices_Clone_bool_bool.f (l0_1.take (x3_1:Int).toNat)).bind fun t176=>(impl_set_tidy.l1 k1 x3_1 t172 t176)) else (none)) else (none))) else (impl_set_tidy.l0 k1 (wrap64 (x3_1+1)) l0_0 l0_1))=some (r1,r2):=H
   have A4:=Aside0.mk A40
   clear A40
   by_cases c5:t171=true
   ·subst c5
    have H1:((slices_Clone_bool_bool.f l0_0).bind fun t172=>(if 0≤x3_1 then (if x3_1≤(l0_1.length:Int) then ((slices_Clone_bool_bool.f (l0_1.take (x3_1:Int).toNat)).bind fun t176=>(impl_set_tidy.l1 k1 x3_1 t172 t176)) else (none)) else (none)))=some (r1,r2):=by rw [if_pos rfl] at H;exact H
    clear H
    have H:=H1
    clear H1
    replace H:=Option.bind_eq_some_iff.mp H
    obtain ⟨t172,A60,H⟩:=H
    replace H:(if 0≤x3_1 then (if x3_1≤(l0_1.length:Int) then ((slices_Clone_bool_bool.f (l0_1.take (x3_1:Int).toNat)).bind fun t176=>(impl_set_tidy.l1 k1 x3_1 t172 t176)) else (none)) else (none))=some (r1,r2):=H
    have A6:=Aside0.mk A60
    clear A60
    by_cases c7:0≤x3_1
    ·rw [if_pos c7] at H
     have c7b0:=eq_true c7
     have c7b1:decide (0≤x3_1)=true:=decide_eq_true c7
     clear c7
     by_cases c8:x3_1≤(l0_1.length:Int)
     ·rw [if_pos c8] at H
      have c8b0:=eq_true c8
      have c8b1:decide (x3_1≤(l0_1.length:Int))=true:=decide_eq_true c8
      clear c8
      replace H:=Option.bind_eq_some_iff.mp H
      obtain ⟨t176,A90,H⟩:=H
      replace H:(impl_set_tidy.l1 k1 x3_1 t172 t176)=some (r1,r2):=H
      have A9:=Aside0.mk A90
      clear A90
      have H':=Aside0.mk H
      clear H
      have hnb10:=NB169_170.out
      have hnc10:=NB170_169.out
      have hcz11_0:wr.cell? ⟨gb169,0,none⟩=some (.slice A0_0 l0_0.length c0_0):=(blk_cell BK169.out 0).trans rfl
      have hcz11_1:wr.cell? ⟨gb169,1,none⟩=some (.slice A0_1 l0_1.length c0_1):=(blk_cell BK169.out 1).trans rfl
      have hfz11_0:=blk_frozen BK169.out 0
      have hfz11_1:=blk_frozen BK169.out 1
      try go_wp2_with (first|((with_reducible refine gate_callee (f:=31) rfl ?_);refine goesL_ (some 9) rfl rfl Try.func31 (by kernel_rfl) rfl #[.slice A0_1 l0_1.length c0_1,.int .i64 x3_1] rfl (by (try simp only [List.map_toArray,List.map_cons,List.map_nil]);first|done|rfl|(simp only [List.length_drop,List.length_take];rfl)) ?_;(with_reducible refine (impl_turns.calls k1 _ _ l0_1 x3_1 true _ ?side1 ?side2 A4.out).mono ?_);(case side1=>repeat (first|exact (Kd.C_below HR0_1.out HB.out)|(with_reducible refine Kd.C_alloc ?_ _)|(with_reducible refine Kd.C_drewN ?_ _)|(with_reducible refine Kd.C_drew ?_)));(case side2=>exact HC0_1.out);rintro e w' ⟨rfl,⟨nd,rfl⟩⟩;refine ⟨_,rfl,?_⟩))
      (try (rw [drewN_self wr];generalize hq_:World.drewN wr _=wr;have n0_:Aside0 (wr.heap[gb169]?=some (.cells #[.slice A0_0 l0_0.length c0_0,.slice A0_1 l0_1.length c0_1] 33 (0,0))):=⟨by rw [← hq_];exact (by (with_reducible repeat (first|refine yE ?_ _|refine yF ?_|refine yG ?_ _));exact BK169.out)⟩;have n1_:Aside0 (wr.heap[gb170]?=some (.cells #[.slice none 0 0,.slice none 0 0] 33 (0,0))):=⟨by rw [← hq_];exact (by (with_reducible repeat (first|refine yE ?_ _|refine yF ?_|refine yG ?_ _));exact BK170.out)⟩;have n2_:Aside0 (Below w.heap.size w wr):=⟨by rw [← hq_];exact (by repeat (first|(with_reducible first|exact HB.out|apply yA|apply yB|apply yC|refine yD ?_ GE169.out|refine yD ?_ GE170.out)|exact HB.out))⟩;clear BK169 BK170 HB hq_;have BK169:=n0_;have BK170:=n1_;have HB:=n2_;clear n0_ n1_ n2_))
      have n0_:=Aside0.mk (yF BK169.out)
      have n1_:=Aside0.mk (yF BK170.out)
      have n2_:=Aside0.mk (yC HB.out)
      clear BK169
      clear BK170
      clear HB
      have BK169:=n0_
      have BK170:=n1_
      have HB:=n2_
      clear n0_ n1_ n2_
      obtain ⟨i013,hi013,_,hsz13,_⟩:=info_parts info4
      obtain ⟨hcut13,hA13,hC13⟩:=print_take_of (P:=Try.prog) Value.bool false 31 4 .i64 Try.underlying31 hi013 hsz13 A0_1 c0_1 l0_1 x3_1 (of_decide_eq_true (by first|(with_reducible assumption)|assumption)) (of_decide_eq_true (by first|(with_reducible assumption)|assumption)) HC0_1.out
      have HR175:=Aside0.mk (Kd.C_of_reads (h1:=fun _=>rfl) (hA13 _ (Kd.reads_of_C HR0_1.out)))
      have HC175:=Aside0.mk hC13
      clear hA13 hC13 hi013 hsz13
      refine start_ (n:=10) (S:=fun w'=>w'.cell? ⟨gb169,0,none⟩=some (.slice A0_0 l0_0.length c0_0)∧w'.cell? ⟨gb169,1,none⟩=some (.slice A0_1 l0_1.length c0_1)) (ds:=[]) #[false,false,false,false,false,false,false,false,false,false] (by kernel_rfl) rfl rfl ⟨(blk_cell BK169.out 0).trans rfl,(blk_cell BK169.out 1).trans rfl⟩ (fun hHeld=>?_);refine with_tabW impl_set_tidy.tab4 impl_set_tidy.bits4 (fun HT_ HW_=>?_)
      generalize wr.drew=w12 at BK169 BK170 HB HR175 hHeld ⊢
      refine pure_ (i:=0) (N:=some 13) (v:=?_) (a':=?_) #[true,false,false,false,false,false,false,false,false,false] rfl rfl (any_of HT_.out (by kernel_rfl)) (fun _ _ _ h=>h) (Or.inl ⟨by rfl,?_⟩) ?_ ?_
      rotate_left
      ·intro w'
       go_simp
       with_reducible rfl
      rotate_left
      ·simp only [Act.put,yK,yL,yM,i64_w,i32_w]
       rfl
      refine pure_ (i:=3) (N:=some 16) (v:=?_) (a':=?_) #[true,false,false,true,false,false,false,false,false,false] rfl rfl (any_of HT_.out (by kernel_rfl)) (fun _ _ _ h=>h) (Or.inl ⟨by rfl,?_⟩) ?_ ?_
      rotate_left
      ·intro w'
       go_simp
       with_reducible rfl
      rotate_left
      ·simp only [Act.put,yK,yL,yM,i64_w,i32_w]
       rfl
      refine pure_ (i:=5) (N:=some 18) (v:=?_) (a':=?_) #[true,false,false,true,false,true,false,false,false,false] rfl rfl (any_of HT_.out (by kernel_rfl)) (fun _ _ _ h=>h) (Or.inl ⟨by rfl,?_⟩) ?_ ?_
      rotate_left
      ·intro w'
       go_simp
       with_reducible rfl
      rotate_left
      ·simp only [Act.put,yK,yL,yM,i64_w,i32_w]
       rfl
      refine take_ (i:=1) (N:=some 14) (v:=?_) (a':=?_) #[true,true,false,true,false,true,false,false,false,false] rfl rfl (take_ofW HT_.out HW_.out (by kernel_rfl)) (fun _ _ _ h=>h) (Or.inl ⟨by rfl,?_⟩) hHeld ?_ ?_
      rotate_left
      ·rintro w' ⟨s0,s1⟩
       go_simp
       with_reducible rfl
      rotate_left
      ·simp only [Act.put,yK,yL,yM,i64_w,i32_w]
       rfl
      refine take_ (i:=4) (N:=some 17) (v:=?_) (a':=?_) #[true,true,false,true,true,true,false,false,false,false] rfl rfl (take_ofW HT_.out HW_.out (by kernel_rfl)) (fun _ _ _ h=>h) (Or.inl ⟨by rfl,?_⟩) hHeld ?_ ?_
      rotate_left
      ·rintro w' ⟨s0,s1⟩
       go_simp
       with_reducible rfl
      rotate_left
      ·simp only [Act.put,yK,yL,yM,i64_w,i32_w]
       rfl
      refine pure_ (i:=6) (N:=some 19) (v:=?_) (a':=?_) #[true,true,false,true,true,true,true,false,false,false] rfl rfl (any_of HT_.out (by kernel_rfl)) (fun _ _ _ h=>h) (Or.inl ⟨by rfl,?_⟩) ?_ ?_
      rotate_left
      ·intro w'
       go_simp
       with_reducible rfl
      rotate_left
      ·simp only [Act.put,yK,yL,yM,i64_w,i32_w]
       rfl
      refine one_ (i:=2) (N:=some 15) #[true,true,true,true,true,true,true,false,false,false] rfl rfl (one_of HT_.out (by kernel_rfl)) (by decide) (fun K hK=>?_)
      refine goes_ Try.func32 (by kernel_rfl) rfl #[.slice A0_0 l0_0.length c0_0] (by rfl) rfl rfl (by (try simp only [List.map_toArray,List.map_cons,List.map_nil]);first|done|rfl|(simp only [List.length_drop,List.length_take];rfl)) ?_
      with_reducible refine (slices_Clone_bool_bool.calls _ _ l0_0 t172 _ ?side1 ?side2 A6.out).mono ?_
      (case side1=>repeat (first|exact (Kd.C_below HR0_0.out HB.out)|(with_reducible refine Kd.C_alloc ?_ _)|(with_reducible refine Kd.C_drewN ?_ _)|(with_reducible refine Kd.C_drew ?_)))
      (case side2=>exact HC0_0.out)
      rintro e w14 ⟨v173,rfl,ho0,hb⟩
      refine ⟨_,rfl,?_⟩
      have n0_:=Aside0.mk (Kd.R_lower ho0 (yQ (by repeat (first|(with_reducible first|exact HB.out|apply yA|apply yB|apply yC|refine yD ?_ GE169.out|refine yD ?_ GE170.out)|exact HB.out))))
      have n1_:=Aside0.mk (blk_below (g:=gb169) (o:=.cells #[.slice A0_0 l0_0.length c0_0,.slice A0_1 l0_1.length c0_1] 33 (0,0)) (by (with_reducible repeat (first|refine yE ?_ _|refine yF ?_|refine yG ?_ _));exact BK169.out) hb)
      have n2_:=Aside0.mk (blk_below (g:=gb170) (o:=.cells #[.slice none 0 0,.slice none 0 0] 33 (0,0)) (by (with_reducible repeat (first|refine yE ?_ _|refine yF ?_|refine yG ?_ _));exact BK170.out) hb)
      have n3_:=Aside0.mk (yP (by repeat (first|(with_reducible first|exact HB.out|apply yA|apply yB|apply yC|refine yD ?_ GE169.out|refine yD ?_ GE170.out)|exact HB.out)) hb)
      clear BK169
      clear BK170
      clear HB
      have HO174:=n0_
      have BK169:=n1_
      have BK170:=n2_
      have HB:=n3_
      clear n0_ n1_ n2_ n3_
      (try clear hb)
      (try clear hb2)
      (try clear hk)
      (try clear hi)
      (try clear ho0)
      refine hK.out _ _ ⟨(blk_cell BK169.out 0).trans rfl,(blk_cell BK169.out 1).trans rfl⟩ (fun hHeld=>?_)
      clear hK K
      refine norm_ (a':=?_) ?_ ?_
      rotate_left
      ·show Act.put _ (some 15) _=_
       simp only [Act.put,yK,yL,yM,i64_w,i32_w]
       rfl
      refine one_ (i:=7) (N:=some 20) #[true,true,true,true,true,true,true,true,false,false] rfl rfl (one_of HT_.out (by kernel_rfl)) (by decide) (fun K hK=>?_)
      refine goes_ Try.func32 (by kernel_rfl) rfl #[.slice A0_1 (l0_1.take (x3_1:Int).toNat).length c0_1] (by rfl) rfl rfl (by (try simp only [List.map_toArray,List.map_cons,List.map_nil]);first|done|(rw [show (l0_1.take (x3_1:Int).toNat).length=x3_1.toNat from (by rw [List.length_take];have h_:(x3_1:Int)≤(l0_1.length:Int):=of_decide_eq_true (by first|(with_reducible assumption)|assumption);omega)]<;>rfl)|rfl|(simp only [List.length_drop,List.length_take];rfl)) ?_
      with_reducible refine (slices_Clone_bool_bool.calls _ _ (l0_1.take (x3_1:Int).toNat) t176 _ ?side1 ?side2 A9.out).mono ?_
      (case side1=>repeat (first|exact (Kd.C_below HR175.out HB.out)|(with_reducible refine Kd.C_alloc ?_ _)|(with_reducible refine Kd.C_drewN ?_ _)|(with_reducible refine Kd.C_drew ?_)))
      (case side2=>exact HC175.out)
      rintro e w15 ⟨v177,rfl,ho0,hb⟩
      refine ⟨_,rfl,?_⟩
      have n0_:=Aside0.mk (Kd.R_elder' (by (with_reducible repeat (first|apply yH|apply yI|apply yJ));exact HO174.out) (Kd.R_base ho0) hb)
      have n1_:=Aside0.mk (Kd.R_lower (Kd.R_new' ho0 (Kd.R_lt (by (with_reducible repeat (first|apply yH|apply yI|apply yJ));exact HO174.out))) (yQ (by repeat (first|(with_reducible first|exact HB.out|apply yA|apply yB|apply yC|refine yD ?_ GE169.out|refine yD ?_ GE170.out)|exact HB.out))))
      have n2_:=Aside0.mk (blk_below (g:=gb169) (o:=.cells #[.slice A0_0 l0_0.length c0_0,.slice A0_1 l0_1.length c0_1] 33 (0,0)) (by (with_reducible repeat (first|refine yE ?_ _|refine yF ?_|refine yG ?_ _));exact BK169.out) hb)
      have n3_:=Aside0.mk (blk_below (g:=gb170) (o:=.cells #[.slice none 0 0,.slice none 0 0] 33 (0,0)) (by (with_reducible repeat (first|refine yE ?_ _|refine yF ?_|refine yG ?_ _));exact BK170.out) hb)
      have n4_:=Aside0.mk (yP (by repeat (first|(with_reducible first|exact HB.out|apply yA|apply yB|apply yC|refine yD ?_ GE169.out|refine yD ?_ GE170.out)|exact HB.out)) hb)
      clear HO174
      clear BK169
      clear BK170
      clear HB
      have HO174:=n0_
      have HO178:=n1_
      have BK169:=n2_
      have BK170:=n3_
      have HB:=n4_
      clear n0_ n1_ n2_ n3_ n4_
      (try clear hb)
      (try clear hb2)
      (try clear hk)
      (try clear hi)
      (try clear ho0)
      refine hK.out _ _ ⟨(blk_cell BK169.out 0).trans rfl,(blk_cell BK169.out 1).trans rfl⟩ (fun hHeld=>?_)
      clear hK K
      refine norm_ (a':=?_) ?_ ?_
      rotate_left
      ·show Act.put _ (some 20) _=_
       simp only [Act.put,yK,yL,yM,i64_w,i32_w]
       rfl
      refine pure_ (i:=8) (N:=some 4) (v:=?_) (a':=?_) #[true,true,true,true,true,true,true,true,true,false] rfl rfl (any_of HT_.out (by kernel_rfl)) (fun _ _ _ h=>h) (Or.inl ⟨by rfl,?_⟩) ?_ ?_
      rotate_left
      ·intro w'
       go_simp
       with_reducible rfl
      rotate_left
      ·simp only [Act.put,yK,yL,yM,i64_w,i32_w]
       rfl
      refine pure_ (i:=9) (N:=some 5) (v:=?_) (a':=?_) #[true,true,true,true,true,true,true,true,true,true] rfl rfl (any_of HT_.out (by kernel_rfl)) (fun _ _ _ h=>h) (Or.inl ⟨by rfl,?_⟩) ?_ ?_
      rotate_left
      ·intro w'
       go_simp
       with_reducible rfl
      rotate_left
      ·simp only [Act.put,yK,yL,yM,i64_w,i32_w]
       rfl
      refine done_ (done_of HT_.out (by kernel_rfl)) ?_
      try go_wp2
      go_loopg [4,5] k1 (fun kq v4 v5 w'=>∃ (x4_2:List Bool) (x5_2:List Bool),Aside0 (impl_set_tidy.l1 kq x3_1 x4_2 x5_2=some (r1,r2))∧Aside0 (kq≤k1)∧Aside0 (Kd.R Kd.bool 4 w' w.heap.size (fun k_=>some k_≠(v5:Value).ownBlock) v4 x4_2)∧Aside0 (Kd.R Kd.bool 4 w' w.heap.size (fun k_=>some k_≠(v4:Value).ownBlock) v5 x5_2)∧Aside0 (w'.heap[gb169]?=some (.cells #[(.slice A0_0 l0_0.length c0_0),(.slice A0_1 l0_1.length c0_1)] 33 (0,0)))∧Aside0 (w'.heap[gb170]?=some (.cells #[(.slice none 0 0),(.slice none 0 0)] 33 (0,0)))∧Aside0 (Below w.heap.size w w'))
      case atStart=>exact ⟨(t172),(t176),H',⟨Nat.le_refl _⟩,⟨by (with_reducible repeat (first|apply yH|apply yI|apply yJ));exact Kd.R_mono HO174.out (fun _ hk=>hk.2)⟩,⟨by (with_reducible repeat (first|apply yH|apply yI|apply yJ));exact Kd.R_mono HO178.out (fun _ hk=>hk.2)⟩,⟨by (with_reducible repeat (first|refine yE ?_ _|refine yF ?_|refine yG ?_ _));exact BK169.out⟩,⟨by (with_reducible repeat (first|refine yE ?_ _|refine yF ?_|refine yG ?_ _));exact BK170.out⟩,⟨by repeat (first|(with_reducible first|exact HB.out|apply yA|apply yB|apply yC|refine yD ?_ GE169.out|refine yD ?_ GE170.out)|exact HB.out)⟩⟩
      case round =>
       clear H'
       try clear c1
       try clear c2
       try clear p2
       try clear c3
       try clear c5
       try clear p6
       try clear c7
       try clear c7b0
       try clear c7b1
       try clear c8
       try clear c8b0
       try clear c8b1
       try clear c10
       try clear hcz11_0
       try clear hcz11_1
       try clear hfz11_0
       try clear hfz11_1
       try clear p2
       obtain ⟨x4_2,x5_2,HA,HK2,HO_4,HO_5,BK169,BK170,HB⟩:=hrel
       cases gk with
       | zero=>exact absurd HA.out (by simp [impl_set_tidy.l1])
       | succ k2 =>
        have H:=HA.out
        clear HA
        simp only [impl_set_tidy.l1] at H
        by_cases c16:(x4_2.length:Int) > 0
        ·rw [if_pos c16] at H
         have c16b0:decide (0<(x4_2.length:Int))=true:=decide_eq_true c16
         have c16b1:decide (0<x4_2.length)=true:=decide_eq_true (by omega)
         clear c16
         obtain ⟨ji17,hji17⟩:∃ j_:Int,(wrap64 ((x4_2.length:Int) - 1))=j_:=⟨_,rfl⟩
         replace H:(if 0≤(ji17) then (if (ji17)<(x4_2.length:Int) then (if 0≤(wrap64 (x3_1 - 1)) then (if (wrap64 (x3_1 - 1))<(x5_2.length:Int) then (if ((rdOf false x4_2 (ji17)) == (rdOf false x5_2 (wrap64 (x3_1 - 1))))=true then (if (ji17)≤(x4_2.length:Int) then ((some (([rdOf false x5_2 (wrap64 (x3_1 - 1))]:List Bool):List Bool)).bind fun y185=>(if (wrap64 (x3_1 - 1))≤(x5_2.length:Int) then ((some (x5_2.take ((wrap64 (x3_1 - 1)):Int).toNat:List Bool)).bind fun y188=>(if y185.length+y188.length<140737488355328 then (impl_set_tidy.l1 k2 x3_1 (x4_2.take ((ji17):Int).toNat) (y185++y188)) else (none))) else (none))) else (none)) else (some (x4_2,x5_2))) else (none)) else (none)) else (none)) else (none))=some (r1,r2):=by first|(rw [hji17] at H;exact H)|(simp only [hji17] at H ⊢;exact H)
         have hji17w:(IntKind.i64.wrap ((x4_2.length:Int) - 1))=ji17:=(i64_w _).trans hji17
         by_cases c18:0≤(ji17)
         ·rw [if_pos c18] at H
          have c18b0:decide (0≤(ji17))=true:=decide_eq_true c18
          clear c18
          by_cases c19:(ji17)<(x4_2.length:Int)
          ·rw [if_pos c19] at H
           have c19b0:decide ((ji17)<(x4_2.length:Int))=true:=decide_eq_true c19
           clear c19
           obtain ⟨ji20,hji20⟩:∃ j_:Int,(wrap64 (x3_1 - 1))=j_:=⟨_,rfl⟩
           replace H:(if 0≤(ji20) then (if (ji20)<(x5_2.length:Int) then (if ((rdOf false x4_2 (ji17)) == (rdOf false x5_2 (ji20)))=true then (if (ji17)≤(x4_2.length:Int) then ((some (([rdOf false x5_2 (ji20)]:List Bool):List Bool)).bind fun y185=>(if (ji20)≤(x5_2.length:Int) then ((some (x5_2.take ((ji20):Int).toNat:List Bool)).bind fun y188=>(if y185.length+y188.length<140737488355328 then (impl_set_tidy.l1 k2 x3_1 (x4_2.take ((ji17):Int).toNat) (y185++y188)) else (none))) else (none))) else (none)) else (some (x4_2,x5_2))) else (none)) else (none))=some (r1,r2):=by first|(rw [hji20] at H;exact H)|(simp only [hji20] at H ⊢;exact H)
           have hji20w:(IntKind.i64.wrap (x3_1 - 1))=ji20:=(i64_w _).trans hji20
           by_cases c21:0≤(ji20)
           ·rw [if_pos c21] at H
            have c21b0:decide (0≤(ji20))=true:=decide_eq_true c21
            clear c21
            by_cases c22:(ji20)<(x5_2.length:Int)
            ·rw [if_pos c22] at H
             have c22b0:decide ((ji20)<(x5_2.length:Int))=true:=decide_eq_true c22
             clear c22
             by_cases c23:((rdOf false x4_2 (ji17)) == (rdOf false x5_2 (ji20)))=true
             ·rw [if_pos c23] at H
              have c23b0:((rdOf false x4_2 (ji17)) == (rdOf false x5_2 (ji20)))=true:=c23
              (try (have c23b1:decide ((rdOf false x4_2 (ji17))=(rdOf false x5_2 (ji20)))=true:=by simpa using c23))
              (try (have c23b2:((rdOf false x4_2 (ji17)) == (rdOf false x5_2 (ji20)))=true:=by simpa using c23))
              clear c23
              by_cases c24:(ji17)≤(x4_2.length:Int)
              ·rw [if_pos c24] at H
               have c24b0:=eq_true c24
               have c24b1:decide ((ji17)≤(x4_2.length:Int))=true:=decide_eq_true c24
               clear c24
               obtain ⟨y181,hy181⟩:∃ y_:List Bool,y_=(x4_2.take ((ji17):Int).toNat):=⟨_,rfl⟩
               replace H:((some (([rdOf false x5_2 (ji20)]:List Bool):List Bool)).bind fun y185=>(if (ji20)≤(x5_2.length:Int) then ((some (x5_2.take ((ji20):Int).toNat:List Bool)).bind fun y188=>(if y185.length+y188.length<140737488355328 then (impl_set_tidy.l1 k2 x3_1 y181 (y185++y188)) else (none))) else (none)))=some (r1,r2):=by first|(rw [hy181];with_reducible exact H)|(have H2_:=(Option.bind_some _ _).symm.trans H;rw [hy181];with_reducible exact H2_)|(have H2_:=(Option.bind_some _ _).symm.trans H;with_reducible exact H2_)|with_reducible exact H|(rw [hy181];exact H)|exact H
               have Ny181:=Aside0.mk hy181
               clear hy181
               obtain ⟨y185,hy185⟩:∃ y_:List Bool,y_=(([rdOf false x5_2 (ji20)]:List Bool)):=⟨_,rfl⟩
               replace H:(if (ji20)≤(x5_2.length:Int) then ((some (x5_2.take ((ji20):Int).toNat:List Bool)).bind fun y188=>(if y185.length+y188.length<140737488355328 then (impl_set_tidy.l1 k2 x3_1 y181 (y185++y188)) else (none))) else (none))=some (r1,r2):=by first|(rw [hy185];with_reducible exact H)|(have H2_:=(Option.bind_some _ _).symm.trans H;rw [hy185];with_reducible exact H2_)|(have H2_:=(Option.bind_some _ _).symm.trans H;with_reducible exact H2_)|with_reducible exact H|(rw [hy185];exact H)|exact H
               have Ny185:=Aside0.mk hy185
               clear hy185
               have c25b0:=eq_true (of_decide_eq_true (by first|(with_reducible assumption)|assumption):0≤(ji20))
               by_cases c26:(ji20)≤(x5_2.length:Int)
               ·rw [if_pos c26] at H
                have c26b0:=eq_true c26
                have c26b1:decide ((ji20)≤(x5_2.length:Int))=true:=decide_eq_true c26
                clear c26
                obtain ⟨y188,hy188⟩:∃ y_:List Bool,y_=(x5_2.take ((ji20):Int).toNat):=⟨_,rfl⟩
                replace H:(if y185.length+y188.length<140737488355328 then (impl_set_tidy.l1 k2 x3_1 y181 (y185++y188)) else (none))=some (r1,r2):=by first|(rw [hy188];with_reducible exact H)|(have H2_:=(Option.bind_some _ _).symm.trans H;rw [hy188];with_reducible exact H2_)|(have H2_:=(Option.bind_some _ _).symm.trans H;with_reducible exact H2_)|with_reducible exact H|(rw [hy188];exact H)|exact H
                have Ny188:=Aside0.mk hy188
                clear hy188
                by_cases c27:y185.length+y188.length<140737488355328
                ·rw [if_pos c27] at H
                 have LMc27:=Aside0.mk c27
                 clear c27
                 obtain ⟨y192,hy192⟩:∃ y_:List Bool,y_=(y185++y188):=⟨_,rfl⟩
                 replace H:(impl_set_tidy.l1 k2 x3_1 y181 y192)=some (r1,r2):=by first|(rw [hy192];with_reducible exact H)|(have H2_:=(Option.bind_some _ _).symm.trans H;rw [hy192];with_reducible exact H2_)|(have H2_:=(Option.bind_some _ _).symm.trans H;with_reducible exact H2_)|with_reducible exact H|(rw [hy192];exact H)|exact H
                 have Ny192:=Aside0.mk hy192
                 clear hy192
                 have H':=Aside0.mk H
                 clear H
                 try go_wp2
                 have n0_:=Aside0.mk (yJ HO_4.out)
                 have n1_:=Aside0.mk (yJ HO_5.out)
                 have n2_:=Aside0.mk (yF BK169.out)
                 have n3_:=Aside0.mk (yF BK170.out)
                 have n4_:=Aside0.mk (yC HB.out)
                 clear HO_4
                 clear HO_5
                 clear BK169
                 clear BK170
                 clear HB
                 have HO_4:=n0_
                 have HO_5:=n1_
                 have BK169:=n2_
                 have BK170:=n3_
                 have HB:=n4_
                 clear n0_ n1_ n2_ n3_ n4_
                 obtain ⟨Ao29,co29,eo29⟩:=Kd.R_slice HO_4.out
                 (first|subst eo29|(injection eo29 with f1_ f2_ f3_;have f4_:=f1_.symm;have f5_:=f3_.symm;clear f1_ f2_ f3_;subst f4_;subst f5_))
                 have p179:0≤((ji17):Int):=of_decide_eq_true (by first|(with_reducible assumption)|assumption)
                 have q179:(ji17)<(x4_2.length:Int):=of_decide_eq_true (by first|(with_reducible assumption)|assumption)
                 obtain ⟨ad179,e179,hx179_0⟩:=Kd.at_bool (Kd.R_reads' HO_4.out).2.2 (ji17) p179 q179
                 cases e179
                 replace p179:=eq_true p179
                 replace q179:=eq_true q179
                 obtain ⟨Ao30,co30,eo30⟩:=Kd.R_slice HO_5.out
                 (first|subst eo30|(injection eo30 with f1_ f2_ f3_;have f4_:=f1_.symm;have f5_:=f3_.symm;clear f1_ f2_ f3_;subst f4_;subst f5_))
                 have p180:0≤((ji20):Int):=of_decide_eq_true (by first|(with_reducible assumption)|assumption)
                 have q180:(ji20)<(x5_2.length:Int):=of_decide_eq_true (by first|(with_reducible assumption)|assumption)
                 obtain ⟨ad180,e180,hx180_0⟩:=Kd.at_bool (Kd.R_reads' HO_5.out).2.2 (ji20) p180 q180
                 cases e180
                 replace p180:=eq_true p180
                 replace q180:=eq_true q180
                 refine start_ (n:=17) (S:=fun w'=>w'.cell? (ad179.add ((ji17)).toNat)=some (.bool (rdOf false x4_2 (ji17)))∧w'.cell? (ad180.add ((ji20)).toNat)=some (.bool (rdOf false x5_2 (ji20)))) (ds:=[]) #[false,false,false,false,false,false,false,false,false,false,false,false,false,false,false,false,false] (by kernel_rfl) rfl rfl ⟨hx179_0,hx180_0⟩ (fun hHeld=>?_);refine with_tabW impl_set_tidy.tab5 impl_set_tidy.bits5 (fun HT_ HW_=>?_)
                 generalize wr.drew=w28 at HO_4 HO_5 BK169 BK170 HB hx179_0 hx180_0 hHeld ⊢
                 refine pure_ (i:=0) (N:=some 21) (v:=?_) (a':=?_) #[true,false,false,false,false,false,false,false,false,false,false,false,false,false,false,false,false] rfl rfl (any_of HT_.out (by kernel_rfl)) (fun _ _ _ h=>h) (Or.inl ⟨by rfl,?_⟩) ?_ ?_
                 rotate_left
                 ·intro w'
                  go_simp
                  with_reducible rfl
                 rotate_left
                 ·simp only [Act.put,yK,yL,yM,i64_w,i32_w]
                  rfl
                 refine pure_ (i:=1) (N:=some 22) (v:=?_) (a':=?_) #[true,true,false,false,false,false,false,false,false,false,false,false,false,false,false,false,false] rfl rfl (any_of HT_.out (by kernel_rfl)) (fun _ _ _ h=>h) (Or.inl ⟨by rfl,?_⟩) ?_ ?_
                 rotate_left
                 ·intro w'
                  go_simp
                  with_reducible rfl
                 rotate_left
                 ·simp only [Act.put,yK,yL,yM,i64_w,i32_w]
                  rfl
                 refine pure_ (i:=2) (N:=some 23) (v:=?_) (a':=?_) #[true,true,true,false,false,false,false,false,false,false,false,false,false,false,false,false,false] rfl rfl (any_of HT_.out (by kernel_rfl)) (fun _ _ _ h=>h) (Or.inl ⟨by rfl,?_⟩) ?_ ?_
                 rotate_left
                 ·intro w'
                  go_simp
                  with_reducible rfl
                 rotate_left
                 ·simp only [Act.put,yK,yL,yM,i64_w,i32_w]
                  rfl
                 refine pure_ (i:=3) (N:=some 24) (v:=?_) (a':=?_) #[true,true,true,true,false,false,false,false,false,false,false,false,false,false,false,false,false] rfl rfl (any_of HT_.out (by kernel_rfl)) (fun _ _ _ h=>h) (Or.inl ⟨by rfl,?_⟩) ?_ ?_
                 rotate_left
                 ·intro w'
                  go_simp
                  with_reducible rfl
                 rotate_left
                 ·simp only [Act.put,yK,yL,yM,i64_w,i32_w]
                  rfl
                 refine pure_ (i:=4) (N:=some 25) (v:=?_) (a':=?_) #[true,true,true,true,true,false,false,false,false,false,false,false,false,false,false,false,false] rfl rfl (any_of HT_.out (by kernel_rfl)) (fun _ _ _ h=>h) (Or.inl ⟨by rfl,?_⟩) ?_ ?_
                 rotate_left
                 ·intro w'
                  go_simp
                  with_reducible rfl
                 rotate_left
                 ·simp only [Act.put,yK,yL,yM,i64_w,i32_w]
                  rfl
                 refine pure_ (i:=5) (N:=some 26) (v:=?_) (a':=?_) #[true,true,true,true,true,true,false,false,false,false,false,false,false,false,false,false,false] rfl rfl (any_of HT_.out (by kernel_rfl)) (fun _ _ _ h=>h) (Or.inl ⟨by rfl,?_⟩) ?_ ?_
                 rotate_left
                 ·intro w'
                  go_simp
                  with_reducible rfl
                 rotate_left
                 ·simp only [Act.put,yK,yL,yM,i64_w,i32_w]
                  rfl
                 refine pure_ (i:=6) (N:=some 27) (v:=?_) (a':=?_) #[true,true,true,true,true,true,true,false,false,false,false,false,false,false,false,false,false] rfl rfl (any_of HT_.out (by kernel_rfl)) (fun _ _ _ h=>h) (Or.inl ⟨by rfl,?_⟩) ?_ ?_
                 rotate_left
                 ·intro w'
                  go_simp
                  with_reducible rfl
                 rotate_left
                 ·simp only [Act.put,yK,yL,yM,i64_w,i32_w]
                  rfl
                 refine pure_ (i:=7) (N:=some 28) (v:=?_) (a':=?_) #[true,true,true,true,true,true,true,true,false,false,false,false,false,false,false,false,false] rfl rfl (any_of HT_.out (by kernel_rfl)) (fun _ _ _ h=>h) (Or.inl ⟨by rfl,?_⟩) ?_ ?_
                 rotate_left
                 ·intro w'
                  go_simp
                  with_reducible rfl
                 rotate_left
                 ·simp only [Act.put,yK,yL,yM,i64_w,i32_w]
                  rfl
                 refine pure_ (i:=8) (N:=some 29) (v:=?_) (a':=?_) #[true,true,true,true,true,true,true,true,true,false,false,false,false,false,false,false,false] rfl rfl (any_of HT_.out (by kernel_rfl)) (fun _ _ _ h=>h) (Or.inl ⟨by rfl,?_⟩) ?_ ?_
                 rotate_left
                 ·intro w'
                  go_simp
                  with_reducible rfl
                 rotate_left
                 ·simp only [Act.put,yK,yL,yM,i64_w,i32_w]
                  rfl
                 refine pure_ (i:=10) (N:=some 31) (v:=?_) (a':=?_) #[true,true,true,true,true,true,true,true,true,false,true,false,false,false,false,false,false] rfl rfl (any_of HT_.out (by kernel_rfl)) (fun _ _ _ h=>h) (Or.inl ⟨by rfl,?_⟩) ?_ ?_
                 rotate_left
                 ·intro w'
                  go_simp
                  with_reducible rfl
                 rotate_left
                 ·simp only [Act.put,yK,yL,yM,i64_w,i32_w]
                  rfl
                 refine pure_ (i:=11) (N:=some 32) (v:=?_) (a':=?_) #[true,true,true,true,true,true,true,true,true,false,true,true,false,false,false,false,false] rfl rfl (any_of HT_.out (by kernel_rfl)) (fun _ _ _ h=>h) (Or.inl ⟨by rfl,?_⟩) ?_ ?_
                 rotate_left
                 ·intro w'
                  go_simp
                  with_reducible rfl
                 rotate_left
                 ·simp only [Act.put,yK,yL,yM,i64_w,i32_w]
                  rfl
                 refine pure_ (i:=12) (N:=some 33) (v:=?_) (a':=?_) #[true,true,true,true,true,true,true,true,true,false,true,true,true,false,false,false,false] rfl rfl (any_of HT_.out (by kernel_rfl)) (fun _ _ _ h=>h) (Or.inl ⟨by rfl,?_⟩) ?_ ?_
                 rotate_left
                 ·intro w'
                  go_simp
                  with_reducible rfl
                 rotate_left
                 ·simp only [Act.put,yK,yL,yM,i64_w,i32_w]
                  rfl
                 refine pure_ (i:=13) (N:=some 34) (v:=?_) (a':=?_) #[true,true,true,true,true,true,true,true,true,false,true,true,true,true,false,false,false] rfl rfl (any_of HT_.out (by kernel_rfl)) (fun _ _ _ h=>h) (Or.inl ⟨by rfl,?_⟩) ?_ ?_
                 rotate_left
                 ·intro w'
                  go_simp
                  with_reducible rfl
                 rotate_left
                 ·simp only [Act.put,yK,yL,yM,i64_w,i32_w]
                  rfl
                 refine take_ (i:=9) (N:=some 30) (v:=?_) (a':=?_) #[true,true,true,true,true,true,true,true,true,true,true,true,true,true,false,false,false] rfl rfl (take_ofW HT_.out HW_.out (by kernel_rfl)) (fun _ _ _ h=>h) (Or.inl ⟨by rfl,?_⟩) hHeld ?_ ?_
                 rotate_left
                 ·rintro w' ⟨s0,s1⟩
                  go_simp
                  with_reducible rfl
                 rotate_left
                 ·simp only [Act.put,yK,yL,yM,i64_w,i32_w]
                  rfl
                 refine take_ (i:=14) (N:=some 35) (v:=?_) (a':=?_) #[true,true,true,true,true,true,true,true,true,true,true,true,true,true,true,false,false] rfl rfl (take_ofW HT_.out HW_.out (by kernel_rfl)) (fun _ _ _ h=>h) (Or.inl ⟨by rfl,?_⟩) hHeld ?_ ?_
                 rotate_left
                 ·rintro w' ⟨s0,s1⟩
                  go_simp
                  with_reducible rfl
                 rotate_left
                 ·simp only [Act.put,yK,yL,yM,i64_w,i32_w]
                  rfl
                 refine pure_ (i:=15) (N:=some 36) (v:=?_) (a':=?_) #[true,true,true,true,true,true,true,true,true,true,true,true,true,true,true,true,false] rfl rfl (any_of HT_.out (by kernel_rfl)) (fun _ _ _ h=>h) (Or.inl ⟨by rfl,?_⟩) ?_ ?_
                 rotate_left
                 ·intro w'
                  go_simp
                  with_reducible rfl
                 rotate_left
                 ·simp only [Act.put,yK,yL,yM,i64_w,i32_w]
                  rfl
                 refine pure_ (i:=16) (N:=some 37) (v:=?_) (a':=?_) #[true,true,true,true,true,true,true,true,true,true,true,true,true,true,true,true,true] rfl rfl (any_of HT_.out (by kernel_rfl)) (fun _ _ _ h=>h) (Or.inl ⟨by rfl,?_⟩) ?_ ?_
                 rotate_left
                 ·intro w'
                  go_simp
                  with_reducible rfl
                 rotate_left
                 ·simp only [Act.put,yK,yL,yM,i64_w,i32_w]
                  rfl
                 refine done_ (done_of HT_.out (by kernel_rfl)) ?_
                 have q31:((ji17):Int)≤((x4_2.length:Int):Int):=of_decide_eq_true (by first|(with_reducible assumption)|assumption)
                 obtain ⟨i031,hi031,_,hsz31,_⟩:=info_parts info4
                 have hcut31:=cut_to (P:=Try.prog) 31 4 .i64 Try.underlying31 hi031 (some ad179) x4_2.length co29 (ji17) (of_decide_eq_true (by first|(with_reducible assumption)|assumption)) q31 (Kd.R_reads' HO_4.out).2.1
                 have hr31:=Kd.R_take (m:=((ji17):Int).toNat) HO_4.out (by omega)
                 have hy31:y181.length=((ji17):Int).toNat:=(by rw [Ny181.out,List.length_take];omega)
                 rw [← Ny181.out] at hr31
                 rw [← hy31] at hr31 hcut31
                 clear hy31 hi031 hsz31 HO_4
                 have HO183:=Aside0.mk hr31
                 clear hr31
                 replace q31:=eq_true q31
                 try go_wp2
                 have n0_:=Aside0.mk (yJ HO183.out)
                 have n1_:=Aside0.mk (yJ HO_5.out)
                 have n2_:=Aside0.mk (yF BK169.out)
                 have n3_:=Aside0.mk (yF BK170.out)
                 have n4_:=Aside0.mk (yC HB.out)
                 clear HO183
                 clear HO_5
                 clear BK169
                 clear BK170
                 clear HB
                 have HO183:=n0_
                 have HO_5:=n1_
                 have BK169:=n2_
                 have BK170:=n3_
                 have HB:=n4_
                 clear n0_ n1_ n2_ n3_ n4_
                 have p184:0≤((ji20):Int):=of_decide_eq_true (by first|(with_reducible assumption)|assumption)
                 have q184:(ji20)<(x5_2.length:Int):=of_decide_eq_true (by first|(with_reducible assumption)|assumption)
                 obtain ⟨ad184,e184,hx184_0⟩:=Kd.at_bool (Kd.R_reads' HO_5.out).2.2 (ji20) p184 q184
                 obtain rfl:ad180=ad184:=(by injection e184)
                 replace p184:=eq_true p184
                 replace q184:=eq_true q184
                 have q33:((ji20):Int)≤((x5_2.length:Int):Int):=of_decide_eq_true (by first|(with_reducible assumption)|assumption)
                 obtain ⟨i033,hi033,_,hsz33,_⟩:=info_parts info4
                 have hroom33:x5_2.length≤co30:=(Kd.R_reads' HO_5.out).2.1
                 have hC33:Kd.C Kd.bool _ (some ad180) x5_2.length x5_2:=(Kd.R_reads' HO_5.out).2.2
                 have hcut33:=cut_to (P:=Try.prog) 31 4 .i64 Try.underlying31 hi033 (some ad180) x5_2.length co30 (ji20) (of_decide_eq_true (by first|(with_reducible assumption)|assumption)) q33 hroom33
                 have hr33:=Kd.C_take (m:=((ji20):Int).toNat) hC33 (by omega)
                 have hy33:y188.length=((ji20):Int).toNat:=(by rw [Ny188.out,List.length_take];omega)
                 rw [← Ny188.out] at hr33
                 rw [← hy33] at hcut33
                 have HR191:=Aside0.mk hr33
                 have HC191:=Aside0.mk (show y188.length≤co30 from by omega)
                 clear hr33 hC33 hroom33 hi033 hsz33
                 have KY33:=Aside0.mk hy33
                 clear hy33
                 have KL33:=Aside0.mk (show ((ji20):Int).toNat≤x5_2.length from by omega)
                 replace q33:=eq_true q33
                 refine start_ (n:=12) (S:=fun w'=>w'.cell? (ad180.add ((ji20)).toNat)=some (.bool (rdOf false x5_2 (ji20)))) (ds:=[10]) #[false,false,false,false,false,false,false,false,false,false,false,false] (by kernel_rfl) rfl rfl (hx184_0) (fun hHeld=>?_);refine with_tabW impl_set_tidy.tab7 impl_set_tidy.bits7 (fun HT_ HW_=>?_)
                 generalize w28.drew=w32 at HO183 HO_5 BK169 BK170 HB HR191 hx184_0 hHeld ⊢
                 refine pure_ (i:=0) (N:=some 43) (v:=?_) (a':=?_) #[true,false,false,false,false,false,false,false,false,false,false,false] rfl rfl (any_of HT_.out (by kernel_rfl)) (fun _ _ _ h=>h) (Or.inl ⟨by rfl,?_⟩) ?_ ?_
                 rotate_left
                 ·intro w'
                  go_simp
                  with_reducible rfl
                 rotate_left
                 ·simp only [Act.put,yK,yL,yM,i64_w,i32_w]
                  rfl
                 refine pure_ (i:=1) (N:=some 44) (v:=?_) (a':=?_) #[true,true,false,false,false,false,false,false,false,false,false,false] rfl rfl (any_of HT_.out (by kernel_rfl)) (fun _ _ _ h=>h) (Or.inl ⟨by rfl,?_⟩) ?_ ?_
                 rotate_left
                 ·intro w'
                  go_simp
                  with_reducible rfl
                 rotate_left
                 ·simp only [Act.put,yK,yL,yM,i64_w,i32_w]
                  rfl
                 refine pure_ (i:=2) (N:=some 45) (v:=?_) (a':=?_) #[true,true,true,false,false,false,false,false,false,false,false,false] rfl rfl (any_of HT_.out (by kernel_rfl)) (fun _ _ _ h=>h) (Or.inl ⟨by rfl,?_⟩) ?_ ?_
                 rotate_left
                 ·intro w'
                  go_simp
                  with_reducible rfl
                 rotate_left
                 ·simp only [Act.put,yK,yL,yM,i64_w,i32_w]
                  rfl
                 refine pure_ (i:=3) (N:=some 46) (v:=?_) (a':=?_) #[true,true,true,true,false,false,false,false,false,false,false,false] rfl rfl (any_of HT_.out (by kernel_rfl)) (fun _ _ _ h=>h) (Or.inl ⟨by rfl,?_⟩) ?_ ?_
                 rotate_left
                 ·intro w'
                  go_simp
                  with_reducible rfl
                 rotate_left
                 ·simp only [Act.put,yK,yL,yM,i64_w,i32_w]
                  rfl
                 refine pure_ (i:=6) (N:=some 49) (v:=?_) (a':=?_) #[true,true,true,true,false,false,true,false,false,false,false,false] rfl rfl (any_of HT_.out (by kernel_rfl)) (fun _ _ _ h=>h) (Or.inl ⟨by rfl,?_⟩) ?_ ?_
                 rotate_left
                 ·intro w'
                  go_simp
                  with_reducible rfl
                 rotate_left
                 ·simp only [Act.put,yK,yL,yM,i64_w,i32_w]
                  rfl
                 refine pure_ (i:=7) (N:=some 50) (v:=?_) (a':=?_) #[true,true,true,true,false,false,true,true,false,false,false,false] rfl rfl (any_of HT_.out (by kernel_rfl)) (fun _ _ _ h=>h) (Or.inl ⟨by rfl,?_⟩) ?_ ?_
                 rotate_left
                 ·intro w'
                  go_simp
                  with_reducible rfl
                 rotate_left
                 ·simp only [Act.put,yK,yL,yM,i64_w,i32_w]
                  rfl
                 refine pure_ (i:=8) (N:=some 51) (v:=?_) (a':=?_) #[true,true,true,true,false,false,true,true,true,false,false,false] rfl rfl (any_of HT_.out (by kernel_rfl)) (fun _ _ _ h=>h) (Or.inl ⟨by rfl,?_⟩) ?_ ?_
                 rotate_left
                 ·intro w'
                  go_simp
                  with_reducible rfl
                 rotate_left
                 ·simp only [Act.put,yK,yL,yM,i64_w,i32_w]
                  rfl
                 refine pure_ (i:=9) (N:=some 52) (v:=?_) (a':=?_) #[true,true,true,true,false,false,true,true,true,true,false,false] rfl rfl (any_of HT_.out (by kernel_rfl)) (fun _ _ _ h=>h) (Or.inl ⟨by rfl,?_⟩) ?_ ?_
                 rotate_left
                 ·intro w'
                  go_simp
                  with_reducible rfl
                 rotate_left
                 ·simp only [Act.put,yK,yL,yM,i64_w,i32_w]
                  rfl
                 refine take_ (i:=4) (N:=some 47) (v:=?_) (a':=?_) #[true,true,true,true,true,false,true,true,true,true,false,false] rfl rfl (take_ofW HT_.out HW_.out (by kernel_rfl)) (fun _ _ _ h=>h) (Or.inl ⟨by rfl,?_⟩) hHeld ?_ ?_
                 rotate_left
                 ·intro w' s0
                  go_simp
                  with_reducible rfl
                 rotate_left
                 ·simp only [Act.put,yK,yL,yM,i64_w,i32_w]
                  rfl
                 refine one_ (i:=5) (N:=some 48) #[true,true,true,true,true,true,true,true,true,true,false,false] rfl rfl (one_of HT_.out (by kernel_rfl)) (by decide) (fun K hK=>?_)
                 refine Kd.R_lit_step Kd.bool _ 4 ?hg (N:=48) ?hd (xs:=([rdOf false x5_2 (ji20)]:List Bool)) (inner:=[.bool (rdOf false x5_2 (ji20))]) (ok:=fun _=>True) (okp:=fun _=>True) ?hr ?hp (fun _ hk=>hk) trivial (Below.refl _ _) (Nat.le_refl _) (by simp) ?_;(case hd=>rfl);(case hg=>rfl);(case hr=>first|(go_simp;done)|(go_simp;rfl));(case hp=>exact (Reps.one (show Kd.M Kd.bool _ _ _ (rdOf false x5_2 (ji20)) [.bool (rdOf false x5_2 (ji20))] from rfl) (Reps.none _ _)))
                 intro v186 w34 ho35 hb hg_ hnew_
                 have HS0_:=(hb.cell (World.block_lt_of_cell? _ _ (hHeld))).trans (hHeld)
                 clear hg_ hnew_
                 (first|rw [← Ny185.out] at ho35|(simp only [Int.reduceToNat] at ho35;rw [← Ny185.out] at ho35))
                 have n0_:=Aside0.mk (Kd.R_elder' (by (with_reducible repeat (first|apply yH|apply yI|apply yJ));exact HO183.out) (Kd.R_base ho35) hb)
                 have n1_:=Aside0.mk (Kd.R_elder' (by (with_reducible repeat (first|apply yH|apply yI|apply yJ));exact HO_5.out) (Kd.R_base ho35) hb)
                 have n2_:=Aside0.mk (Kd.R_lower (Kd.R_new' (Kd.R_new' ho35 (Kd.R_lt (by (with_reducible repeat (first|apply yH|apply yI|apply yJ));exact HO183.out))) (Kd.R_lt (by (with_reducible repeat (first|apply yH|apply yI|apply yJ));exact HO_5.out))) (yQ (by repeat (first|(with_reducible first|exact HB.out|apply yA|apply yB|apply yC|refine yD ?_ GE169.out|refine yD ?_ GE170.out)|exact HB.out))))
                 have n3_:=Aside0.mk (blk_below (g:=gb169) (o:=.cells #[.slice A0_0 l0_0.length c0_0,.slice A0_1 l0_1.length c0_1] 33 (0,0)) (by (with_reducible repeat (first|refine yE ?_ _|refine yF ?_|refine yG ?_ _));exact BK169.out) hb)
                 have n4_:=Aside0.mk (blk_below (g:=gb170) (o:=.cells #[.slice none 0 0,.slice none 0 0] 33 (0,0)) (by (with_reducible repeat (first|refine yE ?_ _|refine yF ?_|refine yG ?_ _));exact BK170.out) hb)
                 have n5_:=Aside0.mk (Kd.C_below (by repeat (first|(with_reducible exact HR191.out)|(with_reducible refine Kd.C_alloc ?_ _)|(with_reducible refine Kd.C_drewN ?_ _)|(with_reducible refine Kd.C_drew ?_)|exact HR191.out)) hb)
                 have n6_:=Aside0.mk (yP (by repeat (first|(with_reducible first|exact HB.out|apply yA|apply yB|apply yC|refine yD ?_ GE169.out|refine yD ?_ GE170.out)|exact HB.out)) hb)
                 clear HO183
                 clear HO_5
                 clear BK169
                 clear BK170
                 clear HR191
                 clear HB
                 have HO183:=n0_
                 have HO_5:=n1_
                 have HO187:=n2_
                 have BK169:=n3_
                 have BK170:=n4_
                 have HR191:=n5_
                 have HB:=n6_
                 clear n0_ n1_ n2_ n3_ n4_ n5_ n6_
                 clear hb ho35
                 refine hK.out _ _ (HS0_) (fun hHeld=>?_)
                 clear hK K
                 refine norm_ (a':=?_) ?_ ?_
                 rotate_left
                 ·show Act.put _ (some 48) _=_
                  simp only [Act.put,yK,yL,yM,i64_w,i32_w]
                  rfl
                 refine last_ (i:=10) (N:=some 53) #[true,true,true,true,true,true,true,true,true,true,true,false] rfl rfl (one_of HT_.out (by kernel_rfl)) (by decide) (fun K hK=>?_)
                 refine Kd.R_append_rows_step Kd.bool (w0:=w) w.heap.size (by rfl) (.tmp 48) (.tmp 52) 31 4 (.bool false) 1 rfl Try.underlying31 info4 rfl (by decide) (by omega) v186 y185 y188 _ _ _ (fun k_=>some k_≠(.slice (some ad179) y181.length co29:Value).ownBlock∧some k_≠(.slice (some ad180) x5_2.length co30:Value).ownBlock) (fun _=>False) rfl rfl ?aO ?aR (fun _ _ h=>h) (fun _ h=>h.elim) ?aF ?aB ?aS ?aL ?_
                 (case aR=>repeat (first|exact (by repeat (first|(with_reducible exact HR191.out)|(with_reducible refine Kd.C_alloc ?_ _)|(with_reducible refine Kd.C_drewN ?_ _)|(with_reducible refine Kd.C_drew ?_)|exact HR191.out))|(with_reducible refine Kd.C_alloc ?_ _)|(with_reducible refine Kd.C_drewN ?_ _)|(with_reducible refine Kd.C_drew ?_)))
                 (case aB=>exact (by repeat (first|(with_reducible first|exact HB.out|apply yA|apply yB|apply yC|refine yD ?_ GE169.out|refine yD ?_ GE170.out)|exact HB.out)))
                 (case aF=>exact (fun k_ hk=>⟨Kd.fresh' (Kd.R_lt (by (with_reducible repeat (first|apply yH|apply yI|apply yJ));exact HO183.out)) k_ hk,Kd.fresh' (Kd.R_lt (by (with_reducible repeat (first|apply yH|apply yI|apply yJ));exact HO_5.out)) k_ hk⟩))
                 (case aO=>exact (by (with_reducible repeat (first|apply yH|apply yI|apply yJ));exact Kd.R_mono HO187.out (fun _ hk=>⟨hk.1.2,hk.2⟩)))
                 (case aS=>exact (yQ (by repeat (first|(with_reducible first|exact HB.out|apply yA|apply yB|apply yC|refine yD ?_ GE169.out|refine yD ?_ GE170.out)|exact HB.out))))
                 (case aL=>have:=LMc27.out;omega)
                 intro v193 w36 ho hb hg hat
                 rw [← Ny192.out] at ho
                 have n0_:=Aside0.mk (Kd.R_after (ok:=(fun k_=>some k_≠(.slice (some ad180) x5_2.length co30:Value).ownBlock)) (by (with_reducible repeat (first|apply yH|apply yI|apply yJ));exact HO183.out) hg hat)
                 have n1_:=Aside0.mk (Kd.R_after (ok:=(fun k_=>some k_≠(.slice (some ad179) y181.length co29:Value).ownBlock)) (by (with_reducible repeat (first|apply yH|apply yI|apply yJ));exact HO_5.out) hg hat)
                 have n2_:=Aside0.mk (blk_grown (g:=gb169) (o:=.cells #[.slice A0_0 l0_0.length c0_0,.slice A0_1 l0_1.length c0_1] 33 (0,0)) (by (with_reducible repeat (first|refine yE ?_ _|refine yF ?_|refine yG ?_ _));exact BK169.out) hg (Kd.R_ne HO187.out BK169.out (by decide)))
                 have n3_:=Aside0.mk (blk_grown (g:=gb170) (o:=.cells #[.slice none 0 0,.slice none 0 0] 33 (0,0)) (by (with_reducible repeat (first|refine yE ?_ _|refine yF ?_|refine yG ?_ _));exact BK170.out) hg (Kd.R_ne HO187.out BK170.out (by decide)))
                 have n4_:=Aside0.mk (hb)
                 have n5_:=Aside0.mk ((show Kd.C Kd.bool w36 (some ad180) y188.length y188 from by rw [Ny188.out];exact Kd.C_take (m:=((ji20):Int).toNat) ((Kd.R_reads' (Kd.R_after (ok:=(fun k_=>some k_≠(.slice (some ad179) y181.length co29:Value).ownBlock)) (by (with_reducible repeat (first|apply yH|apply yI|apply yJ));exact HO_5.out) hg hat)).2.2) KL33.out))
                 have n6_:=Aside0.mk (ho)
                 clear HO183
                 clear HO_5
                 clear BK169
                 clear BK170
                 clear HB
                 clear HR191
                 clear HO187
                 have HO183:=n0_
                 have HO_5:=n1_
                 have BK169:=n2_
                 have BK170:=n3_
                 have HB:=n4_
                 have HR191:=n5_
                 have HO194:=n6_
                 clear n0_ n1_ n2_ n3_ n4_ n5_ n6_
                 clear ho hb hg hat
                 refine hK.out _ _ ?_
                 clear hK K
                 refine norm_ (a':=?_) ?_ ?_
                 rotate_left
                 ·show Act.put _ (some 53) _=_
                  simp only [Act.put,yK,yL,yM,i64_w,i32_w]
                  rfl
                 refine pure_ (i:=11) (N:=some 5) (v:=?_) (a':=?_) #[true,true,true,true,true,true,true,true,true,true,true,true] rfl rfl (any_of HT_.out (by kernel_rfl)) (fun _ _ _ h=>h) (Or.inl ⟨by rfl,?_⟩) ?_ ?_
                 rotate_left
                 ·intro w'
                  go_simp
                  with_reducible rfl
                 rotate_left
                 ·simp only [Act.put,yK,yL,yM,i64_w,i32_w]
                  rfl
                 refine done_ (done_of HT_.out (by kernel_rfl)) ?_
                 try go_wp2
                 go_roundg k2
                 case measure=>have:=HK1.out;have:=HK2.out;omega
                 case rel=>exact ⟨(y181),(y192),H',⟨by have:=HK1.out;have:=HK2.out;omega⟩,⟨by (with_reducible repeat (first|apply yH|apply yI|apply yJ));exact Kd.R_mono HO183.out (fun _ hk=>hk.2)⟩,⟨by (with_reducible repeat (first|apply yH|apply yI|apply yJ));exact Kd.R_mono HO194.out (fun _ hk=>hk.1)⟩,⟨by (with_reducible repeat (first|refine yE ?_ _|refine yF ?_|refine yG ?_ _));exact BK169.out⟩,⟨by (with_reducible repeat (first|refine yE ?_ _|refine yF ?_|refine yG ?_ _));exact BK170.out⟩,⟨by repeat (first|(with_reducible first|exact HB.out|apply yA|apply yB|apply yC|refine yD ?_ GE169.out|refine yD ?_ GE170.out)|exact HB.out)⟩⟩
                ·rw [if_neg c27] at H
                 exact absurd H (by simp)
               ·rw [if_neg c26] at H
                exact absurd H (by simp)
              ·rw [if_neg c24] at H
               exact absurd H (by simp)
             ·rw [if_neg c23] at H
              have c23b0:((rdOf false x4_2 (ji17)) == (rdOf false x5_2 (ji20)))=false:=by simpa using c23
              (try (have c23b1:decide ((rdOf false x4_2 (ji17))=(rdOf false x5_2 (ji20)))=false:=by simpa using c23))
              (try (have c23b2:((rdOf false x4_2 (ji17)) == (rdOf false x5_2 (ji20)))=false:=by simpa using c23))
              (try (have c23b3:¬ ((rdOf false x4_2 (ji17))=(rdOf false x5_2 (ji20))):=by simpa using c23))
              clear c23
              simp only [Option.some.injEq,Prod.mk.injEq] at H
              obtain ⟨rfl,rfl⟩:=H
              try go_wp2
              have n0_:=Aside0.mk (yJ HO_4.out)
              have n1_:=Aside0.mk (yJ HO_5.out)
              have n2_:=Aside0.mk (yF BK169.out)
              have n3_:=Aside0.mk (yF BK170.out)
              have n4_:=Aside0.mk (yC HB.out)
              clear HO_4
              clear HO_5
              clear BK169
              clear BK170
              clear HB
              have HO_4:=n0_
              have HO_5:=n1_
              have BK169:=n2_
              have BK170:=n3_
              have HB:=n4_
              clear n0_ n1_ n2_ n3_ n4_
              obtain ⟨Ao38,co38,eo38⟩:=Kd.R_slice HO_4.out
              (first|subst eo38|(injection eo38 with f1_ f2_ f3_;have f4_:=f1_.symm;have f5_:=f3_.symm;clear f1_ f2_ f3_;subst f4_;subst f5_))
              have p179:0≤((ji17):Int):=of_decide_eq_true (by first|(with_reducible assumption)|assumption)
              have q179:(ji17)<(x4_2.length:Int):=of_decide_eq_true (by first|(with_reducible assumption)|assumption)
              obtain ⟨ad179,e179,hx179_0⟩:=Kd.at_bool (Kd.R_reads' HO_4.out).2.2 (ji17) p179 q179
              cases e179
              replace p179:=eq_true p179
              replace q179:=eq_true q179
              obtain ⟨Ao39,co39,eo39⟩:=Kd.R_slice HO_5.out
              (first|subst eo39|(injection eo39 with f1_ f2_ f3_;have f4_:=f1_.symm;have f5_:=f3_.symm;clear f1_ f2_ f3_;subst f4_;subst f5_))
              have p180:0≤((ji20):Int):=of_decide_eq_true (by first|(with_reducible assumption)|assumption)
              have q180:(ji20)<(x5_2.length:Int):=of_decide_eq_true (by first|(with_reducible assumption)|assumption)
              obtain ⟨ad180,e180,hx180_0⟩:=Kd.at_bool (Kd.R_reads' HO_5.out).2.2 (ji20) p180 q180
              cases e180
              replace p180:=eq_true p180
              replace q180:=eq_true q180
              refine start_ (n:=17) (S:=fun w'=>w'.cell? (ad179.add ((ji17)).toNat)=some (.bool (rdOf false x4_2 (ji17)))∧w'.cell? (ad180.add ((ji20)).toNat)=some (.bool (rdOf false x5_2 (ji20)))) (ds:=[]) #[false,false,false,false,false,false,false,false,false,false,false,false,false,false,false,false,false] (by kernel_rfl) rfl rfl ⟨hx179_0,hx180_0⟩ (fun hHeld=>?_);refine with_tabW impl_set_tidy.tab5 impl_set_tidy.bits5 (fun HT_ HW_=>?_)
              generalize wr.drew=w37 at HO_4 HO_5 BK169 BK170 HB hx179_0 hx180_0 hHeld ⊢
              refine pure_ (i:=0) (N:=some 21) (v:=?_) (a':=?_) #[true,false,false,false,false,false,false,false,false,false,false,false,false,false,false,false,false] rfl rfl (any_of HT_.out (by kernel_rfl)) (fun _ _ _ h=>h) (Or.inl ⟨by rfl,?_⟩) ?_ ?_
              rotate_left
              ·intro w'
               go_simp
               with_reducible rfl
              rotate_left
              ·simp only [Act.put,yK,yL,yM,i64_w,i32_w]
               rfl
              refine pure_ (i:=1) (N:=some 22) (v:=?_) (a':=?_) #[true,true,false,false,false,false,false,false,false,false,false,false,false,false,false,false,false] rfl rfl (any_of HT_.out (by kernel_rfl)) (fun _ _ _ h=>h) (Or.inl ⟨by rfl,?_⟩) ?_ ?_
              rotate_left
              ·intro w'
               go_simp
               with_reducible rfl
              rotate_left
              ·simp only [Act.put,yK,yL,yM,i64_w,i32_w]
               rfl
              refine pure_ (i:=2) (N:=some 23) (v:=?_) (a':=?_) #[true,true,true,false,false,false,false,false,false,false,false,false,false,false,false,false,false] rfl rfl (any_of HT_.out (by kernel_rfl)) (fun _ _ _ h=>h) (Or.inl ⟨by rfl,?_⟩) ?_ ?_
              rotate_left
              ·intro w'
               go_simp
               with_reducible rfl
              rotate_left
              ·simp only [Act.put,yK,yL,yM,i64_w,i32_w]
               rfl
              refine pure_ (i:=3) (N:=some 24) (v:=?_) (a':=?_) #[true,true,true,true,false,false,false,false,false,false,false,false,false,false,false,false,false] rfl rfl (any_of HT_.out (by kernel_rfl)) (fun _ _ _ h=>h) (Or.inl ⟨by rfl,?_⟩) ?_ ?_
              rotate_left
              ·intro w'
               go_simp
               with_reducible rfl
              rotate_left
              ·simp only [Act.put,yK,yL,yM,i64_w,i32_w]
               rfl
              refine pure_ (i:=4) (N:=some 25) (v:=?_) (a':=?_) #[true,true,true,true,true,false,false,false,false,false,false,false,false,false,false,false,false] rfl rfl (any_of HT_.out (by kernel_rfl)) (fun _ _ _ h=>h) (Or.inl ⟨by rfl,?_⟩) ?_ ?_
              rotate_left
              ·intro w'
               go_simp
               with_reducible rfl
              rotate_left
              ·simp only [Act.put,yK,yL,yM,i64_w,i32_w]
               rfl
              refine pure_ (i:=5) (N:=some 26) (v:=?_) (a':=?_) #[true,true,true,true,true,true,false,false,false,false,false,false,false,false,false,false,false] rfl rfl (any_of HT_.out (by kernel_rfl)) (fun _ _ _ h=>h) (Or.inl ⟨by rfl,?_⟩) ?_ ?_
              rotate_left
              ·intro w'
               go_simp
               with_reducible rfl
              rotate_left
              ·simp only [Act.put,yK,yL,yM,i64_w,i32_w]
               rfl
              refine pure_ (i:=6) (N:=some 27) (v:=?_) (a':=?_) #[true,true,true,true,true,true,true,false,false,false,false,false,false,false,false,false,false] rfl rfl (any_of HT_.out (by kernel_rfl)) (fun _ _ _ h=>h) (Or.inl ⟨by rfl,?_⟩) ?_ ?_
              rotate_left
              ·intro w'
               go_simp
               with_reducible rfl
              rotate_left
              ·simp only [Act.put,yK,yL,yM,i64_w,i32_w]
               rfl
              refine pure_ (i:=7) (N:=some 28) (v:=?_) (a':=?_) #[true,true,true,true,true,true,true,true,false,false,false,false,false,false,false,false,false] rfl rfl (any_of HT_.out (by kernel_rfl)) (fun _ _ _ h=>h) (Or.inl ⟨by rfl,?_⟩) ?_ ?_
              rotate_left
              ·intro w'
               go_simp
               with_reducible rfl
              rotate_left
              ·simp only [Act.put,yK,yL,yM,i64_w,i32_w]
               rfl
              refine pure_ (i:=8) (N:=some 29) (v:=?_) (a':=?_) #[true,true,true,true,true,true,true,true,true,false,false,false,false,false,false,false,false] rfl rfl (any_of HT_.out (by kernel_rfl)) (fun _ _ _ h=>h) (Or.inl ⟨by rfl,?_⟩) ?_ ?_
              rotate_left
              ·intro w'
               go_simp
               with_reducible rfl
              rotate_left
              ·simp only [Act.put,yK,yL,yM,i64_w,i32_w]
               rfl
              refine pure_ (i:=10) (N:=some 31) (v:=?_) (a':=?_) #[true,true,true,true,true,true,true,true,true,false,true,false,false,false,false,false,false] rfl rfl (any_of HT_.out (by kernel_rfl)) (fun _ _ _ h=>h) (Or.inl ⟨by rfl,?_⟩) ?_ ?_
              rotate_left
              ·intro w'
               go_simp
               with_reducible rfl
              rotate_left
              ·simp only [Act.put,yK,yL,yM,i64_w,i32_w]
               rfl
              refine pure_ (i:=11) (N:=some 32) (v:=?_) (a':=?_) #[true,true,true,true,true,true,true,true,true,false,true,true,false,false,false,false,false] rfl rfl (any_of HT_.out (by kernel_rfl)) (fun _ _ _ h=>h) (Or.inl ⟨by rfl,?_⟩) ?_ ?_
              rotate_left
              ·intro w'
               go_simp
               with_reducible rfl
              rotate_left
              ·simp only [Act.put,yK,yL,yM,i64_w,i32_w]
               rfl
              refine pure_ (i:=12) (N:=some 33) (v:=?_) (a':=?_) #[true,true,true,true,true,true,true,true,true,false,true,true,true,false,false,false,false] rfl rfl (any_of HT_.out (by kernel_rfl)) (fun _ _ _ h=>h) (Or.inl ⟨by rfl,?_⟩) ?_ ?_
              rotate_left
              ·intro w'
               go_simp
               with_reducible rfl
              rotate_left
              ·simp only [Act.put,yK,yL,yM,i64_w,i32_w]
               rfl
              refine pure_ (i:=13) (N:=some 34) (v:=?_) (a':=?_) #[true,true,true,true,true,true,true,true,true,false,true,true,true,true,false,false,false] rfl rfl (any_of HT_.out (by kernel_rfl)) (fun _ _ _ h=>h) (Or.inl ⟨by rfl,?_⟩) ?_ ?_
              rotate_left
              ·intro w'
               go_simp
               with_reducible rfl
              rotate_left
              ·simp only [Act.put,yK,yL,yM,i64_w,i32_w]
               rfl
              refine take_ (i:=9) (N:=some 30) (v:=?_) (a':=?_) #[true,true,true,true,true,true,true,true,true,true,true,true,true,true,false,false,false] rfl rfl (take_ofW HT_.out HW_.out (by kernel_rfl)) (fun _ _ _ h=>h) (Or.inl ⟨by rfl,?_⟩) hHeld ?_ ?_
              rotate_left
              ·rintro w' ⟨s0,s1⟩
               go_simp
               with_reducible rfl
              rotate_left
              ·simp only [Act.put,yK,yL,yM,i64_w,i32_w]
               rfl
              refine take_ (i:=14) (N:=some 35) (v:=?_) (a':=?_) #[true,true,true,true,true,true,true,true,true,true,true,true,true,true,true,false,false] rfl rfl (take_ofW HT_.out HW_.out (by kernel_rfl)) (fun _ _ _ h=>h) (Or.inl ⟨by rfl,?_⟩) hHeld ?_ ?_
              rotate_left
              ·rintro w' ⟨s0,s1⟩
               go_simp
               with_reducible rfl
              rotate_left
              ·simp only [Act.put,yK,yL,yM,i64_w,i32_w]
               rfl
              refine pure_ (i:=15) (N:=some 36) (v:=?_) (a':=?_) #[true,true,true,true,true,true,true,true,true,true,true,true,true,true,true,true,false] rfl rfl (any_of HT_.out (by kernel_rfl)) (fun _ _ _ h=>h) (Or.inl ⟨by rfl,?_⟩) ?_ ?_
              rotate_left
              ·intro w'
               go_simp
               with_reducible rfl
              rotate_left
              ·simp only [Act.put,yK,yL,yM,i64_w,i32_w]
               rfl
              refine pure_ (i:=16) (N:=some 37) (v:=?_) (a':=?_) #[true,true,true,true,true,true,true,true,true,true,true,true,true,true,true,true,true] rfl rfl (any_of HT_.out (by kernel_rfl)) (fun _ _ _ h=>h) (Or.inl ⟨by rfl,?_⟩) ?_ ?_
              rotate_left
              ·intro w'
               go_simp
               with_reducible rfl
              rotate_left
              ·simp only [Act.put,yK,yL,yM,i64_w,i32_w]
               rfl
              refine done_ (done_of HT_.out (by kernel_rfl)) ?_
              have hnb40:=NB170_169.out
              have hnc40:=NB169_170.out
              have hcz41_0:w37.cell? ⟨gb170,0,none⟩=some (.slice none 0 0):=(blk_cell BK170.out 0).trans rfl
              have hcz41_1:w37.cell? ⟨gb170,1,none⟩=some (.slice none 0 0):=(blk_cell BK170.out 1).trans rfl
              have hfz41_0:=blk_frozen BK170.out 0
              have hfz41_1:=blk_frozen BK170.out 1
              try go_wp2
              refine bodyPost_ret (results_cell_row rfl _ _ gb170 33 #[.slice (some ad179) x4_2.length co38,.slice (some ad180) x5_2.length co39] (0,0) _ rfl (by (with_reducible repeat (first|refine yE ?_ _|refine yF ?_|refine yG ?_ _));refine blk_put (cs:=#[.slice (some ad179) x4_2.length co38,.slice none 0 0]) ?_ 1 _ rfl;(with_reducible repeat (first|refine yE ?_ _|refine yF ?_|refine yG ?_ _));refine blk_put (cs:=#[.slice none 0 0,.slice none 0 0]) ?_ 0 _ rfl;(with_reducible repeat (first|refine yE ?_ _|refine yF ?_|refine yG ?_ _));exact BK170.out) Try.underlying33 rfl (by kernel_rfl)) rfl ?_
              exact ⟨_,_,by first|rfl|(simp [errW_none,errW_some]<;>rfl)|(simp only [← hji17,← hji20];first|rfl|(simp [errW_none,errW_some]<;>rfl))|(simp [*,errW_none,errW_some]<;>rfl),by (with_reducible repeat (first|apply yH|apply yI|apply yJ));exact Kd.R_mono (Kd.R_far (p:=⟨gb170,1,none⟩) (Kd.R_far (p:=⟨gb170,0,none⟩) (Kd.R_types HO_4.out BK170.out (by decide)) (fun _ hk=>hk.2) (.slice (some ad179) x4_2.length co38)) (fun _ hk=>hk.2) (.slice (some ad180) x5_2.length co39)) (fun _ hk=>hk.1),by (with_reducible repeat (first|apply yH|apply yI|apply yJ));exact Kd.R_mono (Kd.R_far (p:=⟨gb170,1,none⟩) (Kd.R_far (p:=⟨gb170,0,none⟩) (Kd.R_types HO_5.out BK170.out (by decide)) (fun _ hk=>hk.2) (.slice (some ad179) x4_2.length co38)) (fun _ hk=>hk.2) (.slice (some ad180) x5_2.length co39)) (fun _ hk=>hk.1),by repeat (first|(with_reducible first|exact HB.out|apply yA|apply yB|apply yC|refine yD ?_ GE169.out|refine yD ?_ GE170.out)|exact HB.out)⟩
            ·rw [if_neg c22] at H
             exact absurd H (by simp)
           ·rw [if_neg c21] at H
            exact absurd H (by simp)
          ·rw [if_neg c19] at H
           exact absurd H (by simp)
         ·rw [if_neg c18] at H
          exact absurd H (by simp)
        ·rw [if_neg c16] at H
         have c16b0:decide (0<(x4_2.length:Int))=false:=decide_eq_false c16
         have c16b1:decide (0<x4_2.length)=false:=decide_eq_false (by omega)
         clear c16
         simp only [Option.some.injEq,Prod.mk.injEq] at H
         obtain ⟨rfl,rfl⟩:=H
         try go_wp2
         have n0_:=Aside0.mk (yJ HO_4.out)
         have n1_:=Aside0.mk (yJ HO_5.out)
         have n2_:=Aside0.mk (yF BK169.out)
         have n3_:=Aside0.mk (yF BK170.out)
         have n4_:=Aside0.mk (yC HB.out)
         clear HO_4
         clear HO_5
         clear BK169
         clear BK170
         clear HB
         have HO_4:=n0_
         have HO_5:=n1_
         have BK169:=n2_
         have BK170:=n3_
         have HB:=n4_
         clear n0_ n1_ n2_ n3_ n4_
         obtain ⟨Ao43,co43,eo43⟩:=Kd.R_slice HO_4.out
         (first|subst eo43|(injection eo43 with f1_ f2_ f3_;have f4_:=f1_.symm;have f5_:=f3_.symm;clear f1_ f2_ f3_;subst f4_;subst f5_))
         refine start_ (n:=17) (S:=fun w'=>True) (ds:=[]) #[false,false,false,false,false,false,false,false,false,false,false,false,false,false,false,false,false] (by kernel_rfl) rfl rfl trivial (fun hHeld=>?_);refine with_tabW impl_set_tidy.tab5 impl_set_tidy.bits5 (fun HT_ HW_=>?_)
         generalize wr.drew=w42 at HO_4 HO_5 BK169 BK170 HB hHeld ⊢
         refine pure_ (i:=0) (N:=some 21) (v:=?_) (a':=?_) #[true,false,false,false,false,false,false,false,false,false,false,false,false,false,false,false,false] rfl rfl (any_of HT_.out (by kernel_rfl)) (fun _ _ _ h=>h) (Or.inl ⟨by rfl,?_⟩) ?_ ?_
         rotate_left
         ·intro w'
          go_simp
          with_reducible rfl
         rotate_left
         ·simp only [Act.put,yK,yL,yM,i64_w,i32_w]
          rfl
         refine pure_ (i:=1) (N:=some 22) (v:=?_) (a':=?_) #[true,true,false,false,false,false,false,false,false,false,false,false,false,false,false,false,false] rfl rfl (any_of HT_.out (by kernel_rfl)) (fun _ _ _ h=>h) (Or.inl ⟨by rfl,?_⟩) ?_ ?_
         rotate_left
         ·intro w'
          go_simp
          with_reducible rfl
         rotate_left
         ·simp only [Act.put,yK,yL,yM,i64_w,i32_w]
          rfl
         refine pure_ (i:=2) (N:=some 23) (v:=?_) (a':=?_) #[true,true,true,false,false,false,false,false,false,false,false,false,false,false,false,false,false] rfl rfl (any_of HT_.out (by kernel_rfl)) (fun _ _ _ h=>h) (Or.inl ⟨by rfl,?_⟩) ?_ ?_
         rotate_left
         ·intro w'
          go_simp
          with_reducible rfl
         rotate_left
         ·simp only [Act.put,yK,yL,yM,i64_w,i32_w]
          rfl
         refine pure_ (i:=3) (N:=some 24) (v:=?_) (a':=?_) #[true,true,true,true,false,false,false,false,false,false,false,false,false,false,false,false,false] rfl rfl (any_of HT_.out (by kernel_rfl)) (fun _ _ _ h=>h) (Or.inl ⟨by rfl,?_⟩) ?_ ?_
         rotate_left
         ·intro w'
          go_simp
          with_reducible rfl
         rotate_left
         ·simp only [Act.put,yK,yL,yM,i64_w,i32_w]
          rfl
         refine pure_ (i:=4) (N:=some 25) (v:=undef) (a':=?_) #[true,true,true,true,true,false,false,false,false,false,false,false,false,false,false,false,false] rfl rfl (any_of HT_.out (by kernel_rfl)) (fun _ _ _ h=>h) (Or.inr ⟨by rfl,rfl⟩) ?_ ?_
         rotate_left
         ·simp only [Act.put,yK,yL,yM,i64_w,i32_w]
          rfl
         refine pure_ (i:=5) (N:=some 26) (v:=undef) (a':=?_) #[true,true,true,true,true,true,false,false,false,false,false,false,false,false,false,false,false] rfl rfl (any_of HT_.out (by kernel_rfl)) (fun _ _ _ h=>h) (Or.inr ⟨by rfl,rfl⟩) ?_ ?_
         rotate_left
         ·simp only [Act.put,yK,yL,yM,i64_w,i32_w]
          rfl
         refine pure_ (i:=6) (N:=some 27) (v:=undef) (a':=?_) #[true,true,true,true,true,true,true,false,false,false,false,false,false,false,false,false,false] rfl rfl (any_of HT_.out (by kernel_rfl)) (fun _ _ _ h=>h) (Or.inr ⟨by rfl,rfl⟩) ?_ ?_
         rotate_left
         ·simp only [Act.put,yK,yL,yM,i64_w,i32_w]
          rfl
         refine pure_ (i:=7) (N:=some 28) (v:=undef) (a':=?_) #[true,true,true,true,true,true,true,true,false,false,false,false,false,false,false,false,false] rfl rfl (any_of HT_.out (by kernel_rfl)) (fun _ _ _ h=>h) (Or.inr ⟨by rfl,rfl⟩) ?_ ?_
         rotate_left
         ·simp only [Act.put,yK,yL,yM,i64_w,i32_w]
          rfl
         refine pure_ (i:=8) (N:=some 29) (v:=undef) (a':=?_) #[true,true,true,true,true,true,true,true,true,false,false,false,false,false,false,false,false] rfl rfl (any_of HT_.out (by kernel_rfl)) (fun _ _ _ h=>h) (Or.inr ⟨by rfl,rfl⟩) ?_ ?_
         rotate_left
         ·simp only [Act.put,yK,yL,yM,i64_w,i32_w]
          rfl
         refine pure_ (i:=9) (N:=some 30) (v:=undef) (a':=?_) #[true,true,true,true,true,true,true,true,true,true,false,false,false,false,false,false,false] rfl rfl (any_of HT_.out (by kernel_rfl)) (fun _ _ _ h=>h) (Or.inr ⟨by rfl,rfl⟩) ?_ ?_
         rotate_left
         ·simp only [Act.put,yK,yL,yM,i64_w,i32_w]
          rfl
         refine pure_ (i:=10) (N:=some 31) (v:=undef) (a':=?_) #[true,true,true,true,true,true,true,true,true,true,true,false,false,false,false,false,false] rfl rfl (any_of HT_.out (by kernel_rfl)) (fun _ _ _ h=>h) (Or.inr ⟨by rfl,rfl⟩) ?_ ?_
         rotate_left
         ·simp only [Act.put,yK,yL,yM,i64_w,i32_w]
          rfl
         refine pure_ (i:=11) (N:=some 32) (v:=undef) (a':=?_) #[true,true,true,true,true,true,true,true,true,true,true,true,false,false,false,false,false] rfl rfl (any_of HT_.out (by kernel_rfl)) (fun _ _ _ h=>h) (Or.inr ⟨by rfl,rfl⟩) ?_ ?_
         rotate_left
         ·simp only [Act.put,yK,yL,yM,i64_w,i32_w]
          rfl
         refine pure_ (i:=12) (N:=some 33) (v:=undef) (a':=?_) #[true,true,true,true,true,true,true,true,true,true,true,true,true,false,false,false,false] rfl rfl (any_of HT_.out (by kernel_rfl)) (fun _ _ _ h=>h) (Or.inr ⟨by rfl,rfl⟩) ?_ ?_
         rotate_left
         ·simp only [Act.put,yK,yL,yM,i64_w,i32_w]
          rfl
         refine pure_ (i:=13) (N:=some 34) (v:=undef) (a':=?_) #[true,true,true,true,true,true,true,true,true,true,true,true,true,true,false,false,false] rfl rfl (any_of HT_.out (by kernel_rfl)) (fun _ _ _ h=>h) (Or.inr ⟨by rfl,rfl⟩) ?_ ?_
         rotate_left
         ·simp only [Act.put,yK,yL,yM,i64_w,i32_w]
          rfl
         refine pure_ (i:=14) (N:=some 35) (v:=undef) (a':=?_) #[true,true,true,true,true,true,true,true,true,true,true,true,true,true,true,false,false] rfl rfl (any_of HT_.out (by kernel_rfl)) (fun _ _ _ h=>h) (Or.inr ⟨by rfl,rfl⟩) ?_ ?_
         rotate_left
         ·simp only [Act.put,yK,yL,yM,i64_w,i32_w]
          rfl
         refine pure_ (i:=15) (N:=some 36) (v:=undef) (a':=?_) #[true,true,true,true,true,true,true,true,true,true,true,true,true,true,true,true,false] rfl rfl (any_of HT_.out (by kernel_rfl)) (fun _ _ _ h=>h) (Or.inr ⟨by rfl,rfl⟩) ?_ ?_
         rotate_left
         ·simp only [Act.put,yK,yL,yM,i64_w,i32_w]
          rfl
         refine pure_ (i:=16) (N:=some 37) (v:=?_) (a':=?_) #[true,true,true,true,true,true,true,true,true,true,true,true,true,true,true,true,true] rfl rfl (any_of HT_.out (by kernel_rfl)) (fun _ _ _ h=>h) (Or.inl ⟨by rfl,?_⟩) ?_ ?_
         rotate_left
         ·intro w'
          go_simp
          with_reducible rfl
         rotate_left
         ·simp only [Act.put,yK,yL,yM,i64_w,i32_w]
          rfl
         refine done_ (done_of HT_.out (by kernel_rfl)) ?_
         obtain ⟨Ao44,co44,eo44⟩:=Kd.R_slice HO_5.out
         subst eo44
         have hnb45:=NB170_169.out
         have hnc45:=NB169_170.out
         have hcz46_0:w42.cell? ⟨gb170,0,none⟩=some (.slice none 0 0):=(blk_cell BK170.out 0).trans rfl
         have hcz46_1:w42.cell? ⟨gb170,1,none⟩=some (.slice none 0 0):=(blk_cell BK170.out 1).trans rfl
         have hfz46_0:=blk_frozen BK170.out 0
         have hfz46_1:=blk_frozen BK170.out 1
         try go_wp2
         refine bodyPost_ret (results_cell_row rfl _ _ gb170 33 #[.slice Ao43 x4_2.length co43,.slice Ao44 x5_2.length co44] (0,0) _ rfl (by (with_reducible repeat (first|refine yE ?_ _|refine yF ?_|refine yG ?_ _));refine blk_put (cs:=#[.slice Ao43 x4_2.length co43,.slice none 0 0]) ?_ 1 _ rfl;(with_reducible repeat (first|refine yE ?_ _|refine yF ?_|refine yG ?_ _));refine blk_put (cs:=#[.slice none 0 0,.slice none 0 0]) ?_ 0 _ rfl;(with_reducible repeat (first|refine yE ?_ _|refine yF ?_|refine yG ?_ _));exact BK170.out) Try.underlying33 rfl (by kernel_rfl)) rfl ?_
         exact ⟨_,_,by first|rfl|(simp [errW_none,errW_some]<;>rfl)|(simp [*,errW_none,errW_some]<;>rfl)|(simp [errW_none,errW_some];exact ⟨rfl,rfl⟩),by (with_reducible repeat (first|apply yH|apply yI|apply yJ));exact Kd.R_mono (Kd.R_far (p:=⟨gb170,1,none⟩) (Kd.R_far (p:=⟨gb170,0,none⟩) (Kd.R_types HO_4.out BK170.out (by decide)) (fun _ hk=>hk.2) (.slice Ao43 x4_2.length co43)) (fun _ hk=>hk.2) (.slice Ao44 x5_2.length co44)) (fun _ hk=>hk.1),by (with_reducible repeat (first|apply yH|apply yI|apply yJ));exact Kd.R_mono (Kd.R_far (p:=⟨gb170,1,none⟩) (Kd.R_far (p:=⟨gb170,0,none⟩) (Kd.R_types HO_5.out BK170.out (by decide)) (fun _ hk=>hk.2) (.slice Ao43 x4_2.length co43)) (fun _ hk=>hk.2) (.slice Ao44 x5_2.length co44)) (fun _ hk=>hk.1),by repeat (first|(with_reducible first|exact HB.out|apply yA|apply yB|apply yC|refine yD ?_ GE169.out|refine yD ?_ GE170.out)|exact HB.out)⟩
     ·rw [if_neg c8] at H
      exact absurd H (by simp)
    ·rw [if_neg c7] at H
     exact absurd H (by simp)
   ·replace c5:=Bool.eq_false_iff.mpr c5
    subst c5
    have H1:(impl_set_tidy.l0 k1 (wrap64 (x3_1+1)) l0_0 l0_1)=some (r1,r2):=by rw [if_neg (show ¬ (false=true) by decide)] at H;exact H
    clear H
    have H:=H1
    clear H1
    have H':=Aside0.mk H
    clear H
    have hnb47:=NB169_170.out
    have hnc47:=NB170_169.out
    have hcz48_0:wr.cell? ⟨gb169,0,none⟩=some (.slice A0_0 l0_0.length c0_0):=(blk_cell BK169.out 0).trans rfl
    have hcz48_1:wr.cell? ⟨gb169,1,none⟩=some (.slice A0_1 l0_1.length c0_1):=(blk_cell BK169.out 1).trans rfl
    have hfz48_0:=blk_frozen BK169.out 0
    have hfz48_1:=blk_frozen BK169.out 1
    go_wp2_with (first|((with_reducible refine gate_callee (f:=31) rfl ?_);refine goesL_ (some 9) rfl rfl Try.func31 (by kernel_rfl) rfl #[.slice A0_1 l0_1.length c0_1,.int .i64 x3_1] rfl (by (try simp only [List.map_toArray,List.map_cons,List.map_nil]);first|done|rfl|(simp only [List.length_drop,List.length_take];rfl)) ?_;(with_reducible refine (impl_turns.calls k1 _ _ l0_1 x3_1 false _ ?side1 ?side2 A4.out).mono ?_);(case side1=>repeat (first|exact (Kd.C_below HR0_1.out HB.out)|(with_reducible refine Kd.C_alloc ?_ _)|(with_reducible refine Kd.C_drewN ?_ _)|(with_reducible refine Kd.C_drew ?_)));(case side2=>exact HC0_1.out);rintro e w' ⟨rfl,⟨nd,rfl⟩⟩;refine ⟨_,rfl,?_⟩))
    go_roundg k1
    case measure=>have:=HK1.out;omega
    case rel=>exact ⟨(wrap64 (x3_1+1)),(by first|rfl|(simp;done)|(simp [*];done)|(simp [Int.tmod_eq_emod_of_nonneg];done)),H',⟨by have:=HK1.out;omega⟩,⟨by (with_reducible repeat (first|refine yE ?_ _|refine yF ?_|refine yG ?_ _));exact BK169.out⟩,⟨by (with_reducible repeat (first|refine yE ?_ _|refine yF ?_|refine yG ?_ _));exact BK170.out⟩,⟨by repeat (first|(with_reducible first|exact HB.out|apply yA|apply yB|apply yC|refine yD ?_ GE169.out|refine yD ?_ GE170.out)|exact HB.out)⟩⟩

end Go.Proofs.Ytnmkinnfbbehnaa.P

namespace Go.Proofs.Ytnmkinnfbbehnaa.P
open Go.RowKit Go.Proofs.YtnmkinnfbbehnaaW.PrintWords Go.Proofs.YtnmkinnfbbehnaaW.PrintLast Go.Proofs.YtnmkinnfbbehnaaW.PrintMore
attribute [local go_sem] max2_int min2_int max_two min_two max_three min_three max_four min_four   -- for this text's walks alone
set_option linter.unusedVariables false
set_option linter.unusedSimpArgs false

/-! ### spec_l1Has: function 24 -/
def spec_l1Has.f (l0_0:List Bool) (l0_1:List Bool) (a1:Int):Option (Bool):=if a1<(l0_0.length:Int) then (if 0≤a1 then (some (rdOf false l0_0 a1)) else (none)) else (if (l0_1.length:Int)=0 then (none) else (if 0≤(Int.tmod (wrap64 (a1 - (l0_0.length:Int))) (l0_1.length:Int)) then (if (Int.tmod (wrap64 (a1 - (l0_0.length:Int))) (l0_1.length:Int))<(l0_1.length:Int) then (some (rdOf false l0_1 (Int.tmod (wrap64 (a1 - (l0_0.length:Int))) (l0_1.length:Int)))) else (none)) else (none)))
set_option maxHeartbeats 8000000 in
set_option maxRecDepth 100000 in
theorem spec_l1Has.calls (A0_0:Option Addr) (c0_0:Nat) (l0_0:List Bool) (A0_1:Option Addr) (c0_1:Nat) (l0_1:List Bool) (a1:Int) (r:Bool) (w:World) (hr0_0:Kd.C Kd.bool w A0_0 l0_0.length l0_0) (hc0_0:l0_0.length≤c0_0) (hr0_1:Kd.C Kd.bool w A0_1 l0_1.length l0_1) (hc0_1:l0_1.length≤c0_1) (h:spec_l1Has.f l0_0 l0_1 a1=some r) :
  Calls Try.prog 24 #[.agg #[.slice A0_0 l0_0.length c0_0,.slice A0_1 l0_1.length c0_1],.int .i64 a1] w fun e w'=>e=.returned (.bool r)∧Below w.heap.size w w':=by
 have hu41:=Try.underlying41
 have HR0_0:=Aside0.mk hr0_0
 have HC0_0:=Aside0.mk hc0_0
 clear hr0_0 hc0_0
 have HR0_1:=Aside0.mk hr0_1
 have HC0_1:=Aside0.mk hc0_1
 clear hr0_1 hc0_1
 have HB:=Aside0.mk (Below.refl w.heap.size w)
 have H:(if a1<(l0_0.length:Int) then (if 0≤a1 then (some (rdOf false l0_0 a1)) else (none)) else (if (l0_1.length:Int)=0 then (none) else (if 0≤(Int.tmod (wrap64 (a1 - (l0_0.length:Int))) (l0_1.length:Int)) then (if (Int.tmod (wrap64 (a1 - (l0_0.length:Int))) (l0_1.length:Int))<(l0_1.length:Int) then (some (rdOf false l0_1 (Int.tmod (wrap64 (a1 - (l0_0.length:Int))) (l0_1.length:Int)))) else (none)) else (none))))=some r:=h
 clear h
 by_cases c3:a1<(l0_0.length:Int)
 ·rw [if_pos c3] at H
  have c3b0:decide (a1<(l0_0.length:Int))=true:=decide_eq_true c3
  clear c3
  by_cases c4:0≤a1
  ·rw [if_pos c4] at H
   have c4b0:decide (0≤a1)=true:=decide_eq_true c4
   clear c4
   obtain rfl:=Option.some.inj H
   go_enter Try.func24,Try.ntmps24
   go_wp2_with (first|((with_reducible refine gate_dst (N:=2) rfl ?_);refine box_event ?hg (N:=2) ?hd (cs:=#[.slice A0_0 l0_0.length c0_0,.slice A0_1 l0_1.length c0_1]) (t:=41) ?hr ?_;(case hd=>rfl);(case hg=>rfl);(case hr=>first|(go_simp;done)|(go_simp;rfl));intro gb316 hg w5 hbox hb;have n0_:=Aside0.mk (yP (by repeat (first|(with_reducible first|exact HB.out|apply yA|apply yB|apply yC)|exact HB.out)) hb);have n1_:=Aside0.mk (hbox);have n2_:=Aside0.mk ((by rw [hg];exact (yQ (by repeat (first|(with_reducible first|exact HB.out|apply yA|apply yB|apply yC)|exact HB.out))):w.heap.size≤gb316));have n3_:=Aside0.mk ((by rw [hg];exact (yQ (by repeat (first|(with_reducible first|exact HB.out|apply yA|apply yB|apply yC)|exact HB.out))):w.heap.size≤gb316));clear HB;have HB:=n0_;have BK316:=n1_;have GW316:=n2_;have GE316:=n3_;clear n0_ n1_ n2_ n3_;clear hb hbox hg;have hcz6_0:w5.cell? ⟨gb316,0,none⟩=some (.slice A0_0 l0_0.length c0_0):=(blk_cell BK316.out 0).trans rfl;have hcz6_1:w5.cell? ⟨gb316,1,none⟩=some (.slice A0_1 l0_1.length c0_1):=(blk_cell BK316.out 1).trans rfl;have hfz6_0:=blk_frozen BK316.out 0;have hfz6_1:=blk_frozen BK316.out 1;have p317:0≤(a1:Int):=of_decide_eq_true (by first|(with_reducible assumption)|assumption);have q317:a1<(l0_0.length:Int):=of_decide_eq_true (by first|(with_reducible assumption)|assumption);obtain ⟨ad317,e317,hx317_0⟩:=Kd.at_bool HR0_0.out a1 p317 q317;cases e317;replace hx317_0:=(HB.out.cell (World.block_lt_of_cell? w _ hx317_0)).trans hx317_0;replace p317:=eq_true p317;replace q317:=eq_true q317))
   repeat (go_quiet (first|((with_reducible refine gate_dst (N:=2) rfl ?_);refine box_event ?hg (N:=2) ?hd (cs:=#[.slice A0_0 l0_0.length c0_0,.slice A0_1 l0_1.length c0_1]) (t:=41) ?hr ?_;(case hd=>rfl);(case hg=>rfl);(case hr=>first|(go_simp;done)|(go_simp;rfl));intro gb316 hg w5 hbox hb;have n0_:=Aside0.mk (yP (by repeat (first|(with_reducible first|exact HB.out|apply yA|apply yB|apply yC)|exact HB.out)) hb);have n1_:=Aside0.mk (hbox);have n2_:=Aside0.mk ((by rw [hg];exact (yQ (by repeat (first|(with_reducible first|exact HB.out|apply yA|apply yB|apply yC)|exact HB.out))):w.heap.size≤gb316));have n3_:=Aside0.mk ((by rw [hg];exact (yQ (by repeat (first|(with_reducible first|exact HB.out|apply yA|apply yB|apply yC)|exact HB.out))):w.heap.size≤gb316));clear HB;have HB:=n0_;have BK316:=n1_;have GW316:=n2_;have GE316:=n3_;clear n0_ n1_ n2_ n3_;clear hb hbox hg;have hcz6_0:w5.cell? ⟨gb316,0,none⟩=some (.slice A0_0 l0_0.length c0_0):=(blk_cell BK316.out 0).trans rfl;have hcz6_1:w5.cell? ⟨gb316,1,none⟩=some (.slice A0_1 l0_1.length c0_1):=(blk_cell BK316.out 1).trans rfl;have hfz6_0:=blk_frozen BK316.out 0;have hfz6_1:=blk_frozen BK316.out 1;have p317:0≤(a1:Int):=of_decide_eq_true (by first|(with_reducible assumption)|assumption);have q317:a1<(l0_0.length:Int):=of_decide_eq_true (by first|(with_reducible assumption)|assumption);obtain ⟨ad317,e317,hx317_0⟩:=Kd.at_bool HR0_0.out a1 p317 q317;cases e317;replace hx317_0:=(HB.out.cell (World.block_lt_of_cell? w _ hx317_0)).trans hx317_0;replace p317:=eq_true p317;replace q317:=eq_true q317));try go_wp2_with (first|((with_reducible refine gate_dst (N:=2) rfl ?_);refine box_event ?hg (N:=2) ?hd (cs:=#[.slice A0_0 l0_0.length c0_0,.slice A0_1 l0_1.length c0_1]) (t:=41) ?hr ?_;(case hd=>rfl);(case hg=>rfl);(case hr=>first|(go_simp;done)|(go_simp;rfl));intro gb316 hg w5 hbox hb;have n0_:=Aside0.mk (yP (by repeat (first|(with_reducible first|exact HB.out|apply yA|apply yB|apply yC)|exact HB.out)) hb);have n1_:=Aside0.mk (hbox);have n2_:=Aside0.mk ((by rw [hg];exact (yQ (by repeat (first|(with_reducible first|exact HB.out|apply yA|apply yB|apply yC)|exact HB.out))):w.heap.size≤gb316));have n3_:=Aside0.mk ((by rw [hg];exact (yQ (by repeat (first|(with_reducible first|exact HB.out|apply yA|apply yB|apply yC)|exact HB.out))):w.heap.size≤gb316));clear HB;have HB:=n0_;have BK316:=n1_;have GW316:=n2_;have GE316:=n3_;clear n0_ n1_ n2_ n3_;clear hb hbox hg;have hcz6_0:w5.cell? ⟨gb316,0,none⟩=some (.slice A0_0 l0_0.length c0_0):=(blk_cell BK316.out 0).trans rfl;have hcz6_1:w5.cell? ⟨gb316,1,none⟩=some (.slice A0_1 l0_1.length c0_1):=(blk_cell BK316.out 1).trans rfl;have hfz6_0:=blk_frozen BK316.out 0;have hfz6_1:=blk_frozen BK316.out 1;have p317:0≤(a1:Int):=of_decide_eq_true (by first|(with_reducible assumption)|assumption);have q317:a1<(l0_0.length:Int):=of_decide_eq_true (by first|(with_reducible assumption)|assumption);obtain ⟨ad317,e317,hx317_0⟩:=Kd.at_bool HR0_0.out a1 p317 q317;cases e317;replace hx317_0:=(HB.out.cell (World.block_lt_of_cell? w _ hx317_0)).trans hx317_0;replace p317:=eq_true p317;replace q317:=eq_true q317)))
   go_ret
   exact ⟨by first|rfl|(simp [errW_none,errW_some]<;>rfl)|(simp [*,errW_none,errW_some]<;>rfl)|(simp [errW_none,errW_some];exact ⟨rfl,rfl⟩),by repeat (first|(with_reducible first|exact HB.out|apply yA|apply yB|apply yC|refine yD ?_ GE316.out)|exact HB.out)⟩
  ·rw [if_neg c4] at H
   exact absurd H (by simp)
 ·rw [if_neg c3] at H
  have c3b0:decide (a1<(l0_0.length:Int))=false:=decide_eq_false c3
  clear c3
  by_cases c7:(l0_1.length:Int)=0
  ·rw [if_pos c7] at H
   exact absurd H (by simp)
  ·rw [if_neg c7] at H
   have c7b0:((l0_1.length:Int) == 0)=false:=beq_eq_false_iff_ne.mpr c7
   have c7b1:((l0_1.length:Int) != 0)=true:=bne_iff_ne.mpr c7
   have c7b2:¬ (l0_1=[]):=fun h_=>c7 (by rw [h_];rfl)
   obtain ⟨ji8,hji8⟩:∃ j_:Int,(Int.tmod (wrap64 (a1 - (l0_0.length:Int))) (l0_1.length:Int))=j_:=⟨_,rfl⟩
   replace H:(if 0≤(ji8) then (if (ji8)<(l0_1.length:Int) then (some (rdOf false l0_1 (ji8))) else (none)) else (none))=some r:=by first|(rw [hji8] at H;exact H)|(simp only [hji8] at H ⊢;exact H)
   by_cases c9:0≤(ji8)
   ·rw [if_pos c9] at H
    have c9b0:decide (0≤(ji8))=true:=decide_eq_true c9
    clear c9
    by_cases c10:(ji8)<(l0_1.length:Int)
    ·rw [if_pos c10] at H
     have c10b0:decide ((ji8)<(l0_1.length:Int))=true:=decide_eq_true c10
     clear c10
     obtain rfl:=Option.some.inj H
     go_enter Try.func24,Try.ntmps24
     go_wp2_with (first|((with_reducible refine gate_dst (N:=2) rfl ?_);refine box_event ?hg (N:=2) ?hd (cs:=#[.slice A0_0 l0_0.length c0_0,.slice A0_1 l0_1.length c0_1]) (t:=41) ?hr ?_;(case hd=>rfl);(case hg=>rfl);(case hr=>first|(go_simp;done)|(go_simp;rfl));intro gb316 hg w11 hbox hb;have n0_:=Aside0.mk (yP (by repeat (first|(with_reducible first|exact HB.out|apply yA|apply yB|apply yC)|exact HB.out)) hb);have n1_:=Aside0.mk (hbox);have n2_:=Aside0.mk ((by rw [hg];exact (yQ (by repeat (first|(with_reducible first|exact HB.out|apply yA|apply yB|apply yC)|exact HB.out))):w.heap.size≤gb316));have n3_:=Aside0.mk ((by rw [hg];exact (yQ (by repeat (first|(with_reducible first|exact HB.out|apply yA|apply yB|apply yC)|exact HB.out))):w.heap.size≤gb316));clear HB;have HB:=n0_;have BK316:=n1_;have GW316:=n2_;have GE316:=n3_;clear n0_ n1_ n2_ n3_;clear hb hbox hg;have hcz12_0:w11.cell? ⟨gb316,0,none⟩=some (.slice A0_0 l0_0.length c0_0):=(blk_cell BK316.out 0).trans rfl;have hcz12_1:w11.cell? ⟨gb316,1,none⟩=some (.slice A0_1 l0_1.length c0_1):=(blk_cell BK316.out 1).trans rfl;have hfz12_0:=blk_frozen BK316.out 0;have hfz12_1:=blk_frozen BK316.out 1;have p318:0≤((ji8):Int):=of_decide_eq_true (by first|(with_reducible assumption)|assumption);have q318:(ji8)<(l0_1.length:Int):=of_decide_eq_true (by first|(with_reducible assumption)|assumption);obtain ⟨ad318,e318,hx318_0⟩:=Kd.at_bool HR0_1.out (ji8) p318 q318;cases e318;replace hx318_0:=(HB.out.cell (World.block_lt_of_cell? w _ hx318_0)).trans hx318_0;replace p318:=eq_true p318;replace q318:=eq_true q318))
     repeat (go_quiet (first|((with_reducible refine gate_dst (N:=2) rfl ?_);refine box_event ?hg (N:=2) ?hd (cs:=#[.slice A0_0 l0_0.length c0_0,.slice A0_1 l0_1.length c0_1]) (t:=41) ?hr ?_;(case hd=>rfl);(case hg=>rfl);(case hr=>first|(go_simp;done)|(go_simp;rfl));intro gb316 hg w11 hbox hb;have n0_:=Aside0.mk (yP (by repeat (first|(with_reducible first|exact HB.out|apply yA|apply yB|apply yC)|exact HB.out)) hb);have n1_:=Aside0.mk (hbox);have n2_:=Aside0.mk ((by rw [hg];exact (yQ (by repeat (first|(with_reducible first|exact HB.out|apply yA|apply yB|apply yC)|exact HB.out))):w.heap.size≤gb316));have n3_:=Aside0.mk ((by rw [hg];exact (yQ (by repeat (first|(with_reducible first|exact HB.out|apply yA|apply yB|apply yC)|exact HB.out))):w.heap.size≤gb316));clear HB;have HB:=n0_;have BK316:=n1_;have GW316:=n2_;have GE316:=n3_;clear n0_ n1_ n2_ n3_;clear hb hbox hg;have hcz12_0:w11.cell? ⟨gb316,0,none⟩=some (.slice A0_0 l0_0.length c0_0):=(blk_cell BK316.out 0).trans rfl;have hcz12_1:w11.cell? ⟨gb316,1,none⟩=some (.slice A0_1 l0_1.length c0_1):=(blk_cell BK316.out 1).trans rfl;have hfz12_0:=blk_frozen BK316.out 0;have hfz12_1:=blk_frozen BK316.out 1;have p318:0≤((ji8):Int):=of_decide_eq_true (by first|(with_reducible assumption)|assumption);have q318:(ji8)<(l0_1.length:Int):=of_decide_eq_true (by first|(with_reducible assumption)|assumption);obtain ⟨ad318,e318,hx318_0⟩:=Kd.at_bool HR0_1.out (ji8) p318 q318;cases e318;replace hx318_0:=(HB.out.cell (World.block_lt_of_cell? w _ hx318_0)).trans hx318_0;replace p318:=eq_true p318;replace q318:=eq_true q318));try go_wp2_with (first|((with_reducible refine gate_dst (N:=2) rfl ?_);refine box_event ?hg (N:=2) ?hd (cs:=#[.slice A0_0 l0_0.length c0_0,.slice A0_1 l0_1.length c0_1]) (t:=41) ?hr ?_;(case hd=>rfl);(case hg=>rfl);(case hr=>first|(go_simp;done)|(go_simp;rfl));intro gb316 hg w11 hbox hb;have n0_:=Aside0.mk (yP (by repeat (first|(with_reducible first|exact HB.out|apply yA|apply yB|apply yC)|exact HB.out)) hb);have n1_:=Aside0.mk (hbox);have n2_:=Aside0.mk ((by rw [hg];exact (yQ (by repeat (first|(with_reducible first|exact HB.out|apply yA|apply yB|apply yC)|exact HB.out))):w.heap.size≤gb316));have n3_:=Aside0.mk ((by rw [hg];exact (yQ (by repeat (first|(with_reducible first|exact HB.out|apply yA|apply yB|apply yC)|exact HB.out))):w.heap.size≤gb316));clear HB;have HB:=n0_;have BK316:=n1_;have GW316:=n2_;have GE316:=n3_;clear n0_ n1_ n2_ n3_;clear hb hbox hg;have hcz12_0:w11.cell? ⟨gb316,0,none⟩=some (.slice A0_0 l0_0.length c0_0):=(blk_cell BK316.out 0).trans rfl;have hcz12_1:w11.cell? ⟨gb316,1,none⟩=some (.slice A0_1 l0_1.length c0_1):=(blk_cell BK316.out 1).trans rfl;have hfz12_0:=blk_frozen BK316.out 0;have hfz12_1:=blk_frozen BK316.out 1;have p318:0≤((ji8):Int):=of_decide_eq_true (by first|(with_reducible assumption)|assumption);have q318:(ji8)<(l0_1.length:Int):=of_decide_eq_true (by first|(with_reducible assumption)|assumption);obtain ⟨ad318,e318,hx318_0⟩:=Kd.at_bool HR0_1.out (ji8) p318 q318;cases e318;replace hx318_0:=(HB.out.cell (World.block_lt_of_cell? w _ hx318_0)).trans hx318_0;replace p318:=eq_true p318;replace q318:=eq_true q318)))
     go_ret
     exact ⟨by first|rfl|(simp [errW_none,errW_some]<;>rfl)|(simp only [← hji8];first|rfl|(simp [errW_none,errW_some]<;>rfl))|(simp [*,errW_none,errW_some]<;>rfl),by repeat (first|(with_reducible first|exact HB.out|apply yA|apply yB|apply yC|refine yD ?_ GE316.out)|exact HB.out)⟩
    ·rw [if_neg c10] at H
     exact absurd H (by simp)
   ·rw [if_neg c9] at H
    exact absurd H (by simp)

end Go.Proofs.Ytnmkinnfbbehnaa.P
