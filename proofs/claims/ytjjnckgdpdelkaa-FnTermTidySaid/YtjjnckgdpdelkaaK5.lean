/- What these laws reach, joined by a program of this session: contracts (written by that program over the kit's print, or by hand) and plain lemmas. -/
import Derived.Test.YtjjnckgdpdelkaaK1
import Derived.Test.YtjjnckgdpdelkaaK3
import Derived.Test.YtjjnckgdpdelkaaK4
open Go.Proofs.YtjjnckgdpdelkaaW.PrintWords renaming below_alloc → yA, pw_below_drewN → yB, below_drew1 → yC, below_set → yD, blk_drewN → yE, blk_drew → yF, blk_alloc → yG, below_step → yP, below_size → yQ
open Go.Proofs.YtjjnckgdpdelkaaW.PrintWords.Kd renaming R_alloc → yH, R_drewN → yI, R_drew → yJ
open List renaming setIfInBounds_toArray → yK, set_cons_zero → yL, set_cons_succ → yM
namespace Go.Proofs.Ytjjnckgdpdelkaa.P
open Go.RowKit Go.Proofs.YtjjnckgdpdelkaaW.PrintWords Go.Proofs.YtjjnckgdpdelkaaW.PrintLast Go.Proofs.YtjjnckgdpdelkaaW.PrintMore
attribute [local go_sem] max2_int min2_int max_two min_two max_three min_three max_four min_four   -- for this text's walks alone
set_option linter.unusedVariables false
set_option linter.unusedSimpArgs false

/-! ### laws_FnTermTidy: function 7 -/
mutual
noncomputable def laws_FnTermTidy.j0:Nat→ByteArray→ByteArray→Bool→Bool→Option (Bool)
 | 0,_,_,_,_=>none
 | k+1,x3,x4,x5,x8=>if x8=true then (laws_FnTermTidy.j1 k x3 x4 x8 (!x5)) else (laws_FnTermTidy.j1 k x3 x4 x8 true)
noncomputable def laws_FnTermTidy.j1:Nat→ByteArray→ByteArray→Bool→Bool→Option (Bool)
 | 0,_,_,_,_=>none
 | k+1,x3,x4,x8,x47=>if x47=true then (some x8) else ((impl_TermList.f x3 80).bind fun bt383=>((impl_TermList.f x4 80).bind fun bt387=>((impl_TermSize.f x3).bind fun bt391=>((impl_TermSize.f x4).bind fun bt393=>((impl_TermTidy.f x4).bind fun bt395=>(if bt383.2=true then (if bt387.2=true then ((laws_sameInts.f k bt383.1 bt387.1).bind fun t397=>(if t397=true then (if bt393.1≤bt391.1 then (if bt395.2=true then (some (bt395.1.toList == x4.toList)) else (some false)) else (some false)) else (some false))) else (some false)) else (some false)))))))
end
noncomputable def laws_FnTermTidy.f (k:Nat) (l0:List Int):Option (Bool):=if (l0.length:Int) > 1048576 then (some true) else ((spec_DrawTermTidy.f k l0).bind fun t378=>((impl_TermTidy.f t378).bind fun bt379=>((spec_TermTidy.f k t378).bind fun bt381=>(if bt379.1.toList=bt381.1.toList then (laws_FnTermTidy.j0 k t378 bt379.1 bt379.2 (bt379.2 == bt381.2)) else (laws_FnTermTidy.j0 k t378 bt379.1 bt379.2 false)))))
theorem laws_FnTermTidy.mono_l:∀ k,(∀ y0 y1 y2 y3,LeO (laws_FnTermTidy.j0 k y0 y1 y2 y3) (laws_FnTermTidy.j0 (k+1) y0 y1 y2 y3))∧(∀ y0 y1 y2 y3,LeO (laws_FnTermTidy.j1 k y0 y1 y2 y3) (laws_FnTermTidy.j1 (k+1) y0 y1 y2 y3))
 | 0=>⟨fun _ _ _ _ r h=>by simp [laws_FnTermTidy.j0] at h,fun _ _ _ _ r h=>by simp [laws_FnTermTidy.j1] at h⟩
 | k+1=>by
  obtain ⟨ih0,ih1⟩:=laws_FnTermTidy.mono_l k
  refine ⟨?_,?_⟩
  ·intro y0 y1 y2 y3
   unfold laws_FnTermTidy.j0
   repeat' first
   | (with_reducible exact ih0 _ _ _ _)
   | (with_reducible exact ih1 _ _ _ _)
   | (with_reducible exact laws_sameInts.mono _ _ _)
   | (with_reducible exact spec_DrawTermTidy.mono _ _)
   | (with_reducible exact spec_TermTidy.mono _ _)
   | (with_reducible exact LeO.refl _)
   | (with_reducible exact LeO.none _)
   | (with_reducible refine LeO.ite ?_ ?_)
   | (with_reducible refine LeO.bind ?_ (fun _=>?_))
   | exact ih0 _ _ _ _
   | exact ih1 _ _ _ _
   | exact laws_sameInts.mono _ _ _
   | exact spec_DrawTermTidy.mono _ _
   | exact spec_TermTidy.mono _ _
   | exact LeO.none _
   | refine LeO.ite ?_ ?_
   | refine LeO.bind ?_ (fun _=>?_)
  ·intro y0 y1 y2 y3
   unfold laws_FnTermTidy.j1
   repeat' first
   | (with_reducible exact ih0 _ _ _ _)
   | (with_reducible exact ih1 _ _ _ _)
   | (with_reducible exact laws_sameInts.mono _ _ _)
   | (with_reducible exact spec_DrawTermTidy.mono _ _)
   | (with_reducible exact spec_TermTidy.mono _ _)
   | (with_reducible exact LeO.refl _)
   | (with_reducible exact LeO.none _)
   | (with_reducible refine LeO.ite ?_ ?_)
   | (with_reducible refine LeO.bind ?_ (fun _=>?_))
   | exact ih0 _ _ _ _
   | exact ih1 _ _ _ _
   | exact laws_sameInts.mono _ _ _
   | exact spec_DrawTermTidy.mono _ _
   | exact spec_TermTidy.mono _ _
   | exact LeO.none _
   | refine LeO.ite ?_ ?_
   | refine LeO.bind ?_ (fun _=>?_)
theorem laws_FnTermTidy.mono:∀ a0 k,LeO (laws_FnTermTidy.f k a0) (laws_FnTermTidy.f (k+1) a0):=by
 intro a0 k
 obtain ⟨ih0,ih1⟩:=laws_FnTermTidy.mono_l k
 unfold laws_FnTermTidy.f
 repeat' first
   | (with_reducible exact ih0 _ _ _ _)
   | (with_reducible exact ih1 _ _ _ _)
   | (with_reducible exact laws_sameInts.mono _ _ _)
   | (with_reducible exact spec_DrawTermTidy.mono _ _)
   | (with_reducible exact spec_TermTidy.mono _ _)
   | (with_reducible exact LeO.refl _)
   | (with_reducible exact LeO.none _)
   | (with_reducible refine LeO.ite ?_ ?_)
   | (with_reducible refine LeO.bind ?_ (fun _=>?_))
   | exact ih0 _ _ _ _
   | exact ih1 _ _ _ _
   | exact laws_sameInts.mono _ _ _
   | exact spec_DrawTermTidy.mono _ _
   | exact spec_TermTidy.mono _ _
   | exact LeO.none _
   | refine LeO.ite ?_ ?_
   | refine LeO.bind ?_ (fun _=>?_)
set_option maxHeartbeats 8000000 in
set_option maxRecDepth 100000 in
theorem laws_FnTermTidy.calls (k:Nat) (A0:Option Addr) (c0:Nat) (l0:List Int) (r:Bool) (w:World) (hr0:Kd.C (Kd.int .u8) w A0 l0.length l0) (hc0:l0.length≤c0) (h:laws_FnTermTidy.f k l0=some r) :
  Calls Try.prog 7 #[.slice A0 l0.length c0] w fun e w'=>e=.returned (.bool r)∧Below w.heap.size w w':=by
 have HR0:=Aside0.mk hr0
 have HC0:=Aside0.mk hc0
 clear hr0 hc0
 have HB:=Aside0.mk (Below.refl w.heap.size w)
 have H:(if (l0.length:Int) > 1048576 then (some true) else ((spec_DrawTermTidy.f k l0).bind fun t378=>((impl_TermTidy.f t378).bind fun bt379=>((spec_TermTidy.f k t378).bind fun bt381=>(if bt379.1.toList=bt381.1.toList then (laws_FnTermTidy.j0 k t378 bt379.1 bt379.2 (bt379.2 == bt381.2)) else (laws_FnTermTidy.j0 k t378 bt379.1 bt379.2 false))))))=some r:=h
 clear h
 by_cases c2:(l0.length:Int) > 1048576
 ·rw [if_pos c2] at H
  have c2b0:decide (1048576<(l0.length:Int))=true:=decide_eq_true c2
  have c2b1:decide (1048576<l0.length)=true:=decide_eq_true (by omega)
  clear c2
  obtain rfl:=Option.some.inj H
  go_enter Try.func7,Try.ntmps7
  go_wp2
  go_ret
  exact ⟨by first|rfl|(simp [errW_none,errW_some]<;>rfl)|(simp [*,errW_none,errW_some]<;>rfl)|(simp [errW_none,errW_some];exact ⟨rfl,rfl⟩),by repeat (first|(with_reducible first|exact HB.out|apply yA|apply yB|apply yC)|exact HB.out)⟩
 ·rw [if_neg c2] at H
  have c2b0:decide (1048576<(l0.length:Int))=false:=decide_eq_false c2
  have c2b1:decide (1048576<l0.length)=false:=decide_eq_false (by omega)
  clear c2
  replace H:=Option.bind_eq_some_iff.mp H
  obtain ⟨t378,A30,H⟩:=H
  replace H:((impl_TermTidy.f t378).bind fun bt379=>((spec_TermTidy.f k t378).bind fun bt381=>(if bt379.1.toList=bt381.1.toList then (laws_FnTermTidy.j0 k t378 bt379.1 bt379.2 (bt379.2 == bt381.2)) else (laws_FnTermTidy.j0 k t378 bt379.1 bt379.2 false))))=some r:=H
  have A3:=Aside0.mk A30
  clear A30
  replace H:=Option.bind_eq_some_iff.mp H
  obtain ⟨⟨t379,t380⟩,A40,H⟩:=H
  replace H:((spec_TermTidy.f k t378).bind fun bt381=>(if t379.toList=bt381.1.toList then (laws_FnTermTidy.j0 k t378 t379 t380 (t380 == bt381.2)) else (laws_FnTermTidy.j0 k t378 t379 t380 false)))=some r:=H
  have A4:=Aside0.mk A40
  clear A40
  replace H:=Option.bind_eq_some_iff.mp H
  obtain ⟨⟨t381,t382⟩,A50,H⟩:=H
  replace H:(if t379.toList=t381.toList then (laws_FnTermTidy.j0 k t378 t379 t380 (t380 == t382)) else (laws_FnTermTidy.j0 k t378 t379 t380 false))=some r:=H
  have A5:=Aside0.mk A50
  clear A50
  have HC6:=Aside0.mk H
  clear H
  go_enter Try.func7,Try.ntmps7
  go_upto_region 6 with (first|((with_reducible refine gate_callee (f:=21) rfl ?_);refine goesL_ (some 23) rfl rfl Try.func21 (by kernel_rfl) rfl #[.slice A0 l0.length c0] rfl (by (try simp only [List.map_toArray,List.map_cons,List.map_nil]);first|done|rfl|(simp only [List.length_drop,List.length_take];rfl)) ?_;(with_reducible refine (spec_DrawTermTidy.calls k _ _ l0 t378 _ ?side1 ?side2 A3.out).mono ?_);(case side1=>repeat (first|exact HR0.out|(with_reducible refine Kd.C_alloc ?_ _)|(with_reducible refine Kd.C_drewN ?_ _)|(with_reducible refine Kd.C_drew ?_)));(case side2=>exact HC0.out);rintro e w7 ⟨rfl,hb⟩;refine ⟨_,rfl,?_⟩;have n0_:=Aside0.mk (yP (by repeat (first|(with_reducible first|exact HB.out|apply yA|apply yB|apply yC)|exact HB.out)) hb);clear HB;have HB:=n0_;clear n0_;(try clear hb);(try clear hb2);(try clear hk);(try clear hi))|((with_reducible refine gate_callee (f:=22) rfl ?_);refine goesL_ (some 26) rfl rfl Try.func22 (by kernel_rfl) rfl #[.string t378] rfl (by (try simp only [List.map_toArray,List.map_cons,List.map_nil]);first|done|rfl|(simp only [List.length_drop,List.length_take];rfl)) ?_;(with_reducible refine (impl_TermTidy.calls t378 t379 t380 _ A4.out).mono ?_);rintro e w8 ⟨rfl,hb⟩;refine ⟨_,rfl,?_⟩;have n0_:=Aside0.mk (yP (by repeat (first|(with_reducible first|exact HB.out|apply yA|apply yB|apply yC)|exact HB.out)) hb);clear HB;have HB:=n0_;clear n0_;(try clear hb);(try clear hb2);(try clear hk);(try clear hi))|((with_reducible refine gate_callee (f:=23) rfl ?_);refine goesL_ (some 31) rfl rfl Try.func23 (by kernel_rfl) rfl #[.string t378] rfl (by (try simp only [List.map_toArray,List.map_cons,List.map_nil]);first|done|rfl|(simp only [List.length_drop,List.length_take];rfl)) ?_;(with_reducible refine (spec_TermTidy.calls k t378 t381 t382 _ A5.out).mono ?_);rintro e w9 ⟨rfl,hb⟩;refine ⟨_,rfl,?_⟩;have n0_:=Aside0.mk (yP (by repeat (first|(with_reducible first|exact HB.out|apply yA|apply yB|apply yC)|exact HB.out)) hb);clear HB;have HB:=n0_;clear n0_;(try clear hb);(try clear hb2);(try clear hk);(try clear hi)))
  (try simp only [Act.put,yK,yL,yM])
  go_cut [8] (fun v8 wc=>∃ (kq:Nat) (x8_5:Bool),v8=.bool x8_5∧Aside0 (laws_FnTermTidy.j0 kq t378 t379 t380 x8_5=some r)∧Aside0 (kq≤k)∧Aside0 (Below w.heap.size w wc))
  case first =>
   have H:=HC6.out
   clear HC6
   by_cases c10:t379.toList=t381.toList
   ·rw [if_pos c10] at H
    have c10b0:(t379.toList == t381.toList)=true:=beq_iff_eq.mpr c10
    have c10b1:(t379.toList != t381.toList)=false:=bne_eq_false_iff_eq.mpr c10
    clear c10
    (first|rw [c10b0]|(simp only [i64_w,i32_w];rw [c10b0])|skip)
    have H':=Aside0.mk H
    clear H
    go_wp2
    go_meet
    case rel=>exact ⟨_,((t380 == t382)),(by first|rfl|(simp;done)|(simp [*];done)|(simp [Int.tmod_eq_emod_of_nonneg];done)),H',⟨by first|omega|exact Nat.le_refl _⟩,⟨by repeat (first|(with_reducible first|exact HB.out|apply yA|apply yB|apply yC)|exact HB.out)⟩⟩
   ·rw [if_neg c10] at H
    have c10b0:(t379.toList == t381.toList)=false:=beq_eq_false_iff_ne.mpr c10
    have c10b1:(t379.toList != t381.toList)=true:=bne_iff_ne.mpr c10
    (first|rw [c10b0]|(simp only [i64_w,i32_w];rw [c10b0])|skip)
    have H':=Aside0.mk H
    clear H
    go_wp2
    go_meet
    case rel=>exact ⟨_,(false),(by first|rfl|(simp;done)|(simp [*];done)|(simp [Int.tmod_eq_emod_of_nonneg];done)),H',⟨by first|omega|exact Nat.le_refl _⟩,⟨by repeat (first|(with_reducible first|exact HB.out|apply yA|apply yB|apply yC)|exact HB.out)⟩⟩
  case rest =>
   clear HC6
   try clear c1
   try clear c2
   try clear c2b0
   try clear c2b1
   try clear p2
   try clear c7
   try clear c10
   try clear c10b0
   try clear c10b1
   obtain ⟨kq,x8_5,rfl,HA,HJ5,HB⟩:=hcut
   cases kq with
   | zero=>exact absurd HA.out (by simp [laws_FnTermTidy.j0])
   | succ kj5 =>
    have H:=HA.out
    clear HA
    simp only [laws_FnTermTidy.j0] at H
    have HC11:=Aside0.mk H
    clear H
    go_upto_region 7 with (fail)
    go_cut [47] (fun v47 wc=>∃ (kq:Nat) (x47_10:Bool),v47=.bool x47_10∧Aside0 (laws_FnTermTidy.j1 kq t378 t379 x8_5 x47_10=some r)∧Aside0 (kq≤kj5)∧Aside0 (Below w.heap.size w wc))
    case first =>
     have H:=HC11.out
     clear HC11
     by_cases c12:x8_5=true
     ·subst c12
      have H1:(laws_FnTermTidy.j1 kj5 t378 t379 true (!t380))=some r:=by rw [if_pos rfl] at H;exact H
      clear H
      have H:=H1
      clear H1
      have H':=Aside0.mk H
      clear H
      go_wp2
      go_meet
      case rel=>exact ⟨_,(!t380),(by first|rfl|(simp;done)|(simp [*];done)|(simp [Int.tmod_eq_emod_of_nonneg];done)),H',⟨by have:=HJ5.out;first|omega|exact Nat.le_refl _⟩,⟨by repeat (first|(with_reducible first|exact HB.out|apply yA|apply yB|apply yC)|exact HB.out)⟩⟩
     ·replace c12:=Bool.eq_false_iff.mpr c12
      subst c12
      have H1:(laws_FnTermTidy.j1 kj5 t378 t379 false true)=some r:=by rw [if_neg (show ¬ (false=true) by decide)] at H;exact H
      clear H
      have H:=H1
      clear H1
      have H':=Aside0.mk H
      clear H
      go_wp2
      go_meet
      case rel=>exact ⟨_,(true),(by first|rfl|(simp;done)|(simp [*];done)|(simp [Int.tmod_eq_emod_of_nonneg];done)),H',⟨by have:=HJ5.out;first|omega|exact Nat.le_refl _⟩,⟨by repeat (first|(with_reducible first|exact HB.out|apply yA|apply yB|apply yC)|exact HB.out)⟩⟩
    case rest =>
     clear HC11
     try clear c1
     try clear c2
     try clear c2b0
     try clear c2b1
     try clear p2
     try clear c7
     try clear c10
     try clear c10b0
     try clear c10b1
     try clear c12
     try clear p2
     obtain ⟨kq,x47_10,rfl,HA,HJ10,HB⟩:=hcut
     cases kq with
     | zero=>exact absurd HA.out (by simp [laws_FnTermTidy.j1])
     | succ kj10 =>
      have H:=HA.out
      clear HA
      simp only [laws_FnTermTidy.j1] at H
      by_cases c13:x47_10=true
      ·subst c13
       have H1:(some x8_5)=some r:=by rw [if_pos rfl] at H;exact H
       clear H
       have H:=H1
       clear H1
       obtain rfl:=Option.some.inj H
       go_wp2
       go_ret
       exact ⟨by first|rfl|(simp [errW_none,errW_some]<;>rfl)|(simp [*,errW_none,errW_some]<;>rfl)|(simp [errW_none,errW_some];exact ⟨rfl,rfl⟩),by repeat (first|(with_reducible first|exact HB.out|apply yA|apply yB|apply yC)|exact HB.out)⟩
      ·replace c13:=Bool.eq_false_iff.mpr c13
       subst c13
       have H1:((impl_TermList.f t378 80).bind fun bt383=>((impl_TermList.f t379 80).bind fun bt387=>((impl_TermSize.f t378).bind fun bt391=>((impl_TermSize.f t379).bind fun bt393=>((impl_TermTidy.f t379).bind fun bt395=>(if bt383.2=true then (if bt387.2=true then ((laws_sameInts.f kj10 bt383.1 bt387.1).bind fun t397=>(if t397=true then (if bt393.1≤bt391.1 then (if bt395.2=true then (some (bt395.1.toList == t379.toList)) else (some false)) else (some false)) else (some false))) else (some false)) else (some false)))))))=some r:=by rw [if_neg (show ¬ (false=true) by decide)] at H;exact H
       clear H
       have H:=H1
       clear H1
       replace H:=Option.bind_eq_some_iff.mp H
       obtain ⟨⟨t383,t384⟩,A140,H⟩:=H
       replace H:((impl_TermList.f t379 80).bind fun bt387=>((impl_TermSize.f t378).bind fun bt391=>((impl_TermSize.f t379).bind fun bt393=>((impl_TermTidy.f t379).bind fun bt395=>(if t384=true then (if bt387.2=true then ((laws_sameInts.f kj10 t383 bt387.1).bind fun t397=>(if t397=true then (if bt393.1≤bt391.1 then (if bt395.2=true then (some (bt395.1.toList == t379.toList)) else (some false)) else (some false)) else (some false))) else (some false)) else (some false))))))=some r:=H
       have A14:=Aside0.mk A140
       clear A140
       replace H:=Option.bind_eq_some_iff.mp H
       obtain ⟨⟨t387,t388⟩,A150,H⟩:=H
       replace H:((impl_TermSize.f t378).bind fun bt391=>((impl_TermSize.f t379).bind fun bt393=>((impl_TermTidy.f t379).bind fun bt395=>(if t384=true then (if t388=true then ((laws_sameInts.f kj10 t383 t387).bind fun t397=>(if t397=true then (if bt393.1≤bt391.1 then (if bt395.2=true then (some (bt395.1.toList == t379.toList)) else (some false)) else (some false)) else (some false))) else (some false)) else (some false)))))=some r:=H
       have A15:=Aside0.mk A150
       clear A150
       replace H:=Option.bind_eq_some_iff.mp H
       obtain ⟨⟨t391,t392⟩,A160,H⟩:=H
       replace H:((impl_TermSize.f t379).bind fun bt393=>((impl_TermTidy.f t379).bind fun bt395=>(if t384=true then (if t388=true then ((laws_sameInts.f kj10 t383 t387).bind fun t397=>(if t397=true then (if bt393.1≤t391 then (if bt395.2=true then (some (bt395.1.toList == t379.toList)) else (some false)) else (some false)) else (some false))) else (some false)) else (some false))))=some r:=H
       have A16:=Aside0.mk A160
       clear A160
       replace H:=Option.bind_eq_some_iff.mp H
       obtain ⟨⟨t393,t394⟩,A170,H⟩:=H
       replace H:((impl_TermTidy.f t379).bind fun bt395=>(if t384=true then (if t388=true then ((laws_sameInts.f kj10 t383 t387).bind fun t397=>(if t397=true then (if t393≤t391 then (if bt395.2=true then (some (bt395.1.toList == t379.toList)) else (some false)) else (some false)) else (some false))) else (some false)) else (some false)))=some r:=H
       have A17:=Aside0.mk A170
       clear A170
       replace H:=Option.bind_eq_some_iff.mp H
       obtain ⟨⟨t395,t396⟩,A180,H⟩:=H
       replace H:(if t384=true then (if t388=true then ((laws_sameInts.f kj10 t383 t387).bind fun t397=>(if t397=true then (if t393≤t391 then (if t396=true then (some (t395.toList == t379.toList)) else (some false)) else (some false)) else (some false))) else (some false)) else (some false))=some r:=H
       have A18:=Aside0.mk A180
       clear A180
       by_cases c19:t384=true
       ·subst c19
        have H1:(if t388=true then ((laws_sameInts.f kj10 t383 t387).bind fun t397=>(if t397=true then (if t393≤t391 then (if t396=true then (some (t395.toList == t379.toList)) else (some false)) else (some false)) else (some false))) else (some false))=some r:=by rw [if_pos rfl] at H;exact H
        clear H
        have H:=H1
        clear H1
        by_cases c20:t388=true
        ·subst c20
         have H1:((laws_sameInts.f kj10 t383 t387).bind fun t397=>(if t397=true then (if t393≤t391 then (if t396=true then (some (t395.toList == t379.toList)) else (some false)) else (some false)) else (some false)))=some r:=by rw [if_pos rfl] at H;exact H
         clear H
         have H:=H1
         clear H1
         replace H:=Option.bind_eq_some_iff.mp H
         obtain ⟨t397,A210,H⟩:=H
         replace H:(if t397=true then (if t393≤t391 then (if t396=true then (some (t395.toList == t379.toList)) else (some false)) else (some false)) else (some false))=some r:=H
         have A21:=Aside0.mk A210
         clear A210
         by_cases c22:t397=true
         ·subst c22
          have H1:(if t393≤t391 then (if t396=true then (some (t395.toList == t379.toList)) else (some false)) else (some false))=some r:=by rw [if_pos rfl] at H;exact H
          clear H
          have H:=H1
          clear H1
          by_cases c23:t393≤t391
          ·rw [if_pos c23] at H
           have c23b0:decide (t393≤t391)=true:=decide_eq_true c23
           clear c23
           by_cases c24:t396=true
           ·subst c24
            have H1:(some (t395.toList == t379.toList))=some r:=by rw [if_pos rfl] at H;exact H
            clear H
            have H:=H1
            clear H1
            obtain rfl:=Option.some.inj H
            go_wp2_with (first|((with_reducible refine gate_callee (f:=15) rfl ?_);refine goesL_ (some 51) rfl rfl Try.func15 (by kernel_rfl) rfl #[.string t378,.int .i64 80] rfl (by (try simp only [List.map_toArray,List.map_cons,List.map_nil]);first|done|rfl|(simp only [List.length_drop,List.length_take];rfl)) ?_;(with_reducible refine (impl_TermList.calls t378 80 t383 true _ A14.out).mono ?_);rintro e w25 ⟨v385,rfl,ho0,hb⟩;refine ⟨_,rfl,?_⟩;have n0_:=Aside0.mk (Kd.R_lower ho0 (yQ (by repeat (first|(with_reducible first|exact HB.out|apply yA|apply yB|apply yC)|exact HB.out))));have n1_:=Aside0.mk (yP (by repeat (first|(with_reducible first|exact HB.out|apply yA|apply yB|apply yC)|exact HB.out)) hb);clear HB;have HO386:=n0_;have HB:=n1_;clear n0_ n1_;(try clear hb);(try clear hb2);(try clear hk);(try clear hi);(try clear ho0))|((with_reducible refine gate_callee (f:=15) rfl ?_);refine goesL_ (some 56) rfl rfl Try.func15 (by kernel_rfl) rfl #[.string t379,.int .i64 80] rfl (by (try simp only [List.map_toArray,List.map_cons,List.map_nil]);first|done|rfl|(simp only [List.length_drop,List.length_take];rfl)) ?_;(with_reducible refine (impl_TermList.calls t379 80 t387 true _ A15.out).mono ?_);rintro e w26 ⟨v389,rfl,ho0,hb⟩;refine ⟨_,rfl,?_⟩;have n0_:=Aside0.mk (Kd.R_elder' (by (with_reducible repeat (first|apply yH|apply yI|apply yJ));exact HO386.out) (Kd.R_base ho0) hb);have n1_:=Aside0.mk (Kd.R_lower (Kd.R_new' ho0 (Kd.R_lt (by (with_reducible repeat (first|apply yH|apply yI|apply yJ));exact HO386.out))) (yQ (by repeat (first|(with_reducible first|exact HB.out|apply yA|apply yB|apply yC)|exact HB.out))));have n2_:=Aside0.mk (yP (by repeat (first|(with_reducible first|exact HB.out|apply yA|apply yB|apply yC)|exact HB.out)) hb);clear HO386;clear HB;have HO386:=n0_;have HO390:=n1_;have HB:=n2_;clear n0_ n1_ n2_;(try clear hb);(try clear hb2);(try clear hk);(try clear hi);(try clear ho0))|((with_reducible refine gate_callee (f:=24) rfl ?_);refine goesL_ (some 61) rfl rfl Try.func24 (by kernel_rfl) rfl #[.string t378] rfl (by (try simp only [List.map_toArray,List.map_cons,List.map_nil]);first|done|rfl|(simp only [List.length_drop,List.length_take];rfl)) ?_;(with_reducible refine (impl_TermSize.calls t378 t391 t392 _ A16.out).mono ?_);rintro e w27 ⟨rfl,hb⟩;refine ⟨_,rfl,?_⟩;have n0_:=Aside0.mk (Kd.R_below (by (with_reducible repeat (first|apply yH|apply yI|apply yJ));exact HO386.out) hb);have n1_:=Aside0.mk (Kd.R_below (by (with_reducible repeat (first|apply yH|apply yI|apply yJ));exact HO390.out) hb);have n2_:=Aside0.mk (yP (by repeat (first|(with_reducible first|exact HB.out|apply yA|apply yB|apply yC)|exact HB.out)) hb);clear HO386;clear HO390;clear HB;have HO386:=n0_;have HO390:=n1_;have HB:=n2_;clear n0_ n1_ n2_;(try clear hb);(try clear hb2);(try clear hk);(try clear hi))|((with_reducible refine gate_callee (f:=24) rfl ?_);refine goesL_ (some 66) rfl rfl Try.func24 (by kernel_rfl) rfl #[.string t379] rfl (by (try simp only [List.map_toArray,List.map_cons,List.map_nil]);first|done|rfl|(simp only [List.length_drop,List.length_take];rfl)) ?_;(with_reducible refine (impl_TermSize.calls t379 t393 t394 _ A17.out).mono ?_);rintro e w28 ⟨rfl,hb⟩;refine ⟨_,rfl,?_⟩;have n0_:=Aside0.mk (Kd.R_below (by (with_reducible repeat (first|apply yH|apply yI|apply yJ));exact HO386.out) hb);have n1_:=Aside0.mk (Kd.R_below (by (with_reducible repeat (first|apply yH|apply yI|apply yJ));exact HO390.out) hb);have n2_:=Aside0.mk (yP (by repeat (first|(with_reducible first|exact HB.out|apply yA|apply yB|apply yC)|exact HB.out)) hb);clear HO386;clear HO390;clear HB;have HO386:=n0_;have HO390:=n1_;have HB:=n2_;clear n0_ n1_ n2_;(try clear hb);(try clear hb2);(try clear hk);(try clear hi))|((with_reducible refine gate_callee (f:=22) rfl ?_);refine goesL_ (some 71) rfl rfl Try.func22 (by kernel_rfl) rfl #[.string t379] rfl (by (try simp only [List.map_toArray,List.map_cons,List.map_nil]);first|done|rfl|(simp only [List.length_drop,List.length_take];rfl)) ?_;(with_reducible refine (impl_TermTidy.calls t379 t395 true _ A18.out).mono ?_);rintro e w29 ⟨rfl,hb⟩;refine ⟨_,rfl,?_⟩;have n0_:=Aside0.mk (Kd.R_below (by (with_reducible repeat (first|apply yH|apply yI|apply yJ));exact HO386.out) hb);have n1_:=Aside0.mk (Kd.R_below (by (with_reducible repeat (first|apply yH|apply yI|apply yJ));exact HO390.out) hb);have n2_:=Aside0.mk (yP (by repeat (first|(with_reducible first|exact HB.out|apply yA|apply yB|apply yC)|exact HB.out)) hb);clear HO386;clear HO390;clear HB;have HO386:=n0_;have HO390:=n1_;have HB:=n2_;clear n0_ n1_ n2_;(try clear hb);(try clear hb2);(try clear hk);(try clear hi);obtain ⟨Ao30,co30,eo30⟩:=Kd.R_slice HO386.out;subst eo30;obtain ⟨Ao31,co31,eo31⟩:=Kd.R_slice HO390.out;subst eo31)|(go_at_call 20;(with_reducible refine (laws_sameInts.calls kj10 _ _ t383 _ _ t387 true _ ?side1 ?side2 ?side3 ?side4 A21.out).mono ?_);(case side1=>repeat (first|exact (Kd.R_reads' HO386.out).2.2|(with_reducible refine Kd.C_alloc ?_ _)|(with_reducible refine Kd.C_drewN ?_ _)|(with_reducible refine Kd.C_drew ?_)));(case side2=>exact (Kd.R_reads' HO386.out).2.1);(case side3=>repeat (first|exact (Kd.R_reads' HO390.out).2.2|(with_reducible refine Kd.C_alloc ?_ _)|(with_reducible refine Kd.C_drewN ?_ _)|(with_reducible refine Kd.C_drew ?_)));(case side4=>exact (Kd.R_reads' HO390.out).2.1);rintro e w' ⟨rfl,⟨nd,rfl⟩⟩))
            go_ret
            exact ⟨by first|rfl|(simp [errW_none,errW_some]<;>rfl)|(simp [*,errW_none,errW_some]<;>rfl)|(simp [errW_none,errW_some];exact ⟨rfl,rfl⟩),by repeat (first|(with_reducible first|exact HB.out|apply yA|apply yB|apply yC)|exact HB.out)⟩
           ·replace c24:=Bool.eq_false_iff.mpr c24
            subst c24
            have H1:(some false)=some r:=by rw [if_neg (show ¬ (false=true) by decide)] at H;exact H
            clear H
            have H:=H1
            clear H1
            obtain rfl:=Option.some.inj H
            go_wp2_with (first|((with_reducible refine gate_callee (f:=15) rfl ?_);refine goesL_ (some 51) rfl rfl Try.func15 (by kernel_rfl) rfl #[.string t378,.int .i64 80] rfl (by (try simp only [List.map_toArray,List.map_cons,List.map_nil]);first|done|rfl|(simp only [List.length_drop,List.length_take];rfl)) ?_;(with_reducible refine (impl_TermList.calls t378 80 t383 true _ A14.out).mono ?_);rintro e w32 ⟨v385,rfl,ho0,hb⟩;refine ⟨_,rfl,?_⟩;have n0_:=Aside0.mk (Kd.R_lower ho0 (yQ (by repeat (first|(with_reducible first|exact HB.out|apply yA|apply yB|apply yC)|exact HB.out))));have n1_:=Aside0.mk (yP (by repeat (first|(with_reducible first|exact HB.out|apply yA|apply yB|apply yC)|exact HB.out)) hb);clear HB;have HO386:=n0_;have HB:=n1_;clear n0_ n1_;(try clear hb);(try clear hb2);(try clear hk);(try clear hi);(try clear ho0))|((with_reducible refine gate_callee (f:=15) rfl ?_);refine goesL_ (some 56) rfl rfl Try.func15 (by kernel_rfl) rfl #[.string t379,.int .i64 80] rfl (by (try simp only [List.map_toArray,List.map_cons,List.map_nil]);first|done|rfl|(simp only [List.length_drop,List.length_take];rfl)) ?_;(with_reducible refine (impl_TermList.calls t379 80 t387 true _ A15.out).mono ?_);rintro e w33 ⟨v389,rfl,ho0,hb⟩;refine ⟨_,rfl,?_⟩;have n0_:=Aside0.mk (Kd.R_elder' (by (with_reducible repeat (first|apply yH|apply yI|apply yJ));exact HO386.out) (Kd.R_base ho0) hb);have n1_:=Aside0.mk (Kd.R_lower (Kd.R_new' ho0 (Kd.R_lt (by (with_reducible repeat (first|apply yH|apply yI|apply yJ));exact HO386.out))) (yQ (by repeat (first|(with_reducible first|exact HB.out|apply yA|apply yB|apply yC)|exact HB.out))));have n2_:=Aside0.mk (yP (by repeat (first|(with_reducible first|exact HB.out|apply yA|apply yB|apply yC)|exact HB.out)) hb);clear HO386;clear HB;have HO386:=n0_;have HO390:=n1_;have HB:=n2_;clear n0_ n1_ n2_;(try clear hb);(try clear hb2);(try clear hk);(try clear hi);(try clear ho0))|((with_reducible refine gate_callee (f:=24) rfl ?_);refine goesL_ (some 61) rfl rfl Try.func24 (by kernel_rfl) rfl #[.string t378] rfl (by (try simp only [List.map_toArray,List.map_cons,List.map_nil]);first|done|rfl|(simp only [List.length_drop,List.length_take];rfl)) ?_;(with_reducible refine (impl_TermSize.calls t378 t391 t392 _ A16.out).mono ?_);rintro e w34 ⟨rfl,hb⟩;refine ⟨_,rfl,?_⟩;have n0_:=Aside0.mk (Kd.R_below (by (with_reducible repeat (first|apply yH|apply yI|apply yJ));exact HO386.out) hb);have n1_:=Aside0.mk (Kd.R_below (by (with_reducible repeat (first|apply yH|apply yI|apply yJ));exact HO390.out) hb);have n2_:=Aside0.mk (yP (by repeat (first|(with_reducible first|exact HB.out|apply yA|apply yB|apply yC)|exact HB.out)) hb);clear HO386;clear HO390;clear HB;have HO386:=n0_;have HO390:=n1_;have HB:=n2_;clear n0_ n1_ n2_;(try clear hb);(try clear hb2);(try clear hk);(try clear hi))|((with_reducible refine gate_callee (f:=24) rfl ?_);refine goesL_ (some 66) rfl rfl Try.func24 (by kernel_rfl) rfl #[.string t379] rfl (by (try simp only [List.map_toArray,List.map_cons,List.map_nil]);first|done|rfl|(simp only [List.length_drop,List.length_take];rfl)) ?_;(with_reducible refine (impl_TermSize.calls t379 t393 t394 _ A17.out).mono ?_);rintro e w35 ⟨rfl,hb⟩;refine ⟨_,rfl,?_⟩;have n0_:=Aside0.mk (Kd.R_below (by (with_reducible repeat (first|apply yH|apply yI|apply yJ));exact HO386.out) hb);have n1_:=Aside0.mk (Kd.R_below (by (with_reducible repeat (first|apply yH|apply yI|apply yJ));exact HO390.out) hb);have n2_:=Aside0.mk (yP (by repeat (first|(with_reducible first|exact HB.out|apply yA|apply yB|apply yC)|exact HB.out)) hb);clear HO386;clear HO390;clear HB;have HO386:=n0_;have HO390:=n1_;have HB:=n2_;clear n0_ n1_ n2_;(try clear hb);(try clear hb2);(try clear hk);(try clear hi))|((with_reducible refine gate_callee (f:=22) rfl ?_);refine goesL_ (some 71) rfl rfl Try.func22 (by kernel_rfl) rfl #[.string t379] rfl (by (try simp only [List.map_toArray,List.map_cons,List.map_nil]);first|done|rfl|(simp only [List.length_drop,List.length_take];rfl)) ?_;(with_reducible refine (impl_TermTidy.calls t379 t395 false _ A18.out).mono ?_);rintro e w36 ⟨rfl,hb⟩;refine ⟨_,rfl,?_⟩;have n0_:=Aside0.mk (Kd.R_below (by (with_reducible repeat (first|apply yH|apply yI|apply yJ));exact HO386.out) hb);have n1_:=Aside0.mk (Kd.R_below (by (with_reducible repeat (first|apply yH|apply yI|apply yJ));exact HO390.out) hb);have n2_:=Aside0.mk (yP (by repeat (first|(with_reducible first|exact HB.out|apply yA|apply yB|apply yC)|exact HB.out)) hb);clear HO386;clear HO390;clear HB;have HO386:=n0_;have HO390:=n1_;have HB:=n2_;clear n0_ n1_ n2_;(try clear hb);(try clear hb2);(try clear hk);(try clear hi);obtain ⟨Ao37,co37,eo37⟩:=Kd.R_slice HO386.out;subst eo37;obtain ⟨Ao38,co38,eo38⟩:=Kd.R_slice HO390.out;subst eo38)|(go_at_call 20;(with_reducible refine (laws_sameInts.calls kj10 _ _ t383 _ _ t387 true _ ?side1 ?side2 ?side3 ?side4 A21.out).mono ?_);(case side1=>repeat (first|exact (Kd.R_reads' HO386.out).2.2|(with_reducible refine Kd.C_alloc ?_ _)|(with_reducible refine Kd.C_drewN ?_ _)|(with_reducible refine Kd.C_drew ?_)));(case side2=>exact (Kd.R_reads' HO386.out).2.1);(case side3=>repeat (first|exact (Kd.R_reads' HO390.out).2.2|(with_reducible refine Kd.C_alloc ?_ _)|(with_reducible refine Kd.C_drewN ?_ _)|(with_reducible refine Kd.C_drew ?_)));(case side4=>exact (Kd.R_reads' HO390.out).2.1);rintro e w' ⟨rfl,⟨nd,rfl⟩⟩))
            go_ret
            exact ⟨by first|rfl|(simp [errW_none,errW_some]<;>rfl)|(simp [*,errW_none,errW_some]<;>rfl)|(simp [errW_none,errW_some];exact ⟨rfl,rfl⟩),by repeat (first|(with_reducible first|exact HB.out|apply yA|apply yB|apply yC)|exact HB.out)⟩
          ·rw [if_neg c23] at H
           have c23b0:decide (t393≤t391)=false:=decide_eq_false c23
           clear c23
           obtain rfl:=Option.some.inj H
           go_wp2_with (first|((with_reducible refine gate_callee (f:=15) rfl ?_);refine goesL_ (some 51) rfl rfl Try.func15 (by kernel_rfl) rfl #[.string t378,.int .i64 80] rfl (by (try simp only [List.map_toArray,List.map_cons,List.map_nil]);first|done|rfl|(simp only [List.length_drop,List.length_take];rfl)) ?_;(with_reducible refine (impl_TermList.calls t378 80 t383 true _ A14.out).mono ?_);rintro e w39 ⟨v385,rfl,ho0,hb⟩;refine ⟨_,rfl,?_⟩;have n0_:=Aside0.mk (Kd.R_lower ho0 (yQ (by repeat (first|(with_reducible first|exact HB.out|apply yA|apply yB|apply yC)|exact HB.out))));have n1_:=Aside0.mk (yP (by repeat (first|(with_reducible first|exact HB.out|apply yA|apply yB|apply yC)|exact HB.out)) hb);clear HB;have HO386:=n0_;have HB:=n1_;clear n0_ n1_;(try clear hb);(try clear hb2);(try clear hk);(try clear hi);(try clear ho0))|((with_reducible refine gate_callee (f:=15) rfl ?_);refine goesL_ (some 56) rfl rfl Try.func15 (by kernel_rfl) rfl #[.string t379,.int .i64 80] rfl (by (try simp only [List.map_toArray,List.map_cons,List.map_nil]);first|done|rfl|(simp only [List.length_drop,List.length_take];rfl)) ?_;(with_reducible refine (impl_TermList.calls t379 80 t387 true _ A15.out).mono ?_);rintro e w40 ⟨v389,rfl,ho0,hb⟩;refine ⟨_,rfl,?_⟩;have n0_:=Aside0.mk (Kd.R_elder' (by (with_reducible repeat (first|apply yH|apply yI|apply yJ));exact HO386.out) (Kd.R_base ho0) hb);have n1_:=Aside0.mk (Kd.R_lower (Kd.R_new' ho0 (Kd.R_lt (by (with_reducible repeat (first|apply yH|apply yI|apply yJ));exact HO386.out))) (yQ (by repeat (first|(with_reducible first|exact HB.out|apply yA|apply yB|apply yC)|exact HB.out))));have n2_:=Aside0.mk (yP (by repeat (first|(with_reducible first|exact HB.out|apply yA|apply yB|apply yC)|exact HB.out)) hb);clear HO386;clear HB;have HO386:=n0_;have HO390:=n1_;have HB:=n2_;clear n0_ n1_ n2_;(try clear hb);(try clear hb2);(try clear hk);(try clear hi);(try clear ho0))|((with_reducible refine gate_callee (f:=24) rfl ?_);refine goesL_ (some 61) rfl rfl Try.func24 (by kernel_rfl) rfl #[.string t378] rfl (by (try simp only [List.map_toArray,List.map_cons,List.map_nil]);first|done|rfl|(simp only [List.length_drop,List.length_take];rfl)) ?_;(with_reducible refine (impl_TermSize.calls t378 t391 t392 _ A16.out).mono ?_);rintro e w41 ⟨rfl,hb⟩;refine ⟨_,rfl,?_⟩;have n0_:=Aside0.mk (Kd.R_below (by (with_reducible repeat (first|apply yH|apply yI|apply yJ));exact HO386.out) hb);have n1_:=Aside0.mk (Kd.R_below (by (with_reducible repeat (first|apply yH|apply yI|apply yJ));exact HO390.out) hb);have n2_:=Aside0.mk (yP (by repeat (first|(with_reducible first|exact HB.out|apply yA|apply yB|apply yC)|exact HB.out)) hb);clear HO386;clear HO390;clear HB;have HO386:=n0_;have HO390:=n1_;have HB:=n2_;clear n0_ n1_ n2_;(try clear hb);(try clear hb2);(try clear hk);(try clear hi))|((with_reducible refine gate_callee (f:=24) rfl ?_);refine goesL_ (some 66) rfl rfl Try.func24 (by kernel_rfl) rfl #[.string t379] rfl (by (try simp only [List.map_toArray,List.map_cons,List.map_nil]);first|done|rfl|(simp only [List.length_drop,List.length_take];rfl)) ?_;(with_reducible refine (impl_TermSize.calls t379 t393 t394 _ A17.out).mono ?_);rintro e w42 ⟨rfl,hb⟩;refine ⟨_,rfl,?_⟩;have n0_:=Aside0.mk (Kd.R_below (by (with_reducible repeat (first|apply yH|apply yI|apply yJ));exact HO386.out) hb);have n1_:=Aside0.mk (Kd.R_below (by (with_reducible repeat (first|apply yH|apply yI|apply yJ));exact HO390.out) hb);have n2_:=Aside0.mk (yP (by repeat (first|(with_reducible first|exact HB.out|apply yA|apply yB|apply yC)|exact HB.out)) hb);clear HO386;clear HO390;clear HB;have HO386:=n0_;have HO390:=n1_;have HB:=n2_;clear n0_ n1_ n2_;(try clear hb);(try clear hb2);(try clear hk);(try clear hi))|((with_reducible refine gate_callee (f:=22) rfl ?_);refine goesL_ (some 71) rfl rfl Try.func22 (by kernel_rfl) rfl #[.string t379] rfl (by (try simp only [List.map_toArray,List.map_cons,List.map_nil]);first|done|rfl|(simp only [List.length_drop,List.length_take];rfl)) ?_;(with_reducible refine (impl_TermTidy.calls t379 t395 t396 _ A18.out).mono ?_);rintro e w43 ⟨rfl,hb⟩;refine ⟨_,rfl,?_⟩;have n0_:=Aside0.mk (Kd.R_below (by (with_reducible repeat (first|apply yH|apply yI|apply yJ));exact HO386.out) hb);have n1_:=Aside0.mk (Kd.R_below (by (with_reducible repeat (first|apply yH|apply yI|apply yJ));exact HO390.out) hb);have n2_:=Aside0.mk (yP (by repeat (first|(with_reducible first|exact HB.out|apply yA|apply yB|apply yC)|exact HB.out)) hb);clear HO386;clear HO390;clear HB;have HO386:=n0_;have HO390:=n1_;have HB:=n2_;clear n0_ n1_ n2_;(try clear hb);(try clear hb2);(try clear hk);(try clear hi);obtain ⟨Ao44,co44,eo44⟩:=Kd.R_slice HO386.out;subst eo44;obtain ⟨Ao45,co45,eo45⟩:=Kd.R_slice HO390.out;subst eo45)|(go_at_call 20;(with_reducible refine (laws_sameInts.calls kj10 _ _ t383 _ _ t387 true _ ?side1 ?side2 ?side3 ?side4 A21.out).mono ?_);(case side1=>repeat (first|exact (Kd.R_reads' HO386.out).2.2|(with_reducible refine Kd.C_alloc ?_ _)|(with_reducible refine Kd.C_drewN ?_ _)|(with_reducible refine Kd.C_drew ?_)));(case side2=>exact (Kd.R_reads' HO386.out).2.1);(case side3=>repeat (first|exact (Kd.R_reads' HO390.out).2.2|(with_reducible refine Kd.C_alloc ?_ _)|(with_reducible refine Kd.C_drewN ?_ _)|(with_reducible refine Kd.C_drew ?_)));(case side4=>exact (Kd.R_reads' HO390.out).2.1);rintro e w' ⟨rfl,⟨nd,rfl⟩⟩))
           go_ret
           exact ⟨by first|rfl|(simp [errW_none,errW_some]<;>rfl)|(simp [*,errW_none,errW_some]<;>rfl)|(simp [errW_none,errW_some];exact ⟨rfl,rfl⟩),by repeat (first|(with_reducible first|exact HB.out|apply yA|apply yB|apply yC)|exact HB.out)⟩
         ·replace c22:=Bool.eq_false_iff.mpr c22
          subst c22
          have H1:(some false)=some r:=by rw [if_neg (show ¬ (false=true) by decide)] at H;exact H
          clear H
          have H:=H1
          clear H1
          obtain rfl:=Option.some.inj H
          go_wp2_with (first|((with_reducible refine gate_callee (f:=15) rfl ?_);refine goesL_ (some 51) rfl rfl Try.func15 (by kernel_rfl) rfl #[.string t378,.int .i64 80] rfl (by (try simp only [List.map_toArray,List.map_cons,List.map_nil]);first|done|rfl|(simp only [List.length_drop,List.length_take];rfl)) ?_;(with_reducible refine (impl_TermList.calls t378 80 t383 true _ A14.out).mono ?_);rintro e w46 ⟨v385,rfl,ho0,hb⟩;refine ⟨_,rfl,?_⟩;have n0_:=Aside0.mk (Kd.R_lower ho0 (yQ (by repeat (first|(with_reducible first|exact HB.out|apply yA|apply yB|apply yC)|exact HB.out))));have n1_:=Aside0.mk (yP (by repeat (first|(with_reducible first|exact HB.out|apply yA|apply yB|apply yC)|exact HB.out)) hb);clear HB;have HO386:=n0_;have HB:=n1_;clear n0_ n1_;(try clear hb);(try clear hb2);(try clear hk);(try clear hi);(try clear ho0))|((with_reducible refine gate_callee (f:=15) rfl ?_);refine goesL_ (some 56) rfl rfl Try.func15 (by kernel_rfl) rfl #[.string t379,.int .i64 80] rfl (by (try simp only [List.map_toArray,List.map_cons,List.map_nil]);first|done|rfl|(simp only [List.length_drop,List.length_take];rfl)) ?_;(with_reducible refine (impl_TermList.calls t379 80 t387 true _ A15.out).mono ?_);rintro e w47 ⟨v389,rfl,ho0,hb⟩;refine ⟨_,rfl,?_⟩;have n0_:=Aside0.mk (Kd.R_elder' (by (with_reducible repeat (first|apply yH|apply yI|apply yJ));exact HO386.out) (Kd.R_base ho0) hb);have n1_:=Aside0.mk (Kd.R_lower (Kd.R_new' ho0 (Kd.R_lt (by (with_reducible repeat (first|apply yH|apply yI|apply yJ));exact HO386.out))) (yQ (by repeat (first|(with_reducible first|exact HB.out|apply yA|apply yB|apply yC)|exact HB.out))));have n2_:=Aside0.mk (yP (by repeat (first|(with_reducible first|exact HB.out|apply yA|apply yB|apply yC)|exact HB.out)) hb);clear HO386;clear HB;have HO386:=n0_;have HO390:=n1_;have HB:=n2_;clear n0_ n1_ n2_;(try clear hb);(try clear hb2);(try clear hk);(try clear hi);(try clear ho0))|((with_reducible refine gate_callee (f:=24) rfl ?_);refine goesL_ (some 61) rfl rfl Try.func24 (by kernel_rfl) rfl #[.string t378] rfl (by (try simp only [List.map_toArray,List.map_cons,List.map_nil]);first|done|rfl|(simp only [List.length_drop,List.length_take];rfl)) ?_;(with_reducible refine (impl_TermSize.calls t378 t391 t392 _ A16.out).mono ?_);rintro e w48 ⟨rfl,hb⟩;refine ⟨_,rfl,?_⟩;have n0_:=Aside0.mk (Kd.R_below (by (with_reducible repeat (first|apply yH|apply yI|apply yJ));exact HO386.out) hb);have n1_:=Aside0.mk (Kd.R_below (by (with_reducible repeat (first|apply yH|apply yI|apply yJ));exact HO390.out) hb);have n2_:=Aside0.mk (yP (by repeat (first|(with_reducible first|exact HB.out|apply yA|apply yB|apply yC)|exact HB.out)) hb);clear HO386;clear HO390;clear HB;have HO386:=n0_;have HO390:=n1_;have HB:=n2_;clear n0_ n1_ n2_;(try clear hb);(try clear hb2);(try clear hk);(try clear hi))|((with_reducible refine gate_callee (f:=24) rfl ?_);refine goesL_ (some 66) rfl rfl Try.func24 (by kernel_rfl) rfl #[.string t379] rfl (by (try simp only [List.map_toArray,List.map_cons,List.map_nil]);first|done|rfl|(simp only [List.length_drop,List.length_take];rfl)) ?_;(with_reducible refine (impl_TermSize.calls t379 t393 t394 _ A17.out).mono ?_);rintro e w49 ⟨rfl,hb⟩;refine ⟨_,rfl,?_⟩;have n0_:=Aside0.mk (Kd.R_below (by (with_reducible repeat (first|apply yH|apply yI|apply yJ));exact HO386.out) hb);have n1_:=Aside0.mk (Kd.R_below (by (with_reducible repeat (first|apply yH|apply yI|apply yJ));exact HO390.out) hb);have n2_:=Aside0.mk (yP (by repeat (first|(with_reducible first|exact HB.out|apply yA|apply yB|apply yC)|exact HB.out)) hb);clear HO386;clear HO390;clear HB;have HO386:=n0_;have HO390:=n1_;have HB:=n2_;clear n0_ n1_ n2_;(try clear hb);(try clear hb2);(try clear hk);(try clear hi))|((with_reducible refine gate_callee (f:=22) rfl ?_);refine goesL_ (some 71) rfl rfl Try.func22 (by kernel_rfl) rfl #[.string t379] rfl (by (try simp only [List.map_toArray,List.map_cons,List.map_nil]);first|done|rfl|(simp only [List.length_drop,List.length_take];rfl)) ?_;(with_reducible refine (impl_TermTidy.calls t379 t395 t396 _ A18.out).mono ?_);rintro e w50 ⟨rfl,hb⟩;refine ⟨_,rfl,?_⟩;have n0_:=Aside0.mk (Kd.R_below (by (with_reducible repeat (first|apply yH|apply yI|apply yJ));exact HO386.out) hb);have n1_:=Aside0.mk (Kd.R_below (by (with_reducible repeat (first|apply yH|apply yI|apply yJ));exact HO390.out) hb);have n2_:=Aside0.mk (yP (by repeat (first|(with_reducible first|exact HB.out|apply yA|apply yB|apply yC)|exact HB.out)) hb);clear HO386;clear HO390;clear HB;have HO386:=n0_;have HO390:=n1_;have HB:=n2_;clear n0_ n1_ n2_;(try clear hb);(try clear hb2);(try clear hk);(try clear hi);obtain ⟨Ao51,co51,eo51⟩:=Kd.R_slice HO386.out;subst eo51;obtain ⟨Ao52,co52,eo52⟩:=Kd.R_slice HO390.out;subst eo52)|(go_at_call 20;(with_reducible refine (laws_sameInts.calls kj10 _ _ t383 _ _ t387 false _ ?side1 ?side2 ?side3 ?side4 A21.out).mono ?_);(case side1=>repeat (first|exact (Kd.R_reads' HO386.out).2.2|(with_reducible refine Kd.C_alloc ?_ _)|(with_reducible refine Kd.C_drewN ?_ _)|(with_reducible refine Kd.C_drew ?_)));(case side2=>exact (Kd.R_reads' HO386.out).2.1);(case side3=>repeat (first|exact (Kd.R_reads' HO390.out).2.2|(with_reducible refine Kd.C_alloc ?_ _)|(with_reducible refine Kd.C_drewN ?_ _)|(with_reducible refine Kd.C_drew ?_)));(case side4=>exact (Kd.R_reads' HO390.out).2.1);rintro e w' ⟨rfl,⟨nd,rfl⟩⟩))
          go_ret
          exact ⟨by first|rfl|(simp [errW_none,errW_some]<;>rfl)|(simp [*,errW_none,errW_some]<;>rfl)|(simp [errW_none,errW_some];exact ⟨rfl,rfl⟩),by repeat (first|(with_reducible first|exact HB.out|apply yA|apply yB|apply yC)|exact HB.out)⟩
        ·replace c20:=Bool.eq_false_iff.mpr c20
         subst c20
         have H1:(some false)=some r:=by rw [if_neg (show ¬ (false=true) by decide)] at H;exact H
         clear H
         have H:=H1
         clear H1
         obtain rfl:=Option.some.inj H
         go_wp2_with (first|((with_reducible refine gate_callee (f:=15) rfl ?_);refine goesL_ (some 51) rfl rfl Try.func15 (by kernel_rfl) rfl #[.string t378,.int .i64 80] rfl (by (try simp only [List.map_toArray,List.map_cons,List.map_nil]);first|done|rfl|(simp only [List.length_drop,List.length_take];rfl)) ?_;(with_reducible refine (impl_TermList.calls t378 80 t383 true _ A14.out).mono ?_);rintro e w53 ⟨v385,rfl,ho0,hb⟩;refine ⟨_,rfl,?_⟩;have n0_:=Aside0.mk (Kd.R_lower ho0 (yQ (by repeat (first|(with_reducible first|exact HB.out|apply yA|apply yB|apply yC)|exact HB.out))));have n1_:=Aside0.mk (yP (by repeat (first|(with_reducible first|exact HB.out|apply yA|apply yB|apply yC)|exact HB.out)) hb);clear HB;have HO386:=n0_;have HB:=n1_;clear n0_ n1_;(try clear hb);(try clear hb2);(try clear hk);(try clear hi);(try clear ho0))|((with_reducible refine gate_callee (f:=15) rfl ?_);refine goesL_ (some 56) rfl rfl Try.func15 (by kernel_rfl) rfl #[.string t379,.int .i64 80] rfl (by (try simp only [List.map_toArray,List.map_cons,List.map_nil]);first|done|rfl|(simp only [List.length_drop,List.length_take];rfl)) ?_;(with_reducible refine (impl_TermList.calls t379 80 t387 false _ A15.out).mono ?_);rintro e w54 ⟨v389,rfl,ho0,hb⟩;refine ⟨_,rfl,?_⟩;have n0_:=Aside0.mk (Kd.R_elder' (by (with_reducible repeat (first|apply yH|apply yI|apply yJ));exact HO386.out) (Kd.R_base ho0) hb);have n1_:=Aside0.mk (Kd.R_lower (Kd.R_new' ho0 (Kd.R_lt (by (with_reducible repeat (first|apply yH|apply yI|apply yJ));exact HO386.out))) (yQ (by repeat (first|(with_reducible first|exact HB.out|apply yA|apply yB|apply yC)|exact HB.out))));have n2_:=Aside0.mk (yP (by repeat (first|(with_reducible first|exact HB.out|apply yA|apply yB|apply yC)|exact HB.out)) hb);clear HO386;clear HB;have HO386:=n0_;have HO390:=n1_;have HB:=n2_;clear n0_ n1_ n2_;(try clear hb);(try clear hb2);(try clear hk);(try clear hi);(try clear ho0))|((with_reducible refine gate_callee (f:=24) rfl ?_);refine goesL_ (some 61) rfl rfl Try.func24 (by kernel_rfl) rfl #[.string t378] rfl (by (try simp only [List.map_toArray,List.map_cons,List.map_nil]);first|done|rfl|(simp only [List.length_drop,List.length_take];rfl)) ?_;(with_reducible refine (impl_TermSize.calls t378 t391 t392 _ A16.out).mono ?_);rintro e w55 ⟨rfl,hb⟩;refine ⟨_,rfl,?_⟩;have n0_:=Aside0.mk (Kd.R_below (by (with_reducible repeat (first|apply yH|apply yI|apply yJ));exact HO386.out) hb);have n1_:=Aside0.mk (Kd.R_below (by (with_reducible repeat (first|apply yH|apply yI|apply yJ));exact HO390.out) hb);have n2_:=Aside0.mk (yP (by repeat (first|(with_reducible first|exact HB.out|apply yA|apply yB|apply yC)|exact HB.out)) hb);clear HO386;clear HO390;clear HB;have HO386:=n0_;have HO390:=n1_;have HB:=n2_;clear n0_ n1_ n2_;(try clear hb);(try clear hb2);(try clear hk);(try clear hi))|((with_reducible refine gate_callee (f:=24) rfl ?_);refine goesL_ (some 66) rfl rfl Try.func24 (by kernel_rfl) rfl #[.string t379] rfl (by (try simp only [List.map_toArray,List.map_cons,List.map_nil]);first|done|rfl|(simp only [List.length_drop,List.length_take];rfl)) ?_;(with_reducible refine (impl_TermSize.calls t379 t393 t394 _ A17.out).mono ?_);rintro e w56 ⟨rfl,hb⟩;refine ⟨_,rfl,?_⟩;have n0_:=Aside0.mk (Kd.R_below (by (with_reducible repeat (first|apply yH|apply yI|apply yJ));exact HO386.out) hb);have n1_:=Aside0.mk (Kd.R_below (by (with_reducible repeat (first|apply yH|apply yI|apply yJ));exact HO390.out) hb);have n2_:=Aside0.mk (yP (by repeat (first|(with_reducible first|exact HB.out|apply yA|apply yB|apply yC)|exact HB.out)) hb);clear HO386;clear HO390;clear HB;have HO386:=n0_;have HO390:=n1_;have HB:=n2_;clear n0_ n1_ n2_;(try clear hb);(try clear hb2);(try clear hk);(try clear hi))|((with_reducible refine gate_callee (f:=22) rfl ?_);refine goesL_ (some 71) rfl rfl Try.func22 (by kernel_rfl) rfl #[.string t379] rfl (by (try simp only [List.map_toArray,List.map_cons,List.map_nil]);first|done|rfl|(simp only [List.length_drop,List.length_take];rfl)) ?_;(with_reducible refine (impl_TermTidy.calls t379 t395 t396 _ A18.out).mono ?_);rintro e w57 ⟨rfl,hb⟩;refine ⟨_,rfl,?_⟩;have n0_:=Aside0.mk (Kd.R_below (by (with_reducible repeat (first|apply yH|apply yI|apply yJ));exact HO386.out) hb);have n1_:=Aside0.mk (Kd.R_below (by (with_reducible repeat (first|apply yH|apply yI|apply yJ));exact HO390.out) hb);have n2_:=Aside0.mk (yP (by repeat (first|(with_reducible first|exact HB.out|apply yA|apply yB|apply yC)|exact HB.out)) hb);clear HO386;clear HO390;clear HB;have HO386:=n0_;have HO390:=n1_;have HB:=n2_;clear n0_ n1_ n2_;(try clear hb);(try clear hb2);(try clear hk);(try clear hi)))
         go_ret
         exact ⟨by first|rfl|(simp [errW_none,errW_some]<;>rfl)|(simp [*,errW_none,errW_some]<;>rfl)|(simp [errW_none,errW_some];exact ⟨rfl,rfl⟩),by repeat (first|(with_reducible first|exact HB.out|apply yA|apply yB|apply yC)|exact HB.out)⟩
       ·replace c19:=Bool.eq_false_iff.mpr c19
        subst c19
        have H1:(some false)=some r:=by rw [if_neg (show ¬ (false=true) by decide)] at H;exact H
        clear H
        have H:=H1
        clear H1
        obtain rfl:=Option.some.inj H
        go_wp2_with (first|((with_reducible refine gate_callee (f:=15) rfl ?_);refine goesL_ (some 51) rfl rfl Try.func15 (by kernel_rfl) rfl #[.string t378,.int .i64 80] rfl (by (try simp only [List.map_toArray,List.map_cons,List.map_nil]);first|done|rfl|(simp only [List.length_drop,List.length_take];rfl)) ?_;(with_reducible refine (impl_TermList.calls t378 80 t383 false _ A14.out).mono ?_);rintro e w58 ⟨v385,rfl,ho0,hb⟩;refine ⟨_,rfl,?_⟩;have n0_:=Aside0.mk (Kd.R_lower ho0 (yQ (by repeat (first|(with_reducible first|exact HB.out|apply yA|apply yB|apply yC)|exact HB.out))));have n1_:=Aside0.mk (yP (by repeat (first|(with_reducible first|exact HB.out|apply yA|apply yB|apply yC)|exact HB.out)) hb);clear HB;have HO386:=n0_;have HB:=n1_;clear n0_ n1_;(try clear hb);(try clear hb2);(try clear hk);(try clear hi);(try clear ho0))|((with_reducible refine gate_callee (f:=15) rfl ?_);refine goesL_ (some 56) rfl rfl Try.func15 (by kernel_rfl) rfl #[.string t379,.int .i64 80] rfl (by (try simp only [List.map_toArray,List.map_cons,List.map_nil]);first|done|rfl|(simp only [List.length_drop,List.length_take];rfl)) ?_;(with_reducible refine (impl_TermList.calls t379 80 t387 t388 _ A15.out).mono ?_);rintro e w59 ⟨v389,rfl,ho0,hb⟩;refine ⟨_,rfl,?_⟩;have n0_:=Aside0.mk (Kd.R_elder' (by (with_reducible repeat (first|apply yH|apply yI|apply yJ));exact HO386.out) (Kd.R_base ho0) hb);have n1_:=Aside0.mk (Kd.R_lower (Kd.R_new' ho0 (Kd.R_lt (by (with_reducible repeat (first|apply yH|apply yI|apply yJ));exact HO386.out))) (yQ (by repeat (first|(with_reducible first|exact HB.out|apply yA|apply yB|apply yC)|exact HB.out))));have n2_:=Aside0.mk (yP (by repeat (first|(with_reducible first|exact HB.out|apply yA|apply yB|apply yC)|exact HB.out)) hb);clear HO386;clear HB;have HO386:=n0_;have HO390:=n1_;have HB:=n2_;clear n0_ n1_ n2_;(try clear hb);(try clear hb2);(try clear hk);(try clear hi);(try clear ho0))|((with_reducible refine gate_callee (f:=24) rfl ?_);refine goesL_ (some 61) rfl rfl Try.func24 (by kernel_rfl) rfl #[.string t378] rfl (by (try simp only [List.map_toArray,List.map_cons,List.map_nil]);first|done|rfl|(simp only [List.length_drop,List.length_take];rfl)) ?_;(with_reducible refine (impl_TermSize.calls t378 t391 t392 _ A16.out).mono ?_);rintro e w60 ⟨rfl,hb⟩;refine ⟨_,rfl,?_⟩;have n0_:=Aside0.mk (Kd.R_below (by (with_reducible repeat (first|apply yH|apply yI|apply yJ));exact HO386.out) hb);have n1_:=Aside0.mk (Kd.R_below (by (with_reducible repeat (first|apply yH|apply yI|apply yJ));exact HO390.out) hb);have n2_:=Aside0.mk (yP (by repeat (first|(with_reducible first|exact HB.out|apply yA|apply yB|apply yC)|exact HB.out)) hb);clear HO386;clear HO390;clear HB;have HO386:=n0_;have HO390:=n1_;have HB:=n2_;clear n0_ n1_ n2_;(try clear hb);(try clear hb2);(try clear hk);(try clear hi))|((with_reducible refine gate_callee (f:=24) rfl ?_);refine goesL_ (some 66) rfl rfl Try.func24 (by kernel_rfl) rfl #[.string t379] rfl (by (try simp only [List.map_toArray,List.map_cons,List.map_nil]);first|done|rfl|(simp only [List.length_drop,List.length_take];rfl)) ?_;(with_reducible refine (impl_TermSize.calls t379 t393 t394 _ A17.out).mono ?_);rintro e w61 ⟨rfl,hb⟩;refine ⟨_,rfl,?_⟩;have n0_:=Aside0.mk (Kd.R_below (by (with_reducible repeat (first|apply yH|apply yI|apply yJ));exact HO386.out) hb);have n1_:=Aside0.mk (Kd.R_below (by (with_reducible repeat (first|apply yH|apply yI|apply yJ));exact HO390.out) hb);have n2_:=Aside0.mk (yP (by repeat (first|(with_reducible first|exact HB.out|apply yA|apply yB|apply yC)|exact HB.out)) hb);clear HO386;clear HO390;clear HB;have HO386:=n0_;have HO390:=n1_;have HB:=n2_;clear n0_ n1_ n2_;(try clear hb);(try clear hb2);(try clear hk);(try clear hi))|((with_reducible refine gate_callee (f:=22) rfl ?_);refine goesL_ (some 71) rfl rfl Try.func22 (by kernel_rfl) rfl #[.string t379] rfl (by (try simp only [List.map_toArray,List.map_cons,List.map_nil]);first|done|rfl|(simp only [List.length_drop,List.length_take];rfl)) ?_;(with_reducible refine (impl_TermTidy.calls t379 t395 t396 _ A18.out).mono ?_);rintro e w62 ⟨rfl,hb⟩;refine ⟨_,rfl,?_⟩;have n0_:=Aside0.mk (Kd.R_below (by (with_reducible repeat (first|apply yH|apply yI|apply yJ));exact HO386.out) hb);have n1_:=Aside0.mk (Kd.R_below (by (with_reducible repeat (first|apply yH|apply yI|apply yJ));exact HO390.out) hb);have n2_:=Aside0.mk (yP (by repeat (first|(with_reducible first|exact HB.out|apply yA|apply yB|apply yC)|exact HB.out)) hb);clear HO386;clear HO390;clear HB;have HO386:=n0_;have HO390:=n1_;have HB:=n2_;clear n0_ n1_ n2_;(try clear hb);(try clear hb2);(try clear hk);(try clear hi)))
        go_ret
        exact ⟨by first|rfl|(simp [errW_none,errW_some]<;>rfl)|(simp [*,errW_none,errW_some]<;>rfl)|(simp [errW_none,errW_some];exact ⟨rfl,rfl⟩),by repeat (first|(with_reducible first|exact HB.out|apply yA|apply yB|apply yC)|exact HB.out)⟩

/-- THE ONE PURE STATEMENT of laws_FnTermTidy: yours. -/
noncomputable def laws_FnTermTidy.Pure:Prop:=∀ (l0:List Int),l0.length≤maxLen→l0.length * 1≤140737488351232→(∀ x ∈ l0,(Lit.int .u8 x).wf=true)→∃ k,laws_FnTermTidy.f k l0=some true
theorem laws_FnTermTidy.walk (P:laws_FnTermTidy.Pure) (a0:Option Addr) (len0 cap0:Nat) (z0:List Int) (w:World) (w0:(a0=none∧len0=0∧cap0=0∧z0=[]) ∨ ∃ x,a0=some x∧len0≤cap0∧cap0≤maxLen∧z0.length=cap0∧(∀ i,i<z0.length→w.cell? (x.add i)=some (.int .u8 (z0.getD i 0)))∧∀ n ∈ z0,(Lit.int .u8 n).wf=true) (y0:len0 * 1≤140737488351232) :
  Calls Try.prog 7 #[.slice a0 len0 cap0] w fun e w'=>e=.returned (.bool true)∧Below w.heap.size w w':=by
 obtain ⟨l0,rfl,hr0,hm0,hw0,hc0⟩:=ReadsInt.ofRowC w0
 obtain ⟨k,h⟩:=P l0 hm0 y0 hw0
 refine (laws_FnTermTidy.calls k _ _ l0 true w (Kd.C_of_reads (d:=(0:Int)) (h1:=fun _=>rfl) hr0) hc0 h).mono ?_
 rintro e w' ⟨rfl,hd⟩
 exact ⟨rfl,hd⟩

end Go.Proofs.Ytjjnckgdpdelkaa.P

-- A tidy term tells what the term tells, is tidy, and is no longer.
namespace Go.Proofs.Ytjjnckgdpdelkaa.P
open Go.RowKit Go.Proofs.YtjjnckgdpdelkaaW.PrintWords Go.Proofs.YtjjnckgdpdelkaaW.PrintLast Go.Proofs.YtjjnckgdpdelkaaW.PrintMore
set_option linter.unusedVariables false
set_option linter.unusedSimpArgs false

theorem lone_leaf {x : Tm} {c : UInt8} (h : lone x (c.toNat : Int) = true) : x = .leaf c := by
  unfold lone at h
  simp only [Bool.and_eq_true, decide_eq_true_eq, beq_iff_eq] at h
  obtain ⟨h1, h2⟩ := h
  cases x with
  | leaf d =>
    have : d.toNat = c.toNat := by simp only [Tm.sg] at h2; omega
    rw [UInt8.toNat_inj.1 this]
  | one d t => simp [Tm.kd] at h1
  | two d t u => simp [Tm.kd] at h1
theorem lone48 {x : Tm} (h : lone x 48 = true) : x = .leaf 48 := lone_leaf (c := 48) h
theorem lone49 {x : Tm} (h : lone x 49 = true) : x = .leaf 49 := lone_leaf (c := 49) h
theorem c_eq {c : UInt8} {d : UInt8} (h : ((c.toNat : Int) == (d.toNat : Int)) = true) : c = d := by
  rw [beq_iff_eq] at h
  exact UInt8.toNat_inj.1 (by omega)
theorem c_ne {c : UInt8} {d : UInt8} (h : ((c.toNat : Int) == (d.toNat : Int)) = false) : c ≠ d := by
  rintro rfl
  rw [beq_self_eq_true] at h; cases h
theorem sem48 : tsem (.leaf 48) = fun _ => false := by funext n; simp [tsem]
theorem sem49 : tsem (.leaf 49) = fun n => decide (n = 0) := by funext n; simp [tsem]
theorem sem_star (t : Tm) : tsem (.one 42 t) = stq (tsem t) := by
  show (if (42 : UInt8) = 42 then stq (tsem t) else mulq (tsem t) ((42 : UInt8).toNat - 48)) = _
  exact if_pos rfl
theorem sem_many {c : UInt8} (h : c ≠ 42) (t : Tm) : tsem (.one c t) = mulq (tsem t) (c.toNat - 48) := by
  show (if c = 42 then stq (tsem t) else mulq (tsem t) (c.toNat - 48)) = _
  exact if_neg h
theorem sumq_none (f : Nat → Bool) : sumq f (fun _ => false) = fun _ => false := by
  funext n
  rw [Bool.eq_false_iff]
  intro h
  obtain ⟨i, j, _, _, h3⟩ := sumq_iff.1 h
  cases h3
theorem mulq_none : ∀ {k : Nat}, 0 < k → mulq (fun _ => false) k = fun _ => false
  | k + 1, _ => sumq_none _
theorem mulq_zero : ∀ k : Nat, mulq (fun n => decide (n = 0)) k = fun n => decide (n = 0)
  | 0 => rfl
  | k + 1 => by
    show sumq (mulq (fun n => decide (n = 0)) k) (fun n => decide (n = 0)) = _
    rw [mulq_zero k, sumq_zero]
theorem one_sg {x : Tm} (h : x.ok) (hs : x.sg = 42) : ∃ y, x = .one 42 y := by
  cases x with
  | leaf c =>
    simp only [Tm.sg] at hs
    subst hs
    exact absurd (show isL 42 = true from h) (by decide)
  | one c t => simp only [Tm.sg] at hs; subst hs; exact ⟨t, rfl⟩
  | two c t u =>
    simp only [Tm.sg] at hs
    subst hs
    exact absurd h.1 (by decide)
theorem one1_sem {c : UInt8} (hc : isO c = true) {x : Tm} (hx : x.ok) : tsem (one1 c x) = tsem (.one c x) := by
  unfold one1
  split
  · rename_i h
    rw [Bool.and_eq_true, Bool.or_eq_true] at h
    obtain rfl := c_eq (d := 42) h.1
    rw [sem_star, sem49]
    rcases h.2 with h2 | h2
    · rw [lone48 h2, sem48, stq_none (fun k _ => rfl)]
    · rw [lone49 h2, sem49, stq_none (fun k hk => decide_eq_false (by omega))]
  · split
    · rename_i h0 h
      rw [Bool.or_eq_true, Bool.and_eq_true, Bool.or_eq_true] at h
      rcases h with h | h
      · obtain rfl := c_eq (d := 42) h.1
        obtain ⟨y, rfl⟩ := one_sg hx (c_eq (d := 42) h.2)
        rw [sem_star, sem_star, sem_star, stq_idem]
      · have hne : c ≠ 42 := by
          rintro rfl
          exact h0 (by rw [Bool.and_eq_true, Bool.or_eq_true]; exact ⟨rfl, h⟩)
        have h50 : 50 ≤ c.toNat := by
          rcases isO_cases hc with rfl | h9
          · exact absurd rfl hne
          · exact h9.2.1
        rw [sem_many hne]
        rcases h with h2 | h2
        · rw [lone48 h2, sem48, mulq_none (by omega)]
        · rw [lone49 h2, sem49, mulq_zero]
    · rfl
theorem txt_inj {x y : Tm} (hx : x.ok) (hy : y.ok) (h : x.txt = y.txt) : x = y := by
  have h1 := prs_txt x x.txt.length [] hx (Nat.le_refl _)
  have h2 := prs_txt y x.txt.length [] hy (by rw [h]; exact Nat.le_refl _)
  rw [List.append_nil] at h1 h2
  rw [← h, h1] at h2
  simp only [Option.some.injEq, Prod.mk.injEq] at h2
  exact h2.1
theorem two1_sem {c : UInt8} (hc : isT c = true) {x y : Tm} (hx : x.ok) (hy : y.ok) : tsem (two1 c x y) = tsem (.two c x y) := by
  unfold two1
  have e43 : ∀ a b, tsem (.two 43 a b) = fun n => tsem a n || tsem b n := fun a b => rfl
  have e46 : ∀ a b, tsem (.two 46 a b) = sumq (tsem a) (tsem b) := fun a b => rfl
  have e38 : ∀ a b, tsem (.two 38 a b) = fun n => tsem a n && tsem b n := fun a b => rfl
  split
  · rename_i h
    rw [Bool.or_eq_true, Bool.and_eq_true, Bool.and_eq_true] at h
    rcases h with ⟨h1, h2⟩ | ⟨h1, h2⟩
    · obtain rfl := c_eq (d := 43) h2
      rw [e43, lone48 h1, sem48]
      funext n; simp
    · obtain rfl := c_eq (d := 46) h2
      rw [e46, lone49 h1, sem49, sumq_zero]
  · rename_i h0
    split
    · rename_i h
      rw [Bool.or_eq_true, Bool.and_eq_true, Bool.and_eq_true] at h
      rcases h with ⟨h1, h2⟩ | ⟨h1, h2⟩
      · obtain rfl := c_eq (d := 43) h2
        rw [e43, lone48 h1, sem48]
        funext n; simp
      · obtain rfl := c_eq (d := 46) h2
        rw [e46, lone49 h1, sem49, sumq_comm, sumq_zero]
    · rename_i h1
      split
      · rename_i h
        rw [Bool.or_eq_true] at h
        rcases isT_cases hc with rfl | rfl | rfl
        · exfalso
          rcases h with h | h
          · exact h0 (by rw [h]; rfl)
          · exact h1 (by rw [h]; rfl)
        · rw [e46, sem48]
          rcases h with h | h
          · rw [lone48 h, sem48, sumq_comm, sumq_none]
          · rw [lone48 h, sem48, sumq_none]
        · rw [e38, sem48]
          rcases h with h | h
          · rw [lone48 h, sem48]; funext n; simp
          · rw [lone48 h, sem48]; funext n; simp
      · split
        · rename_i h
          rw [Bool.and_eq_true, decide_eq_true_eq] at h
          obtain rfl := txt_inj hx hy h.2
          rcases isT_cases hc with rfl | rfl | rfl
          · rw [e43]; funext n; simp
          · exact absurd h.1 (by decide)
          · rw [e38]; funext n; simp
        · rfl
theorem one1_ok {c : UInt8} (hc : isO c = true) {x : Tm} (hx : x.ok) : (one1 c x).ok := by
  unfold one1
  split
  · exact (by decide : isL 49 = true)
  · split
    · exact hx
    · exact ⟨hc, hx⟩
theorem two1_ok {c : UInt8} (hc : isT c = true) {x y : Tm} (hx : x.ok) (hy : y.ok) : (two1 c x y).ok := by
  unfold two1
  split
  · exact hy
  · split
    · exact hx
    · split
      · exact (by decide : isL 48 = true)
      · split
        · exact hx
        · exact ⟨hc, hx, hy⟩
theorem tidyT_ok : ∀ t : Tm, t.ok → (tidyT t).ok
  | .leaf c, h => h
  | .one c t, h => one1_ok h.1 (tidyT_ok t h.2)
  | .two c t u, h => two1_ok h.1 (tidyT_ok t h.2.1) (tidyT_ok u h.2.2)
theorem tidyT_sem : ∀ t : Tm, t.ok → tsem (tidyT t) = tsem t
  | .leaf c, h => rfl
  | .one c t, h => by
    show tsem (one1 c (tidyT t)) = _
    rw [one1_sem h.1 (tidyT_ok t h.2)]
    show (if c = 42 then stq (tsem (tidyT t)) else mulq (tsem (tidyT t)) (c.toNat - 48)) = _
    rw [tidyT_sem t h.2]; rfl
  | .two c t u, h => by
    show tsem (two1 c (tidyT t) (tidyT u)) = _
    rw [two1_sem h.1 (tidyT_ok t h.2.1) (tidyT_ok u h.2.2)]
    show (if c = 46 then sumq (tsem (tidyT t)) (tsem (tidyT u)) else if c = 43 then (fun n => tsem (tidyT t) n || tsem (tidyT u) n) else (fun n => tsem (tidyT t) n && tsem (tidyT u) n)) = _
    rw [tidyT_sem t h.2.1, tidyT_sem u h.2.2]; rfl
theorem one1_tidy {c : UInt8} {x : Tm} (hx : tidyT x = x) : tidyT (one1 c x) = one1 c x := by
  by_cases h1 : ((((c.toNat : Int) == 42) && (lone x 48 || lone x 49)) = true)
  · have e : one1 c x = .leaf 49 := by unfold one1; rw [if_pos h1]
    rw [e]; rfl
  · by_cases h2 : (((((c.toNat : Int) == 42) && ((x.sg.toNat : Int) == 42)) || (lone x 48 || lone x 49)) = true)
    · have e : one1 c x = x := by unfold one1; rw [if_neg h1, if_pos h2]
      rw [e, hx]
    · have e : one1 c x = .one c x := by unfold one1; rw [if_neg h1, if_neg h2]
      rw [e]
      show one1 c (tidyT x) = _
      rw [hx, e]
theorem two1_tidy {c : UInt8} {x y : Tm} (hx : tidyT x = x) (hy : tidyT y = y) : tidyT (two1 c x y) = two1 c x y := by
  have key : two1 c x y = y ∨ two1 c x y = x ∨ two1 c x y = .leaf 48 ∨ two1 c x y = .two c x y := by
    unfold two1
    split
    · exact .inl rfl
    · split
      · exact .inr (.inl rfl)
      · split
        · exact .inr (.inr (.inl rfl))
        · split
          · exact .inr (.inl rfl)
          · exact .inr (.inr (.inr rfl))
  rcases key with e | e | e | e
  · rw [e, hy]
  · rw [e, hx]
  · rw [e]; rfl
  · rw [e]
    show two1 c (tidyT x) (tidyT y) = _
    rw [hx, hy, e]
theorem tidyT_idem : ∀ t : Tm, tidyT (tidyT t) = tidyT t
  | .leaf c => rfl
  | .one c t => one1_tidy (tidyT_idem t)
  | .two c t u => two1_tidy (tidyT_idem t) (tidyT_idem u)
theorem nsz_pos : ∀ t : Tm, 1 ≤ nsz t
  | .leaf c => Nat.le_refl _
  | .one c t => by simp only [nsz]; omega
  | .two c t u => by simp only [nsz]; omega
theorem one1_nsz (c : UInt8) (x : Tm) : nsz (one1 c x) ≤ nsz x + 1 := by
  unfold one1
  split
  · show 1 ≤ _; omega
  · split
    · omega
    · exact Nat.le_refl _
theorem two1_nsz (c : UInt8) (x y : Tm) : nsz (two1 c x y) ≤ nsz x + nsz y + 1 := by
  unfold two1
  split
  · omega
  · split
    · omega
    · split
      · show 1 ≤ _; omega
      · split
        · omega
        · exact Nat.le_refl _
theorem tidyT_nsz : ∀ t : Tm, nsz (tidyT t) ≤ nsz t
  | .leaf c => Nat.le_refl _
  | .one c t => by
    have := one1_nsz c (tidyT t)
    have h := tidyT_nsz t
    simp only [tidyT, nsz]; omega
  | .two c t u => by
    have := two1_nsz c (tidyT t) (tidyT u)
    have h := tidyT_nsz t
    have h2 := tidyT_nsz u
    simp only [tidyT, nsz]; omega
end Go.Proofs.Ytjjnckgdpdelkaa.P

-- spec.l7Of reads what trm reads.
namespace Go.Proofs.Ytjjnckgdpdelkaa.P
open Go.RowKit Go.Proofs.YtjjnckgdpdelkaaW.PrintWords Go.Proofs.YtjjnckgdpdelkaaW.PrintLast Go.Proofs.YtjjnckgdpdelkaaW.PrintMore
set_option linter.unusedVariables false
set_option linter.unusedSimpArgs false

def of7 : Option Tm → Int × List S44 × Bool
  | some t => (t.S.f0, t.S.f1, true)
  | none => (48, [], false)
theorem l7of_f (s : ByteArray) : spec_l7Of.f s = some (of7 (trm (chrs s))) := by
  unfold spec_l7Of.f
  show (if (s.size : Int) > 60 then _ else _) = _
  unfold trm
  rw [chrs_length]
  by_cases h : (s.size : Int) > 60
  · rw [if_pos h, if_neg (by omega)]; rfl
  · rw [if_neg h, if_pos (by omega)]
    unfold spec_l7Read.f
    rw [if_pos ⟨by omega, by omega, by omega⟩]
    show (if _ = (0 : Int) then _ else _) = _
    dsimp only
    rw [show ((0 : Int).toNat) = 0 from rfl, List.drop_zero]
    cases hp : prs (s.size + 1) (chrs s) with
    | none =>
      rw [(rd7_prs _ _).2 hp]
      rfl
    | some x =>
      obtain ⟨t, r⟩ := x
      rw [(rd7_prs _ _).1 t r hp]
      have hl := prs_len hp
      rw [chrs_length] at hl
      show (if ((s.size - r.length : Nat) : Int) = 0 then _ else (if ((s.size - r.length : Nat) : Int) = (s.size : Int) then _ else _)) = _
      rw [if_neg (by omega)]
      cases r with
      | nil => rw [if_pos (by simp)]; rfl
      | cons c r => rw [if_neg (by rw [List.length_cons] at hl ⊢; omega)]; rfl
end Go.Proofs.Ytjjnckgdpdelkaa.P

-- spec.l6Open and pick: whatever is drawn lies in its range.
namespace Go.Proofs.Ytjjnckgdpdelkaa.P
open Go.RowKit Go.Proofs.YtjjnckgdpdelkaaW.PrintWords Go.Proofs.YtjjnckgdpdelkaaW.PrintLast Go.Proofs.YtjjnckgdpdelkaaW.PrintMore
set_option linter.unusedVariables false
set_option linter.unusedSimpArgs false

theorem bits_xor_nat (a b : Nat) (ha : a < 2 ^ 62) (hb : b < 2 ^ 62) : Go.bits .xor .i64 (a : Int) (b : Int) = ((a ^^^ b : Nat) : Int) := by
  have ha' : a % 2 ^ IntKind.i64.bits = a := Nat.mod_eq_of_lt (by show a < 2 ^ 64; omega)
  have hb' : b % 2 ^ IntKind.i64.bits = b := Nat.mod_eq_of_lt (by show b < 2 ^ 64; omega)
  have hx := Nat.xor_lt_two_pow ha hb
  simp only [Go.bits, BitVec.ofInt_natCast, BitVec.toNat_xor, BitVec.toNat_ofNat, ha', hb']
  rw [IntKind.wrap_i64]
  omega
theorem open_f (l : List Int) : spec_l6Open.f l = some (l.take 2000, 0) := by
  unfold spec_l6Open.f
  by_cases h : (l.length : Int) > 2000
  · rw [if_pos h, if_pos (by omega)]
  · rw [if_neg h, List.take_of_length_le (by omega)]
/-- The code of a draw: bytes, not too many. -/
structure Code (b : List Int) : Prop where
  byte : ∀ x ∈ b, 0 ≤ x ∧ x ≤ 255
  len : b.length ≤ 2000
theorem code_of {l : List Int} (h : ∀ x ∈ l, (Lit.int .u8 x).wf = true) : Code (l.take 2000) := by
  refine ⟨fun x hx => ?_, by rw [List.length_take]; omega⟩
  have := h x (List.mem_of_mem_take hx)
  have h0 : IntKind.u8.min = 0 := rfl
  have h1 : IntKind.u8.max = 255 := rfl
  simp [Lit.wf, h0, h1] at this
  omega
theorem Code.rd {b : List Int} (h : Code b) {i : Nat} (hi : i < b.length) : 0 ≤ Go.Proofs.YtjjnckgdpdelkaaW.PrintWords.rd b (i : Int) ∧ Go.Proofs.YtjjnckgdpdelkaaW.PrintWords.rd b (i : Int) ≤ 255 := by
  have e : Go.Proofs.YtjjnckgdpdelkaaW.PrintWords.rd b (i : Int) = b[i] := by simp [Go.Proofs.YtjjnckgdpdelkaaW.PrintWords.rd, List.getD_eq_getElem?_getD, hi]
  rw [e]; exact h.byte _ (List.getElem_mem hi)
theorem pick_f {b : List Int} (h : Code b) (p n : Nat) (hp : p ≤ 1000000) (hn : 1 ≤ n) (hn2 : n ≤ 1000000) : ∃ v : Nat, v < n ∧ Ev (fun k => spec_l6Rd_pick.f k b p n) ((v : Int), ((p + 1 : Nat) : Int)) := by
  have w1 : wrap64 ((p : Int) + 1) = ((p + 1 : Nat) : Int) := by rw [w64 (by omega) (by omega)]; omega
  have w2 : wrap64 (((p + 1 : Nat) : Int) - 1) = (p : Int) := by rw [w64 (by omega) (by omega)]; omega
  have hlen := h.len
  by_cases h0 : b.length = 0
  · refine ⟨0, by omega, ?_⟩
    have e : ((b.length : Int) == 0) = true := by rw [beq_iff_eq]; omega
    refine Ev.congr (f := fun k => spec_l6Rd_pick.j0 k n true b ((p + 1 : Nat) : Int)) (fun k => ?_) (Ev.step (f := fun k => some (0, ((p + 1 : Nat) : Int))) (fun k => ?_) (Ev.now _))
    · unfold spec_l6Rd_pick.f; rw [if_neg (by omega), e, w1]
    · simp only [spec_l6Rd_pick.j0]; rw [if_pos trivial]
  · have e : ((b.length : Int) == 0) = false := by rw [beq_eq_false_iff_ne]; omega
    have st : ∀ k, spec_l6Rd_pick.f k b p n = spec_l6Rd_pick.j0 k n false b ((p + 1 : Nat) : Int) := fun k => by
      unfold spec_l6Rd_pick.f; rw [if_neg (by omega), e, w1]
    by_cases hlt : p < b.length
    · obtain ⟨v, hv⟩ := Int.eq_ofNat_of_zero_le (h.rd hlt).1
      have hv2 := (h.rd hlt).2
      rw [hv] at hv2
      refine ⟨v % n, Nat.mod_lt _ (by omega), Ev.congr st (Ev.step (f := fun k => some (((v % n : Nat) : Int), ((p + 1 : Nat) : Int))) (fun k => ?_) (Ev.now _))⟩
      simp only [spec_l6Rd_pick.j0]
      rw [if_neg (by decide), w2, if_pos (by omega), if_pos (by omega), if_neg (by omega), hv, w64 (by omega) (by omega), Int.tmod_eq_emod_of_nonneg (by omega)]
      rfl
    · have hpos : 0 < b.length := by omega
      have m1 : Int.tmod (p : Int) (b.length : Int) = ((p % b.length : Nat) : Int) := by rw [Int.tmod_eq_emod_of_nonneg (by omega)]; rfl
      have w3 : wrap64 ((p : Int) * 7) = ((p * 7 : Nat) : Int) := by rw [w64 (by omega) (by omega)]; omega
      have w4 : wrap64 (((p * 7 : Nat) : Int) + 3) = ((p * 7 + 3 : Nat) : Int) := by rw [w64 (by omega) (by omega)]; omega
      have m2 : Int.tmod ((p * 7 + 3 : Nat) : Int) (b.length : Int) = (((p * 7 + 3) % b.length : Nat) : Int) := by rw [Int.tmod_eq_emod_of_nonneg (by omega)]; rfl
      have l1 := Nat.mod_lt p hpos
      have l2 := Nat.mod_lt (p * 7 + 3) hpos
      obtain ⟨v1, hv1⟩ := Int.eq_ofNat_of_zero_le (h.rd l1).1
      obtain ⟨v2, hv2⟩ := Int.eq_ofNat_of_zero_le (h.rd l2).1
      have u1 := (h.rd l1).2
      have u2 := (h.rd l2).2
      rw [hv1] at u1
      rw [hv2] at u2
      have q1 : Int.tdiv (p : Int) (b.length : Int) = ((p / b.length : Nat) : Int) := by rw [Int.tdiv_eq_ediv_of_nonneg (by omega)]; rfl
      have q1l : p / b.length ≤ p := Nat.div_le_self _ _
      generalize p / b.length = qq at q1 q1l
      have s1 : wrap64 (wrap64 (v1 : Int) * 131) = ((v1 * 131 : Nat) : Int) := by rw [w64 (x := (v1 : Int)) (by omega) (by omega), w64 (by omega) (by omega)]; omega
      have s2 : wrap64 (wrap64 (v2 : Int) * 1117) = ((v2 * 1117 : Nat) : Int) := by rw [w64 (x := (v2 : Int)) (by omega) (by omega), w64 (by omega) (by omega)]; omega
      have s3 : wrap64 ((p : Int) * 29) = ((p * 29 : Nat) : Int) := by rw [w64 (by omega) (by omega)]; omega
      have s4 : wrap64 (wrap64 ((qq : Nat) : Int) * 53) = ((qq * 53 : Nat) : Int) := by rw [w64 (x := ((qq : Nat) : Int)) (by omega) (by omega), w64 (by omega) (by omega)]; omega
      have s5 : wrap64 (wrap64 (wrap64 (((v1 * 131 : Nat) : Int) + ((v2 * 1117 : Nat) : Int)) + ((p * 29 : Nat) : Int)) + ((qq * 53 : Nat) : Int)) = ((v1 * 131 + v2 * 1117 + p * 29 + qq * 53 : Nat) : Int) := by
        rw [w64 (x := ((v1 * 131 : Nat) : Int) + ((v2 * 1117 : Nat) : Int)) (by omega) (by omega), w64 (x := ((v1 * 131 : Nat) : Int) + ((v2 * 1117 : Nat) : Int) + ((p * 29 : Nat) : Int)) (by omega) (by omega), w64 (by omega) (by omega)]; omega
      generalize hX : v1 * 131 + v2 * 1117 + p * 29 + qq * 53 = X at s5
      have hXl : X < 100000000 := by omega
      have s6 : wrap64 (Int.tdiv (X : Int) 64) = ((X / 64 : Nat) : Int) := by
        rw [Int.tdiv_eq_ediv_of_nonneg (by omega), w64 (by omega) (by omega)]; omega
      have hx := bits_xor_nat X (X / 64) (by omega) (by omega)
      refine ⟨(X ^^^ X / 64) % n, Nat.mod_lt _ (by omega), Ev.congr st (Ev.step (f := fun k => some ((((X ^^^ X / 64) % n : Nat) : Int), ((p + 1 : Nat) : Int))) (fun k => ?_) (Ev.now _))⟩
      simp only [spec_l6Rd_pick.j0]
      rw [if_neg (by decide), w2, if_neg (by omega), if_neg (by omega), m1, w3, w4, m2, if_pos (by omega), if_pos (by omega), if_pos (by omega), if_pos (by omega), if_neg (by omega), hv1, hv2, q1, s1, s2, s3, s4, s5, s6, hx, Int.tmod_eq_emod_of_nonneg (by omega)]
      rfl

end Go.Proofs.Ytjjnckgdpdelkaa.P

-- spec.l91Said draws a text of few signs.
namespace Go.Proofs.Ytjjnckgdpdelkaa.P
open Go.RowKit Go.Proofs.YtjjnckgdpdelkaaW.PrintWords Go.Proofs.YtjjnckgdpdelkaaW.PrintLast Go.Proofs.YtjjnckgdpdelkaaW.PrintMore
set_option linter.unusedVariables false
set_option linter.unusedSimpArgs false

def szT : Nat → Nat
  | 0 => 1
  | d + 1 => 2 * szT d + 3
theorem szT_pos (d : Nat) : 1 ≤ szT d := by cases d <;> simp only [szT] <;> omega
theorem szT_le {d : Nat} (h : d ≤ 3) : szT d ≤ 29 := by
  rcases (show d = 0 ∨ d = 1 ∨ d = 2 ∨ d = 3 by omega) with rfl | rfl | rfl | rfl <;> decide
theorem pick4 {v : Nat} (hv : v < 4) (a b c d : ByteArray) (ha : a.size = 1) (hb : b.size = 1) (hc : c.size = 1) (hd : d.size = 1) : (rdOf ByteArray.empty [a, b, c, d] (v : Int)).size = 1 := by
  rcases (show v = 0 ∨ v = 1 ∨ v = 2 ∨ v = 3 by omega) with rfl | rfl | rfl | rfl
  · exact ha
  · exact hb
  · exact hc
  · exact hd
theorem bsz1 (c : UInt8) (s : ByteArray) : ((⟨#[c]⟩ : ByteArray) ++ s).size = 1 + s.size := by rw [ByteArray.size_append]; rfl
theorem term91_leaf {b : List Int} (h : Go.Proofs.Ytjjnckgdpdelkaa.P.Code b) (p : Nat) (x : Int) (hp : p ≤ 100000) : ∃ (s : ByteArray), s.size ≤ 1 ∧ Ev (fun k => spec_l91Term.j0 k x true b p) (s, ((p + 1 : Nat) : Int)) := by
  obtain ⟨v, hv, K, h1⟩ := pick_f h p 4 (by omega) (by omega) (by omega)
  dsimp only at h1
  have g1 : ∀ k, K ≤ k → spec_l6Rd_pick.f k b p 4 = some ((v : Int), ((p + 1 : Nat) : Int)) := h1
  refine ⟨rdOf ByteArray.empty [(⟨#[48]⟩ : ByteArray), (⟨#[49]⟩ : ByteArray), (⟨#[97]⟩ : ByteArray), (⟨#[97]⟩ : ByteArray)] (v : Int), by rw [pick4 hv _ _ _ _ rfl rfl rfl rfl]; exact Nat.le_refl _, K + 1, fun k hk => ?_⟩
  obtain ⟨k, rfl⟩ : ∃ j, k = j + 1 := ⟨k - 1, by omega⟩
  simp only [spec_l91Term.j0]
  rw [if_pos (by trivial), Option.bind_some, g1 k (by omega), Option.bind_some, if_pos (by (try dsimp only); omega), if_pos (by (try dsimp only); simp; omega)]
theorem term91_f {b : List Int} (h : Go.Proofs.Ytjjnckgdpdelkaa.P.Code b) : ∀ (d p : Nat), d ≤ 3 → p + 100 * d ≤ 10000 → ∃ (s : ByteArray) (q : Nat), s.size ≤ szT d ∧ q ≤ p + szT d ∧ Ev (fun k => spec_l91Term.f k b p d) (s, (q : Int)) := by
  intro d
  induction d with
  | zero =>
    intro p _ hp
    obtain ⟨s, hs, K, h1⟩ := term91_leaf h p 0 (by omega)
    dsimp only at h1
    refine ⟨s, p + 1, hs, Nat.le_refl _, K + 1, fun k hk => ?_⟩
    obtain ⟨k, rfl⟩ : ∃ j, k = j + 1 := ⟨k - 1, by omega⟩
    simp only [spec_l91Term.f]
    rw [if_pos (by (try dsimp only); omega)]
    exact h1 k (by omega)
  | succ d ih =>
    intro p hd hp
    have hsz := szT_pos d
    have hsl := szT_le (show d ≤ 3 by omega)
    have e1 : wrap64 (((d + 1 : Nat) : Int) - 1) = (d : Int) := by rw [w64 (by omega) (by omega)]; omega
    obtain ⟨v, hv, K1, h1⟩ := pick_f h p 5 (by omega) (by omega) (by omega)
    dsimp only at h1
    have g1 : ∀ k, K1 ≤ k → spec_l6Rd_pick.f k b p 5 = some ((v : Int), ((p + 1 : Nat) : Int)) := h1
    have main : ∃ (s : ByteArray) (q : Nat), s.size ≤ szT (d + 1) ∧ q ≤ p + szT (d + 1) ∧ Ev (fun k => spec_l91Term.j0 k ((d + 1 : Nat) : Int) ((v : Int) == 0) b ((p + 1 : Nat) : Int)) (s, (q : Int)) := by
      simp only [szT]
      by_cases hv0 : (v : Int) = 0
      · obtain ⟨s, hs, hE⟩ := term91_leaf h (p + 1) ((d + 1 : Nat) : Int) (by omega)
        refine ⟨s, p + 1 + 1, by omega, by omega, ?_⟩
        rw [hv0]
        exact hE
      · rw [show ((v : Int) == 0) = false by rw [beq_eq_false_iff_ne]; exact hv0]
        obtain ⟨v2, hv2, K2, h2⟩ := pick_f h (p + 1) 6 (by omega) (by omega) (by omega)
        dsimp only at h2
        have g2 : ∀ k, K2 ≤ k → spec_l6Rd_pick.f k b ((p + 1 : Nat) : Int) 6 = some ((v2 : Int), ((p + 1 + 1 : Nat) : Int)) := h2
        by_cases c0 : (v2 : Int) = 0
        · obtain ⟨s, q, hs, hq, K3, h3⟩ := ih (p + 1 + 1) (by omega) (by omega)
          dsimp only at h3
          refine ⟨(⟨#[42]⟩ : ByteArray) ++ s, q, by rw [bsz1]; omega, by omega, K2 + K3 + 1, fun k hk => ?_⟩
          obtain ⟨k, rfl⟩ : ∃ j, k = j + 1 := ⟨k - 1, by omega⟩
          simp only [spec_l91Term.j0]
          rw [if_neg (by decide), g2 k (by omega), Option.bind_some, if_pos c0, e1, h3 k (by omega), Option.bind_some, if_pos (by (try dsimp only); omega)]
        · by_cases c1 : (v2 : Int) = 1
          · obtain ⟨v3, hv3, K3, h3⟩ := pick_f h (p + 1 + 1) 4 (by omega) (by omega) (by omega)
            dsimp only at h3
            have g3 : ∀ k, K3 ≤ k → spec_l6Rd_pick.f k b ((p + 1 + 1 : Nat) : Int) 4 = some ((v3 : Int), ((p + 1 + 1 + 1 : Nat) : Int)) := h3
            obtain ⟨s, q, hs, hq, K4, h4⟩ := ih (p + 1 + 1 + 1) (by omega) (by omega)
            dsimp only at h4
            have hz := pick4 hv3 (⟨#[50]⟩ : ByteArray) (⟨#[51]⟩ : ByteArray) (⟨#[52]⟩ : ByteArray) (⟨#[53]⟩ : ByteArray) rfl rfl rfl rfl
            refine ⟨rdOf ByteArray.empty [(⟨#[50]⟩ : ByteArray), (⟨#[51]⟩ : ByteArray), (⟨#[52]⟩ : ByteArray), (⟨#[53]⟩ : ByteArray)] (v3 : Int) ++ s, q, by rw [ByteArray.size_append]; omega, by omega, K2 + K3 + K4 + 1, fun k hk => ?_⟩
            obtain ⟨k, rfl⟩ : ∃ j, k = j + 1 := ⟨k - 1, by omega⟩
            simp only [spec_l91Term.j0]
            rw [if_neg (by decide), g2 k (by omega), Option.bind_some, if_neg c0, if_pos c1, Option.bind_some, g3 k (by omega), Option.bind_some, if_pos (by (try dsimp only); omega), if_pos (by (try dsimp only); simp; omega), e1, h4 k (by omega), Option.bind_some, if_pos (by (try dsimp only); rw [hz]; omega)]
          · obtain ⟨s, q, hs, hq, K3, h3⟩ := ih (p + 1 + 1) (by omega) (by omega)
            dsimp only at h3
            obtain ⟨v4, hv4, K4, h4⟩ := pick_f h q 4 (by omega) (by omega) (by omega)
            dsimp only at h4
            have g4 : ∀ k, K4 ≤ k → spec_l6Rd_pick.f k b (q : Int) 4 = some ((v4 : Int), ((q + 1 : Nat) : Int)) := h4
            obtain ⟨s5, q5, hs5, hq5, K5, h5⟩ := ih (q + 1) (by omega) (by omega)
            dsimp only at h5
            have hz := pick4 hv4 (⟨#[43]⟩ : ByteArray) (⟨#[43]⟩ : ByteArray) (⟨#[46]⟩ : ByteArray) (⟨#[38]⟩ : ByteArray) rfl rfl rfl rfl
            refine ⟨((((⟨#[40]⟩ : ByteArray) ++ s) ++ rdOf ByteArray.empty [(⟨#[43]⟩ : ByteArray), (⟨#[43]⟩ : ByteArray), (⟨#[46]⟩ : ByteArray), (⟨#[38]⟩ : ByteArray)] (v4 : Int)) ++ s5) ++ (⟨#[41]⟩ : ByteArray), q5, ?_, by omega, K2 + K3 + K4 + K5 + 1, fun k hk => ?_⟩
            · rw [ByteArray.size_append, ByteArray.size_append, ByteArray.size_append, bsz1, hz, show (⟨#[41]⟩ : ByteArray).size = 1 from rfl]; omega
            obtain ⟨k, rfl⟩ : ∃ j, k = j + 1 := ⟨k - 1, by omega⟩
            simp only [spec_l91Term.j0]
            rw [if_neg (by decide), g2 k (by omega), Option.bind_some, if_neg c0, if_neg c1, e1, h3 k (by omega), Option.bind_some, if_pos (by (try dsimp only); omega), Option.bind_some, g4 k (by omega), Option.bind_some, if_pos (by (try dsimp only); omega), if_pos (by (try dsimp only); simp; omega), if_pos (by (try dsimp only); rw [hz]; omega), h5 k (by omega), Option.bind_some, if_pos (by (try dsimp only); rw [hz]; omega), if_pos (by (try dsimp only); rw [hz]; omega)]
    obtain ⟨s, q, hs, hq, K6, h6⟩ := main
    dsimp only at h6
    refine ⟨s, q, hs, hq, K1 + K6 + 1, fun k hk => ?_⟩
    obtain ⟨k, rfl⟩ : ∃ j, k = j + 1 := ⟨k - 1, by omega⟩
    simp only [spec_l91Term.f]
    rw [if_neg (by omega), g1 k (by omega), Option.bind_some]
    exact h6 k (by omega)
theorem pick5_le {v : Nat} (hv : v < 5) : (rdOf ByteArray.empty [(⟨#[]⟩ : ByteArray), (⟨#[98]⟩ : ByteArray), (⟨#[40]⟩ : ByteArray), (⟨#[41]⟩ : ByteArray), (⟨#[43]⟩ : ByteArray)] (v : Int)).size ≤ 1 := by
  rcases (show v = 0 ∨ v = 1 ∨ v = 2 ∨ v = 3 ∨ v = 4 by omega) with rfl | rfl | rfl | rfl | rfl <;> decide
theorem said91_f {b : List Int} (h : Go.Proofs.Ytjjnckgdpdelkaa.P.Code b) : ∃ (s : ByteArray) (q : Nat), s.size ≤ 30 ∧ q ≤ 100 ∧ Ev (fun k => spec_l91Said.f k b 0) (s, (q : Int)) := by
  obtain ⟨d, hd, K1, h1⟩ := pick_f h 0 4 (by omega) (by omega) (by omega)
  dsimp only at h1
  have g1 : ∀ k, K1 ≤ k → spec_l6Rd_pick.f k b 0 4 = some ((d : Int), ((0 + 1 : Nat) : Int)) := h1
  obtain ⟨s, q, hs, hq, K2, h2⟩ := term91_f h d (0 + 1) (by omega) (by omega)
  dsimp only at h2
  have hsl := szT_le (show d ≤ 3 by omega)
  obtain ⟨v3, hv3, K3, h3⟩ := pick_f h q 16 (by omega) (by omega) (by omega)
  dsimp only at h3
  have g3 : ∀ k, K3 ≤ k → spec_l6Rd_pick.f k b (q : Int) 16 = some ((v3 : Int), ((q + 1 : Nat) : Int)) := h3
  by_cases c0 : (v3 : Int) = 0
  · obtain ⟨v4, hv4, K4, h4⟩ := pick_f h (q + 1) (s.size + 1) (by omega) (by omega) (by omega)
    dsimp only at h4
    have e4 : wrap64 ((s.size : Int) + 1) = ((s.size + 1 : Nat) : Int) := by rw [w64 (by omega) (by omega)]; omega
    obtain ⟨v5, hv5, K5, h5⟩ := pick_f h (q + 1 + 1) 5 (by omega) (by omega) (by omega)
    dsimp only at h5
    have g5 : ∀ k, K5 ≤ k → spec_l6Rd_pick.f k b ((q + 1 + 1 : Nat) : Int) 5 = some ((v5 : Int), ((q + 1 + 1 + 1 : Nat) : Int)) := h5
    have hz := pick5_le hv5
    have z1 : (s.extract 0 v4).size ≤ v4 := by rw [ByteArray.size_extract]; omega
    have z2 : (s.extract v4 s.size).size ≤ s.size - v4 := by rw [ByteArray.size_extract]; omega
    refine ⟨(s.extract 0 v4 ++ rdOf ByteArray.empty [(⟨#[]⟩ : ByteArray), (⟨#[98]⟩ : ByteArray), (⟨#[40]⟩ : ByteArray), (⟨#[41]⟩ : ByteArray), (⟨#[43]⟩ : ByteArray)] (v5 : Int)) ++ s.extract v4 s.size, q + 1 + 1 + 1, ?_, by omega, K1 + K2 + K3 + K4 + K5, fun k hk => ?_⟩
    · rw [ByteArray.size_append, ByteArray.size_append]; omega
    dsimp only
    unfold spec_l91Said.f
    rw [g1 k (by omega), Option.bind_some, h2 k (by omega), Option.bind_some, g3 k (by omega), Option.bind_some, if_pos c0]
    dsimp only
    rw [e4, h4 k (by omega), Option.bind_some]
    dsimp only
    rw [if_pos (by (try dsimp only); omega), if_pos (by (try dsimp only); omega), Option.bind_some, g5 k (by omega), Option.bind_some]
    dsimp only
    rw [if_pos (by (try dsimp only); omega), if_pos (by (try dsimp only); simp; omega), Int.toNat_natCast, if_pos (by (try dsimp only); omega), if_pos (by (try dsimp only); omega)]
  · refine ⟨s, q + 1, by omega, by omega, K1 + K2 + K3, fun k hk => ?_⟩
    dsimp only
    unfold spec_l91Said.f
    rw [g1 k (by omega), Option.bind_some, h2 k (by omega), Option.bind_some, g3 k (by omega), Option.bind_some, if_neg c0]
end Go.Proofs.Ytjjnckgdpdelkaa.P

-- spec.DrawTermTidy draws a text of few signs.
namespace Go.Proofs.Ytjjnckgdpdelkaa.P
open Go.RowKit Go.Proofs.YtjjnckgdpdelkaaW.PrintWords Go.Proofs.YtjjnckgdpdelkaaW.PrintLast Go.Proofs.YtjjnckgdpdelkaaW.PrintMore
set_option linter.unusedVariables false
set_option linter.unusedSimpArgs false

theorem drawTermTidy_f (l : List Int) (h : ∀ x ∈ l, (Lit.int .u8 x).wf = true) : ∃ (s : ByteArray), s.size ≤ 30 ∧ Ev (fun k => spec_DrawTermTidy.f k l) s := by
  obtain ⟨s, q, hf, hq, K0, h0⟩ := said91_f (code_of h)
  dsimp only at h0
  refine ⟨s, hf, K0, fun k hk => ?_⟩
  try dsimp only
  unfold spec_DrawTermTidy.f
  rw [open_f, Option.bind_some, h0 k (by omega), Option.bind_some]
end Go.Proofs.Ytjjnckgdpdelkaa.P

-- The reference writes a term as tidily.
namespace Go.Proofs.Ytjjnckgdpdelkaa.P
open Go.RowKit Go.Proofs.YtjjnckgdpdelkaaW.PrintWords Go.Proofs.YtjjnckgdpdelkaaW.PrintLast Go.Proofs.YtjjnckgdpdelkaaW.PrintMore
set_option linter.unusedVariables false
set_option linter.unusedSimpArgs false

def ba (l : List UInt8) : ByteArray := ⟨l.toArray⟩
theorem ba_list (l : List UInt8) : (ba l).toList = l := by rw [ByteArray.toList_eq]; simp [ba]
theorem ba_chrs (l : List UInt8) : chrs (ba l) = l := by simp [ba, chrs]
theorem ba_size (l : List UInt8) : (ba l).size = l.length := by simp [ba, ByteArray.size]
theorem ba_app (l r : List UInt8) : ba l ++ ba r = ba (l ++ r) := by
  apply ByteArray.ext
  rw [ByteArray.data_append]
  simp [ba]
theorem son1 (c : UInt8) : strOfNums [(c.toNat : Int)] = ba [c] := by simp [strOfNums, ba]
theorem txt_lone (x : Tm) (c : UInt8) : x.txt = [c] ↔ lone x (c.toNat : Int) = true := by
  cases x with
  | leaf d =>
    unfold lone
    simp only [Tm.txt, Tm.kd, Tm.sg, List.cons.injEq, and_true, Bool.and_eq_true, decide_eq_true_eq, beq_iff_eq, true_and]
    constructor
    · rintro rfl; rfl
    · intro h; exact UInt8.toNat_inj.1 (by omega)
  | one d t =>
    have := txt_pos t
    unfold lone
    simp only [Tm.txt, Tm.kd, Bool.and_eq_true, decide_eq_true_eq]
    constructor
    · intro h
      have := congrArg List.length h
      simp only [List.length_cons, List.length_nil] at this
      omega
    · intro h; simp at h
  | two d t u =>
    unfold lone
    simp only [Tm.txt, Tm.kd, Bool.and_eq_true, decide_eq_true_eq]
    constructor
    · intro h
      have := congrArg List.length h
      simp only [List.length_cons, List.length_nil, List.length_append] at this
      omega
    · intro h; simp at h
theorem bt_head {x : Tm} (hx : x.ok) : (bt (ba x.txt) 0 == 42) = ((x.sg.toNat : Int) == 42) := by
  have hp := txt_pos x
  have e : bt (ba x.txt) 0 = ((x.txt[0]'hp).toNat : Int) := by
    unfold bt
    rw [dif_pos (by rw [ba_size]; exact hp)]
    rfl
  rw [e]
  cases x with
  | leaf c => rfl
  | one c t => rfl
  | two c t u =>
    have h1 : ((c.toNat : Int) == 42) = false := by
      rcases isT_cases hx.1 with rfl | rfl | rfl <;> rfl
    show (((40 : UInt8).toNat : Int) == 42) = ((c.toNat : Int) == 42)
    rw [h1]; rfl
theorem l7tidy_one (c : UInt8) (x : Tm) (hx : x.ok) (hl : x.txt.length ≤ 1000) (l : List S44) : Ev (fun k => if (c.toNat : Int) = 42 then (if (ba x.txt).toList = [48] then spec_l7Tidy.j0 k (ba x.txt) true (c.toNat : Int) l else spec_l7Tidy.j0 k (ba x.txt) ((ba x.txt).toList == [49]) (c.toNat : Int) l) else spec_l7Tidy.j0 k (ba x.txt) false (c.toNat : Int) l) (ba (one1 c x).txt) := by
  have hb := bt_head hx
  have h48 := txt_lone x 48
  have h49 := txt_lone x 49
  rw [show ((48 : UInt8).toNat : Int) = 48 from rfl] at h48
  rw [show ((49 : UInt8).toNat : Int) = 49 from rfl] at h49
  have hp : (0 : Int) < ((ba x.txt).size : Int) := by rw [ba_size]; have := txt_pos x; omega
  have hz : (strOfNums [(c.toNat : Int)]).size + (ba x.txt).size ≤ 9223372036854775807 := by rw [son1, ba_size, ba_size]; simp only [List.length_cons, List.length_nil]; omega
  have hcat : strOfNums [(c.toNat : Int)] ++ ba x.txt = ba (Tm.one c x).txt := by rw [son1, ba_app]; rfl
  refine ⟨2, fun k hk => ?_⟩
  obtain ⟨k, rfl⟩ : ∃ j, k = j + 2 := ⟨k - 2, by omega⟩
  dsimp only
  rw [ba_list]
  unfold one1
  rw [← hb]
  by_cases hc : (c.toNat : Int) = 42
  · rw [if_pos hc, beq_iff_eq.2 hc, Bool.true_and, Bool.true_and]
    by_cases ha : x.txt = [48]
    · rw [if_pos ha, if_pos (by rw [h48.1 ha]; rfl)]
      simp only [spec_l7Tidy.j0]
      rw [if_pos (by trivial)]
      rfl
    · have la : lone x 48 = false := by rw [Bool.eq_false_iff]; exact fun h => ha (h48.2 h)
      rw [if_neg ha, la, Bool.false_or]
      by_cases hd : x.txt = [49]
      · rw [if_pos (h49.1 hd), hd]
        simp only [spec_l7Tidy.j0]
        rw [if_pos (by decide)]
        rfl
      · have ld : lone x 49 = false := by rw [Bool.eq_false_iff]; exact fun h => hd (h49.2 h)
        rw [if_neg (by rw [ld]; decide), ld, Bool.or_false]
        simp only [spec_l7Tidy.j0]
        rw [if_neg (by rw [beq_iff_eq]; exact hd), if_pos hc, if_pos hp]
        cases hs : (bt (ba x.txt) 0 == 42) with
        | true =>
          simp only [spec_l7Tidy.j1]
          rw [if_pos (by trivial), if_pos (by trivial)]
        | false =>
          simp only [spec_l7Tidy.j1]
          rw [if_neg (by decide), if_pos hc, Option.bind_some, if_pos hz, hcat, if_neg (by decide)]
  · rw [if_neg hc, show ((c.toNat : Int) == 42) = false from beq_eq_false_iff_ne.2 hc, Bool.false_and, if_neg (by decide), Bool.false_and, Bool.false_or]
    simp only [spec_l7Tidy.j0]
    rw [if_neg (by decide), if_neg hc]
    simp only [spec_l7Tidy.j1]
    rw [if_neg (by decide), if_neg hc, ba_list]
    by_cases ha : x.txt = [48]
    · rw [if_pos ha, if_pos (by rw [h48.1 ha]; rfl)]
    · have la : lone x 48 = false := by rw [Bool.eq_false_iff]; exact fun h => ha (h48.2 h)
      rw [if_neg ha, la, Bool.false_or]
      by_cases hd : x.txt = [49]
      · rw [if_pos hd, if_pos (h49.1 hd)]
      · rw [if_neg hd, if_neg (fun h => hd (h49.2 h)), Option.bind_some, if_pos hz, hcat]
theorem j6_f (k : Nat) (c : UInt8) (x y : Tm) (l : List S44) (hlx : x.txt.length ≤ 1000) (hly : y.txt.length ≤ 1000) : spec_l7Tidy.j6 (k + 1) (ba x.txt) (ba y.txt) false (c.toNat : Int) l = some (ba (if ((!((c.toNat : Int) == 46) && decide (x.txt = y.txt)) = true) then x else .two c x y).txt) := by
  have z1 : 1 + (ba x.txt).size ≤ 9223372036854775807 := by rw [ba_size]; omega
  have e1 : (strOfNums [(c.toNat : Int)]).size = 1 := by rw [son1, ba_size]; rfl
  have z2 : 1 + (ba x.txt).size + (strOfNums [(c.toNat : Int)]).size ≤ 9223372036854775807 := by rw [e1, ba_size]; omega
  have z3 : 1 + (ba x.txt).size + (strOfNums [(c.toNat : Int)]).size + (ba y.txt).size ≤ 9223372036854775807 := by rw [e1, ba_size, ba_size]; omega
  have z4 : 1 + (ba x.txt).size + (strOfNums [(c.toNat : Int)]).size + (ba y.txt).size + 1 ≤ 9223372036854775807 := by rw [e1, ba_size, ba_size]; omega
  have hcat : ((((⟨#[40]⟩ : ByteArray) ++ ba x.txt) ++ strOfNums [(c.toNat : Int)]) ++ ba y.txt) ++ (⟨#[41]⟩ : ByteArray) = ba (Tm.two c x y).txt := by
    rw [son1, show (⟨#[40]⟩ : ByteArray) = ba [40] from rfl, show (⟨#[41]⟩ : ByteArray) = ba [41] from rfl, ba_app, ba_app, ba_app, ba_app]
    simp [Tm.txt]
  simp only [spec_l7Tidy.j6]
  rw [if_neg (by decide)]
  by_cases hc : (c.toNat : Int) = 46
  · rw [if_pos hc, if_pos z1, Option.bind_some, if_pos z2, if_pos z3, if_pos z4, hcat, beq_iff_eq.2 hc, if_neg (by simp)]
  · rw [if_neg hc, ba_list, ba_list, show ((c.toNat : Int) == 46) = false from beq_eq_false_iff_ne.2 hc]
    by_cases he : x.txt = y.txt
    · rw [if_pos he, decide_eq_true he, if_pos (by rfl)]
    · rw [if_neg he, if_pos z1, Option.bind_some, if_pos z2, if_pos z3, if_pos z4, hcat, decide_eq_false he, if_neg (by decide)]
theorem lone_b (x : Tm) (c : UInt8) : (x.txt == [c]) = lone x (c.toNat : Int) := by
  rw [Bool.eq_iff_iff, ← txt_lone, beq_iff_eq]
theorem l7tidy_two (c : UInt8) (hT : isT c = true) (x y : Tm) (hlx : x.txt.length ≤ 1000) (hly : y.txt.length ≤ 1000) (l : List S44) : Ev (fun k => if (c.toNat : Int) = 43 then spec_l7Tidy.j2 k (ba x.txt) (ba y.txt) ((ba x.txt).toList == [48]) (c.toNat : Int) l else spec_l7Tidy.j2 k (ba x.txt) (ba y.txt) false (c.toNat : Int) l) (ba (two1 c x y).txt) := by
  refine ⟨5, fun k hk => ?_⟩
  obtain ⟨k, rfl⟩ : ∃ j, k = j + 5 := ⟨k - 5, by omega⟩
  have q := j6_f k c x y l hlx hly
  have e48 : (x.txt == [48]) = lone x 48 := lone_b x 48
  have e49 : (x.txt == [49]) = lone x 49 := lone_b x 49
  have f48 : (y.txt == [48]) = lone y 48 := lone_b y 48
  have f49 : (y.txt == [49]) = lone y 49 := lone_b y 49
  have p48 : x.txt = [48] ↔ lone x 48 = true := txt_lone x 48
  have r48 : y.txt = [48] ↔ lone y 48 = true := txt_lone y 48
  have g48 : lone x 48 = true → lone x 49 = false := lone_both
  have g49 : lone y 48 = true → lone y 49 = false := lone_both
  have t48 : (⟨#[48]⟩ : ByteArray) = ba (Tm.leaf 48).txt := rfl
  have hs : (c.toNat : Int) = 43 ∨ (c.toNat : Int) = 46 ∨ (c.toNat : Int) = 38 := by
    rcases isT_cases hT with rfl | rfl | rfl
    · exact .inl rfl
    · exact .inr (.inl rfl)
    · exact .inr (.inr rfl)
  have s48 : lone y 48 = true → ba y.txt = ba (Tm.leaf 48).txt := fun h => by rw [r48.2 h]; rfl
  have u48 : lone x 48 = true → ba x.txt = ba (Tm.leaf 48).txt := fun h => by rw [p48.2 h]; rfl
  unfold two1
  dsimp only
  generalize Tm.two c x y = O at *
  generalize (c.toNat : Int) = s at *
  generalize lone x 48 = a at *
  generalize lone x 49 = d at *
  generalize lone y 48 = a2 at *
  generalize lone y 49 = d2 at *
  rcases hs with rfl | rfl | rfl
  all_goals
    cases a <;> cases d <;> (try (exfalso; exact Bool.noConfusion (g48 rfl))) <;> cases a2 <;> cases d2 <;> (try (exfalso; exact Bool.noConfusion (g49 rfl)))
    all_goals simp [spec_l7Tidy.j2, spec_l7Tidy.j3, spec_l7Tidy.j4, spec_l7Tidy.j5, spec_l7Tidy.j6, ba_list, e48, e49, f48, f49, p48, r48] at q s48 u48 ⊢
    all_goals first | exact t48 | exact t48.trans s48.symm | exact t48.trans u48.symm | exact q | (simp [*]; done)
theorem l7tidy_f : ∀ t : Tm, t.ok → t.txt.length ≤ 1000 → Ev (fun k => spec_l7Tidy.f k t.S.f0 t.S.f1) (ba (tidyT t).txt)
  | .leaf c, _, _ => by
    refine ⟨2, fun k hk => ?_⟩
    obtain ⟨k, rfl⟩ : ∃ j, k = j + 2 := ⟨k - 2, by omega⟩
    show spec_l7Tidy.f (k + 2) (c.toNat : Int) [] = some (ba [c])
    simp only [spec_l7Tidy.f]
    rw [if_pos (by rfl)]
    simp only [spec_l7Write.f]
    rw [if_pos (by rfl), Option.bind_some, son1]
  | .one c t, ho, hl => by
    have h1 : t.txt.length ≤ 1000 := by simp only [Tm.txt, List.length_cons] at hl; omega
    have h2 := tidyT_len t
    obtain ⟨K, hK⟩ := l7tidy_f t ho.2 h1
    dsimp only at hK
    obtain ⟨K2, hK2⟩ := l7tidy_one c (tidyT t) (tidyT_ok t ho.2) (by omega) [t.S]
    dsimp only at hK2
    refine ⟨K + K2 + 1, fun k hk => ?_⟩
    obtain ⟨k, rfl⟩ : ∃ j, k = j + 1 := ⟨k - 1, by omega⟩
    show spec_l7Tidy.f (k + 1) (c.toNat : Int) [t.S] = some (ba (one1 c (tidyT t)).txt)
    simp only [spec_l7Tidy.f]
    rw [if_neg (by simp), if_pos (by simp), rdS_0, hK k (by omega), Option.bind_some, if_pos (by simp)]
    exact hK2 k (by omega)
  | .two c t u, ho, hl => by
    have h1 : t.txt.length ≤ 1000 := by simp only [Tm.txt, List.length_cons, List.length_append] at hl; omega
    have h2 : u.txt.length ≤ 1000 := by simp only [Tm.txt, List.length_cons, List.length_append] at hl; omega
    have h3 := tidyT_len t
    have h4 := tidyT_len u
    obtain ⟨K, hK⟩ := l7tidy_f t ho.2.1 h1
    dsimp only at hK
    obtain ⟨K1, hK1⟩ := l7tidy_f u ho.2.2 h2
    dsimp only at hK1
    obtain ⟨K2, hK2⟩ := l7tidy_two c ho.1 (tidyT t) (tidyT u) (by omega) (by omega) [t.S, u.S]
    dsimp only at hK2
    refine ⟨K + K1 + K2 + 1, fun k hk => ?_⟩
    obtain ⟨k, rfl⟩ : ∃ j, k = j + 1 := ⟨k - 1, by omega⟩
    show spec_l7Tidy.f (k + 1) (c.toNat : Int) [t.S, u.S] = some (ba (two1 c (tidyT t) (tidyT u)).txt)
    simp only [spec_l7Tidy.f]
    rw [if_neg (by simp), if_pos (by simp), rdS_0, hK k (by omega), Option.bind_some, if_neg (by simp), if_pos (by simp), rdS_1, hK1 k (by omega), Option.bind_some]
    exact hK2 k (by omega)
theorem stermTidy_f (s : ByteArray) : Ev (fun k => spec_TermTidy.f k s) (trt (chrs s)) := by
  unfold trt
  cases hT : trm (chrs s) with
  | none => exact ⟨0, fun k _ => by dsimp only; unfold spec_TermTidy.f; rw [l7of_f, hT]; rfl⟩
  | some t =>
    obtain ⟨hl, hok, he, _⟩ := trm_some hT
    obtain ⟨K, hK⟩ := l7tidy_f t hok (by rw [← he]; omega)
    dsimp only at hK
    refine ⟨K, fun k hk => ?_⟩
    dsimp only
    unfold spec_TermTidy.f
    rw [l7of_f, hT, Option.bind_some]
    rw [if_pos (show (of7 (some t)).2.2 = true from rfl)]
    dsimp only [of7]
    rw [hK k hk, Option.bind_some]
    rfl
end Go.Proofs.Ytjjnckgdpdelkaa.P

-- For every code the law FnTermTidy holds.
namespace Go.Proofs.Ytjjnckgdpdelkaa.P
open Go.RowKit Go.Proofs.YtjjnckgdpdelkaaW.PrintWords Go.Proofs.YtjjnckgdpdelkaaW.PrintLast Go.Proofs.YtjjnckgdpdelkaaW.PrintMore
set_option linter.unusedVariables false
set_option linter.unusedSimpArgs false

theorem same_l0 (l : List Int) (hl : l.length ≤ 1000000) : ∀ (d i : Nat), i ≤ l.length → l.length - i = d → Ev (fun k => laws_sameInts.l0 k l l i) true := by
  intro d
  induction d with
  | zero =>
    intro i hi hd
    refine Ev.step (f := fun k => some true) (fun k => ?_) (Ev.now _)
    simp only [laws_sameInts.l0]; rw [if_neg (by omega)]
  | succ d ih =>
    intro i hi hd
    refine Ev.step (fun k => ?_) (ih (i + 1) (by omega) (by omega))
    simp only [laws_sameInts.l0]
    rw [if_pos (by omega), if_pos (by omega), if_pos (by omega), if_pos (by trivial), wsucc (by omega)]
theorem sameInts_f (l : List Int) (hl : l.length ≤ 1000000) : Ev (fun k => laws_sameInts.f k l l) true := by
  obtain ⟨K, h⟩ := same_l0 l hl _ 0 (Nat.zero_le _) rfl
  have g : ∀ k, K ≤ k → laws_sameInts.l0 k l l 0 = some true := h
  refine ⟨K, fun k hk => ?_⟩
  dsimp only
  unfold laws_sameInts.f
  rw [if_pos rfl, g k hk]
theorem termTidy_j1 (s : ByteArray) (hs : s.size ≤ 60) (t : Tm) (hT : trm (chrs s) = some t) : Ev (fun k => laws_FnTermTidy.j1 k s (ba (tidyT t).txt) true false) true := by
  obtain ⟨hl, hok, he, _⟩ := trm_some hT
  have h2 := tidyT_len t
  have hl2 : (tidyT t).txt.length ≤ 60 := by rw [he] at hl; omega
  have hz : (ba (tidyT t).txt).size ≤ 60 := by rw [ba_size]; exact hl2
  have hT2 : trm (chrs (ba (tidyT t).txt)) = some (tidyT t) := by rw [ba_chrs]; exact trm_txt (tidyT_ok t hok) hl2
  have a1 : impl_TermList.f s 80 = some (lstq (tsem t) 80, true) := by
    rw [termList_f s 80 (by omega)]; unfold trl; rw [hT]; rfl
  have a2 : impl_TermList.f (ba (tidyT t).txt) 80 = some (lstq (tsem t) 80, true) := by
    rw [termList_f _ 80 (by omega)]; unfold trl; rw [hT2]
    show some (lstq (tsem (tidyT t)) 80, true) = _
    rw [tidyT_sem t hok]
  have a3 : impl_TermSize.f s = some ((nsz t : Int), true) := by
    rw [termSize_f s (by omega)]; unfold trz; rw [hT]
  have a4 : impl_TermSize.f (ba (tidyT t).txt) = some ((nsz (tidyT t) : Int), true) := by
    rw [termSize_f _ (by omega)]; unfold trz; rw [hT2]
  have a5 : impl_TermTidy.f (ba (tidyT t).txt) = some (ba (tidyT t).txt, true) := by
    rw [termTidy_f _ (by omega)]; unfold trt; rw [hT2]
    show some (ba (tidyT (tidyT t)).txt, true) = _
    rw [tidyT_idem]
  have hn := tidyT_nsz t
  obtain ⟨K, hK⟩ := sameInts_f (lstq (tsem t) 80) (Nat.le_trans (lstq_length _ _) (by omega))
  dsimp only at hK
  refine ⟨K + 1, fun k hk => ?_⟩
  obtain ⟨k, rfl⟩ : ∃ j, k = j + 1 := ⟨k - 1, by omega⟩
  simp only [laws_FnTermTidy.j1]
  rw [if_neg (by decide), a1, Option.bind_some, a2, Option.bind_some, a3, Option.bind_some, a4, Option.bind_some, a5, Option.bind_some]
  dsimp only
  rw [if_pos (by trivial), if_pos (by trivial), hK k (by omega), Option.bind_some, if_pos (by trivial), if_pos (by omega), if_pos (by trivial), BEq.rfl]
theorem lawTermTidy_ev (l : List Int) (h : ∀ x ∈ l, (Lit.int .u8 x).wf = true) : Ev (fun k => laws_FnTermTidy.f k l) true := by
  by_cases hl : (l.length : Int) > 1048576
  · exact ⟨0, fun k _ => by dsimp only; unfold laws_FnTermTidy.f; rw [if_pos hl]⟩
  · obtain ⟨s, hz, K1, h1⟩ := drawTermTidy_f l h
    dsimp only at h1
    obtain ⟨K2, h2⟩ := stermTidy_f s
    dsimp only at h2
    have h3 := termTidy_f s (by omega)
    have main : Ev (fun k => laws_FnTermTidy.j0 k s (trt (chrs s)).1 (trt (chrs s)).2 true) true := by
      unfold trt
      cases hT : trm (chrs s) with
      | none =>
        refine ⟨2, fun k hk => ?_⟩
        obtain ⟨k, rfl⟩ : ∃ j, k = j + 2 := ⟨k - 2, by omega⟩
        simp only [laws_FnTermTidy.j0]
        rw [if_pos (by trivial)]
        simp only [laws_FnTermTidy.j1]
        rw [if_pos (by decide)]
      | some t =>
        obtain ⟨K, hK⟩ := termTidy_j1 s (by omega) t hT
        dsimp only at hK
        refine ⟨K + 1, fun k hk => ?_⟩
        obtain ⟨k, rfl⟩ : ∃ j, k = j + 1 := ⟨k - 1, by omega⟩
        simp only [laws_FnTermTidy.j0]
        rw [if_pos (by trivial)]
        exact hK k (by omega)
    obtain ⟨K5, h5⟩ := main
    dsimp only at h5
    refine ⟨K1 + K2 + K5, fun k hk => ?_⟩
    dsimp only
    unfold laws_FnTermTidy.f
    rw [if_neg hl, h1 k (by omega), Option.bind_some, h3, Option.bind_some, h2 k (by omega), Option.bind_some, if_pos rfl, BEq.rfl]
    exact h5 k (by omega)
theorem lawTermTidy_pure : laws_FnTermTidy.Pure := fun l _ _ h => (lawTermTidy_ev l h).rounds
end Go.Proofs.Ytjjnckgdpdelkaa.P

-- For every code the law FnTermTidy holds.
namespace Go.Proofs.Ytjjnckgdpdelkaa.Pure
theorem FnTermTidy : Go.Proofs.Ytjjnckgdpdelkaa.P.laws_FnTermTidy.Pure := Go.Proofs.Ytjjnckgdpdelkaa.P.lawTermTidy_pure
end Go.Proofs.Ytjjnckgdpdelkaa.Pure
