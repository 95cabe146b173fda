/- What these laws reach, joined by a program of this session: contracts (written by that program over the kit's print, or by hand) and plain lemmas. -/
import Derived.Test.YticdcfgjpopkoaaK1
import Derived.Test.YticdcfgjpopkoaaK3
import Derived.Test.YticdcfgjpopkoaaK4
import Derived.Test.YticdcfgjpopkoaaK5
open Go.Proofs.YticdcfgjpopkoaaW.PrintWords renaming below_alloc → yA, pw_below_drewN → yB, below_drew1 → yC, below_set → yD, blk_drewN → yE, blk_drew → yF, blk_alloc → yG, below_step → yP, below_size → yQ
open Go.Proofs.YticdcfgjpopkoaaW.PrintWords.Kd renaming R_alloc → yH, R_drewN → yI, R_drew → yJ
open List renaming setIfInBounds_toArray → yK, set_cons_zero → yL, set_cons_succ → yM
namespace Go.Proofs.Yticdcfgjpopkoaa.P
open Go.RowKit Go.Proofs.YticdcfgjpopkoaaW.PrintWords Go.Proofs.YticdcfgjpopkoaaW.PrintLast Go.Proofs.YticdcfgjpopkoaaW.PrintMore
attribute [local go_sem] max2_int min2_int max_two min_two max_three min_three max_four min_four   -- for this text's walks alone
set_option linter.unusedVariables false
set_option linter.unusedSimpArgs false

/-! ### laws_FnStarParts: function 4 -/
mutual
noncomputable def laws_FnStarParts.j0:Nat→ByteArray→List Int→Bool→Bool→Option (Bool)
 | 0,_,_,_,_=>none
 | k+1,x3,x4,x5,x8=>if x8=true then (laws_FnStarParts.j1 k x3 x4 x8 (!x5)) else (laws_FnStarParts.j1 k x3 x4 x8 true)
noncomputable def laws_FnStarParts.j1:Nat→ByteArray→List Int→Bool→Bool→Option (Bool)
 | 0,_,_,_,_=>none
 | k+1,x3,x4,x8,x42=>if x42=true then (some x8) else ((impl_SetOf.f x4).bind fun bt512=>(laws_FnStarParts.l0 k x3 x4 bt512.1 bt512.2 0))
noncomputable def laws_FnStarParts.l0:Nat→ByteArray→List Int→ByteArray→Bool→Int→Option (Bool)
 | 0,_,_,_,_,_=>none
 | k+1,x3,x4,x9,x10,x11=>if x10=true then (laws_FnStarParts.j3 k x3 x4 x9 x10 x11 (decide (x11≤200))) else (laws_FnStarParts.j3 k x3 x4 x9 x10 x11 false)
noncomputable def laws_FnStarParts.j3:Nat→ByteArray→List Int→ByteArray→Bool→Int→Bool→Option (Bool)
 | 0,_,_,_,_,_,_=>none
 | k+1,x3,x4,x9,x10,x11,x53=>if x53=true then ((impl_StarHas.f k x9 0).bind fun t514=>(if t514=true then ((impl_StarHas.f k x9 x11).bind fun t515=>((impl_StarHas.f k x3 x11).bind fun t516=>(if (t515 != t516)=true then (some false) else (laws_FnStarParts.l0 k x3 x4 x9 x10 (wrap64 (x11+1)))))) else (laws_FnStarParts.l0 k x3 x4 x9 x10 (wrap64 (x11+1))))) else (laws_FnStarParts.l1 k x3 x4 x10 0)
noncomputable def laws_FnStarParts.l1:Nat→ByteArray→List Int→Bool→Int→Option (Bool)
 | 0,_,_,_,_=>none
 | k+1,x3,x4,x10,x13=>if x13<(x4.length:Int) then (if 0≤x13 then ((impl_SetHas.f k x3 (rd x4 x13)).bind fun t518=>(if t518=true then (if (rd x4 x13)<1 then (some false) else (if x13 > 0 then (if 0≤(wrap64 (x13 - 1)) then (if (wrap64 (x13 - 1))<(x4.length:Int) then (if (rd x4 (wrap64 (x13 - 1))) ≥ (rd x4 x13) then (some false) else (laws_FnStarParts.l1 k x3 x4 x10 (wrap64 (x13+1)))) else (none)) else (none)) else (laws_FnStarParts.l1 k x3 x4 x10 (wrap64 (x13+1))))) else (some false))) else (none)) else (some x10)
end
noncomputable def laws_FnStarParts.f (k:Nat) (l0:List Int):Option (Bool):=if (l0.length:Int) > 1048576 then (some true) else ((spec_DrawStarParts.f k l0).bind fun t502=>((impl_StarParts.f k t502).bind fun bt503=>((spec_StarParts.f k t502).bind fun bt507=>((laws_sameInts.f k bt503.1 bt507.1).bind fun t511=>(if t511=true then (laws_FnStarParts.j0 k t502 bt503.1 bt503.2 (bt503.2 == bt507.2)) else (laws_FnStarParts.j0 k t502 bt503.1 bt503.2 false))))))
theorem laws_FnStarParts.mono_l:∀ k,(∀ y0 y1 y2 y3,LeO (laws_FnStarParts.j0 k y0 y1 y2 y3) (laws_FnStarParts.j0 (k+1) y0 y1 y2 y3))∧(∀ y0 y1 y2 y3,LeO (laws_FnStarParts.j1 k y0 y1 y2 y3) (laws_FnStarParts.j1 (k+1) y0 y1 y2 y3))∧(∀ y0 y1 y2 y3 y4,LeO (laws_FnStarParts.l0 k y0 y1 y2 y3 y4) (laws_FnStarParts.l0 (k+1) y0 y1 y2 y3 y4))∧(∀ y0 y1 y2 y3 y4 y5,LeO (laws_FnStarParts.j3 k y0 y1 y2 y3 y4 y5) (laws_FnStarParts.j3 (k+1) y0 y1 y2 y3 y4 y5))∧(∀ y0 y1 y2 y3,LeO (laws_FnStarParts.l1 k y0 y1 y2 y3) (laws_FnStarParts.l1 (k+1) y0 y1 y2 y3))
 | 0=>⟨fun _ _ _ _ r h=>by simp [laws_FnStarParts.j0] at h,fun _ _ _ _ r h=>by simp [laws_FnStarParts.j1] at h,fun _ _ _ _ _ r h=>by simp [laws_FnStarParts.l0] at h,fun _ _ _ _ _ _ r h=>by simp [laws_FnStarParts.j3] at h,fun _ _ _ _ r h=>by simp [laws_FnStarParts.l1] at h⟩
 | k+1=>by
  obtain ⟨ih0,ih1,ih2,ih3,ih4⟩:=laws_FnStarParts.mono_l k
  refine ⟨?_,?_,?_,?_,?_⟩
  ·intro y0 y1 y2 y3
   unfold laws_FnStarParts.j0
   repeat' first
   | (with_reducible exact ih0 _ _ _ _)
   | (with_reducible exact ih1 _ _ _ _)
   | (with_reducible exact ih2 _ _ _ _ _)
   | (with_reducible exact ih3 _ _ _ _ _ _)
   | (with_reducible exact ih4 _ _ _ _)
   | (with_reducible exact impl_SetHas.mono _ _ _)
   | (with_reducible exact impl_StarHas.mono _ _ _)
   | (with_reducible exact impl_StarParts.mono _ _)
   | (with_reducible exact laws_sameInts.mono _ _ _)
   | (with_reducible exact spec_DrawStarParts.mono _ _)
   | (with_reducible exact spec_StarParts.mono _ _)
   | (with_reducible exact LeO.refl _)
   | (with_reducible exact LeO.none _)
   | (with_reducible refine LeO.ite ?_ ?_)
   | (with_reducible refine LeO.bind ?_ (fun _=>?_))
   | exact ih0 _ _ _ _
   | exact ih1 _ _ _ _
   | exact ih2 _ _ _ _ _
   | exact ih3 _ _ _ _ _ _
   | exact ih4 _ _ _ _
   | exact impl_SetHas.mono _ _ _
   | exact impl_StarHas.mono _ _ _
   | exact impl_StarParts.mono _ _
   | exact laws_sameInts.mono _ _ _
   | exact spec_DrawStarParts.mono _ _
   | exact spec_StarParts.mono _ _
   | exact LeO.none _
   | refine LeO.ite ?_ ?_
   | refine LeO.bind ?_ (fun _=>?_)
  ·intro y0 y1 y2 y3
   unfold laws_FnStarParts.j1
   repeat' first
   | (with_reducible exact ih0 _ _ _ _)
   | (with_reducible exact ih1 _ _ _ _)
   | (with_reducible exact ih2 _ _ _ _ _)
   | (with_reducible exact ih3 _ _ _ _ _ _)
   | (with_reducible exact ih4 _ _ _ _)
   | (with_reducible exact impl_SetHas.mono _ _ _)
   | (with_reducible exact impl_StarHas.mono _ _ _)
   | (with_reducible exact impl_StarParts.mono _ _)
   | (with_reducible exact laws_sameInts.mono _ _ _)
   | (with_reducible exact spec_DrawStarParts.mono _ _)
   | (with_reducible exact spec_StarParts.mono _ _)
   | (with_reducible exact LeO.refl _)
   | (with_reducible exact LeO.none _)
   | (with_reducible refine LeO.ite ?_ ?_)
   | (with_reducible refine LeO.bind ?_ (fun _=>?_))
   | exact ih0 _ _ _ _
   | exact ih1 _ _ _ _
   | exact ih2 _ _ _ _ _
   | exact ih3 _ _ _ _ _ _
   | exact ih4 _ _ _ _
   | exact impl_SetHas.mono _ _ _
   | exact impl_StarHas.mono _ _ _
   | exact impl_StarParts.mono _ _
   | exact laws_sameInts.mono _ _ _
   | exact spec_DrawStarParts.mono _ _
   | exact spec_StarParts.mono _ _
   | exact LeO.none _
   | refine LeO.ite ?_ ?_
   | refine LeO.bind ?_ (fun _=>?_)
  ·intro y0 y1 y2 y3 y4
   unfold laws_FnStarParts.l0
   repeat' first
   | (with_reducible exact ih0 _ _ _ _)
   | (with_reducible exact ih1 _ _ _ _)
   | (with_reducible exact ih2 _ _ _ _ _)
   | (with_reducible exact ih3 _ _ _ _ _ _)
   | (with_reducible exact ih4 _ _ _ _)
   | (with_reducible exact impl_SetHas.mono _ _ _)
   | (with_reducible exact impl_StarHas.mono _ _ _)
   | (with_reducible exact impl_StarParts.mono _ _)
   | (with_reducible exact laws_sameInts.mono _ _ _)
   | (with_reducible exact spec_DrawStarParts.mono _ _)
   | (with_reducible exact spec_StarParts.mono _ _)
   | (with_reducible exact LeO.refl _)
   | (with_reducible exact LeO.none _)
   | (with_reducible refine LeO.ite ?_ ?_)
   | (with_reducible refine LeO.bind ?_ (fun _=>?_))
   | exact ih0 _ _ _ _
   | exact ih1 _ _ _ _
   | exact ih2 _ _ _ _ _
   | exact ih3 _ _ _ _ _ _
   | exact ih4 _ _ _ _
   | exact impl_SetHas.mono _ _ _
   | exact impl_StarHas.mono _ _ _
   | exact impl_StarParts.mono _ _
   | exact laws_sameInts.mono _ _ _
   | exact spec_DrawStarParts.mono _ _
   | exact spec_StarParts.mono _ _
   | exact LeO.none _
   | refine LeO.ite ?_ ?_
   | refine LeO.bind ?_ (fun _=>?_)
  ·intro y0 y1 y2 y3 y4 y5
   unfold laws_FnStarParts.j3
   repeat' first
   | (with_reducible exact ih0 _ _ _ _)
   | (with_reducible exact ih1 _ _ _ _)
   | (with_reducible exact ih2 _ _ _ _ _)
   | (with_reducible exact ih3 _ _ _ _ _ _)
   | (with_reducible exact ih4 _ _ _ _)
   | (with_reducible exact impl_SetHas.mono _ _ _)
   | (with_reducible exact impl_StarHas.mono _ _ _)
   | (with_reducible exact impl_StarParts.mono _ _)
   | (with_reducible exact laws_sameInts.mono _ _ _)
   | (with_reducible exact spec_DrawStarParts.mono _ _)
   | (with_reducible exact spec_StarParts.mono _ _)
   | (with_reducible exact LeO.refl _)
   | (with_reducible exact LeO.none _)
   | (with_reducible refine LeO.ite ?_ ?_)
   | (with_reducible refine LeO.bind ?_ (fun _=>?_))
   | exact ih0 _ _ _ _
   | exact ih1 _ _ _ _
   | exact ih2 _ _ _ _ _
   | exact ih3 _ _ _ _ _ _
   | exact ih4 _ _ _ _
   | exact impl_SetHas.mono _ _ _
   | exact impl_StarHas.mono _ _ _
   | exact impl_StarParts.mono _ _
   | exact laws_sameInts.mono _ _ _
   | exact spec_DrawStarParts.mono _ _
   | exact spec_StarParts.mono _ _
   | exact LeO.none _
   | refine LeO.ite ?_ ?_
   | refine LeO.bind ?_ (fun _=>?_)
  ·intro y0 y1 y2 y3
   unfold laws_FnStarParts.l1
   repeat' first
   | (with_reducible exact ih0 _ _ _ _)
   | (with_reducible exact ih1 _ _ _ _)
   | (with_reducible exact ih2 _ _ _ _ _)
   | (with_reducible exact ih3 _ _ _ _ _ _)
   | (with_reducible exact ih4 _ _ _ _)
   | (with_reducible exact impl_SetHas.mono _ _ _)
   | (with_reducible exact impl_StarHas.mono _ _ _)
   | (with_reducible exact impl_StarParts.mono _ _)
   | (with_reducible exact laws_sameInts.mono _ _ _)
   | (with_reducible exact spec_DrawStarParts.mono _ _)
   | (with_reducible exact spec_StarParts.mono _ _)
   | (with_reducible exact LeO.refl _)
   | (with_reducible exact LeO.none _)
   | (with_reducible refine LeO.ite ?_ ?_)
   | (with_reducible refine LeO.bind ?_ (fun _=>?_))
   | exact ih0 _ _ _ _
   | exact ih1 _ _ _ _
   | exact ih2 _ _ _ _ _
   | exact ih3 _ _ _ _ _ _
   | exact ih4 _ _ _ _
   | exact impl_SetHas.mono _ _ _
   | exact impl_StarHas.mono _ _ _
   | exact impl_StarParts.mono _ _
   | exact laws_sameInts.mono _ _ _
   | exact spec_DrawStarParts.mono _ _
   | exact spec_StarParts.mono _ _
   | exact LeO.none _
   | refine LeO.ite ?_ ?_
   | refine LeO.bind ?_ (fun _=>?_)
theorem laws_FnStarParts.mono:∀ a0 k,LeO (laws_FnStarParts.f k a0) (laws_FnStarParts.f (k+1) a0):=by
 intro a0 k
 obtain ⟨ih0,ih1,ih2,ih3,ih4⟩:=laws_FnStarParts.mono_l k
 unfold laws_FnStarParts.f
 repeat' first
   | (with_reducible exact ih0 _ _ _ _)
   | (with_reducible exact ih1 _ _ _ _)
   | (with_reducible exact ih2 _ _ _ _ _)
   | (with_reducible exact ih3 _ _ _ _ _ _)
   | (with_reducible exact ih4 _ _ _ _)
   | (with_reducible exact impl_SetHas.mono _ _ _)
   | (with_reducible exact impl_StarHas.mono _ _ _)
   | (with_reducible exact impl_StarParts.mono _ _)
   | (with_reducible exact laws_sameInts.mono _ _ _)
   | (with_reducible exact spec_DrawStarParts.mono _ _)
   | (with_reducible exact spec_StarParts.mono _ _)
   | (with_reducible exact LeO.refl _)
   | (with_reducible exact LeO.none _)
   | (with_reducible refine LeO.ite ?_ ?_)
   | (with_reducible refine LeO.bind ?_ (fun _=>?_))
   | exact ih0 _ _ _ _
   | exact ih1 _ _ _ _
   | exact ih2 _ _ _ _ _
   | exact ih3 _ _ _ _ _ _
   | exact ih4 _ _ _ _
   | exact impl_SetHas.mono _ _ _
   | exact impl_StarHas.mono _ _ _
   | exact impl_StarParts.mono _ _
   | exact laws_sameInts.mono _ _ _
   | exact spec_DrawStarParts.mono _ _
   | exact spec_StarParts.mono _ _
   | exact LeO.none _
   | refine LeO.ite ?_ ?_
   | refine LeO.bind ?_ (fun _=>?_)
noncomputable def laws_FnStarParts.T19:Bool × List (List Nat × List Nat):=(true,[([],[]),([],[]),([],[]),([1,2],[1,2]),([3],[3]),([0,4],[0,4]),([5],[5]),([6,5],[6]),([7],[7]),([7],[7]),([8,9,7],[7,8,9]),([10,7],[7,10]),([11,7],[7,11]),([7,12],[7,12]),([13,7],[13]),([14],[14]),([15,14],[14,15]),([16,14,14],[14,16]),([17],[17]),([17],[17]),([19,17],[17,19]),([18,20,17],[17,18,20]),([21,17],[17,21]),([17],[17]),([17],[17]),([23,24,17],[17,23,24]),([25,17],[17,25]),([22,26,17],[17,22,26]),([17,27,14],[14,17,27]),([14,28],[14,28])])
noncomputable def laws_FnStarParts.B19:List Nat:=[0,0,0,6,14,31,63,127,255,255,1023,2047,4095,8191,16383,32767,65535,131071,262143,262143,786431,2097151,4194303,262143,262143,25427967,58982399,134217727,268435455,536870911]
theorem laws_FnStarParts.tab19:rtab .any (opsOf Try.f4 19)=laws_FnStarParts.T19:=by kernel_rfl
theorem laws_FnStarParts.bits19:waitsOk laws_FnStarParts.T19.2 laws_FnStarParts.B19=true:=by kernel_rfl
set_option maxHeartbeats 8000000 in
set_option maxRecDepth 100000 in
theorem laws_FnStarParts.calls (k:Nat) (A0:Option Addr) (c0:Nat) (l0:List Int) (r:Bool) (w:World) (hr0:Kd.C (Kd.int .u8) w A0 l0.length l0) (hc0:l0.length≤c0) (h:laws_FnStarParts.f k l0=some r) :
  Calls Try.prog 4 #[.slice A0 l0.length c0] w fun e w'=>e=.returned (.bool r)∧Below w.heap.size w w':=by
 have HR0:=Aside0.mk hr0
 have HC0:=Aside0.mk hc0
 clear hr0 hc0
 have HB:=Aside0.mk (Below.refl w.heap.size w)
 have H:(if (l0.length:Int) > 1048576 then (some true) else ((spec_DrawStarParts.f k l0).bind fun t502=>((impl_StarParts.f k t502).bind fun bt503=>((spec_StarParts.f k t502).bind fun bt507=>((laws_sameInts.f k bt503.1 bt507.1).bind fun t511=>(if t511=true then (laws_FnStarParts.j0 k t502 bt503.1 bt503.2 (bt503.2 == bt507.2)) else (laws_FnStarParts.j0 k t502 bt503.1 bt503.2 false)))))))=some r:=h
 clear h
 by_cases c2:(l0.length:Int) > 1048576
 ·rw [if_pos c2] at H
  have c2b0:decide (1048576<(l0.length:Int))=true:=decide_eq_true c2
  have c2b1:decide (1048576<l0.length)=true:=decide_eq_true (by omega)
  clear c2
  obtain rfl:=Option.some.inj H
  go_enter Try.func4,Try.ntmps4
  go_wp2
  go_ret
  exact ⟨by first|rfl|(simp [errW_none,errW_some]<;>rfl)|(simp [*,errW_none,errW_some]<;>rfl)|(simp [errW_none,errW_some];exact ⟨rfl,rfl⟩),by repeat (first|(with_reducible first|exact HB.out|apply yA|apply yB|apply yC)|exact HB.out)⟩
 ·rw [if_neg c2] at H
  have c2b0:decide (1048576<(l0.length:Int))=false:=decide_eq_false c2
  have c2b1:decide (1048576<l0.length)=false:=decide_eq_false (by omega)
  clear c2
  replace H:=Option.bind_eq_some_iff.mp H
  obtain ⟨t502,A30,H⟩:=H
  replace H:((impl_StarParts.f k t502).bind fun bt503=>((spec_StarParts.f k t502).bind fun bt507=>((laws_sameInts.f k bt503.1 bt507.1).bind fun t511=>(if t511=true then (laws_FnStarParts.j0 k t502 bt503.1 bt503.2 (bt503.2 == bt507.2)) else (laws_FnStarParts.j0 k t502 bt503.1 bt503.2 false)))))=some r:=H
  have A3:=Aside0.mk A30
  clear A30
  replace H:=Option.bind_eq_some_iff.mp H
  obtain ⟨⟨t503,t504⟩,A40,H⟩:=H
  replace H:((spec_StarParts.f k t502).bind fun bt507=>((laws_sameInts.f k t503 bt507.1).bind fun t511=>(if t511=true then (laws_FnStarParts.j0 k t502 t503 t504 (t504 == bt507.2)) else (laws_FnStarParts.j0 k t502 t503 t504 false))))=some r:=H
  have A4:=Aside0.mk A40
  clear A40
  replace H:=Option.bind_eq_some_iff.mp H
  obtain ⟨⟨t507,t508⟩,A50,H⟩:=H
  replace H:((laws_sameInts.f k t503 t507).bind fun t511=>(if t511=true then (laws_FnStarParts.j0 k t502 t503 t504 (t504 == t508)) else (laws_FnStarParts.j0 k t502 t503 t504 false)))=some r:=H
  have A5:=Aside0.mk A50
  clear A50
  have HC6:=Aside0.mk H
  clear H
  go_enter Try.func4,Try.ntmps4
  go_upto_region 6 with (first|((with_reducible refine gate_callee (f:=11) rfl ?_);refine goesL_ (some 18) rfl rfl Try.func11 (by kernel_rfl) rfl #[.slice A0 l0.length c0] rfl (by (try simp only [List.map_toArray,List.map_cons,List.map_nil]);first|done|rfl|(simp only [List.length_drop,List.length_take];rfl)) ?_;(with_reducible refine (spec_DrawStarParts.calls k _ _ l0 t502 _ ?side1 ?side2 A3.out).mono ?_);(case side1=>repeat (first|exact HR0.out|(with_reducible refine Kd.C_alloc ?_ _)|(with_reducible refine Kd.C_drewN ?_ _)|(with_reducible refine Kd.C_drew ?_)));(case side2=>exact HC0.out);rintro e w7 ⟨rfl,hb⟩;refine ⟨_,rfl,?_⟩;have n0_:=Aside0.mk (yP (by repeat (first|(with_reducible first|exact HB.out|apply yA|apply yB|apply yC)|exact HB.out)) hb);clear HB;have HB:=n0_;clear n0_;(try clear hb);(try clear hb2);(try clear hk);(try clear hi))|((with_reducible refine gate_callee (f:=12) rfl ?_);refine goesL_ (some 21) rfl rfl Try.func12 (by kernel_rfl) rfl #[.string t502] rfl (by (try simp only [List.map_toArray,List.map_cons,List.map_nil]);first|done|rfl|(simp only [List.length_drop,List.length_take];rfl)) ?_;(with_reducible refine (impl_StarParts.calls k t502 t503 t504 _ A4.out).mono ?_);rintro e w8 ⟨v505,rfl,ho0,hb⟩;refine ⟨_,rfl,?_⟩;have n0_:=Aside0.mk (Kd.R_lower ho0 (yQ (by repeat (first|(with_reducible first|exact HB.out|apply yA|apply yB|apply yC)|exact HB.out))));have n1_:=Aside0.mk (yP (by repeat (first|(with_reducible first|exact HB.out|apply yA|apply yB|apply yC)|exact HB.out)) hb);clear HB;have HO506:=n0_;have HB:=n1_;clear n0_ n1_;(try clear hb);(try clear hb2);(try clear hk);(try clear hi);(try clear ho0))|((with_reducible refine gate_callee (f:=13) rfl ?_);refine goesL_ (some 26) rfl rfl Try.func13 (by kernel_rfl) rfl #[.string t502] rfl (by (try simp only [List.map_toArray,List.map_cons,List.map_nil]);first|done|rfl|(simp only [List.length_drop,List.length_take];rfl)) ?_;(with_reducible refine (spec_StarParts.calls k t502 t507 t508 _ A5.out).mono ?_);rintro e w9 ⟨v509,rfl,ho0,hb⟩;refine ⟨_,rfl,?_⟩;have n0_:=Aside0.mk (Kd.R_elder' (by (with_reducible repeat (first|apply yH|apply yI|apply yJ));exact HO506.out) (Kd.R_base ho0) hb);have n1_:=Aside0.mk (Kd.R_lower (Kd.R_new' ho0 (Kd.R_lt (by (with_reducible repeat (first|apply yH|apply yI|apply yJ));exact HO506.out))) (yQ (by repeat (first|(with_reducible first|exact HB.out|apply yA|apply yB|apply yC)|exact HB.out))));have n2_:=Aside0.mk (yP (by repeat (first|(with_reducible first|exact HB.out|apply yA|apply yB|apply yC)|exact HB.out)) hb);clear HO506;clear HB;have HO506:=n0_;have HO510:=n1_;have HB:=n2_;clear n0_ n1_ n2_;(try clear hb);(try clear hb2);(try clear hk);(try clear hi);(try clear ho0)))
  (try simp only [Act.put,yK,yL,yM])
  go_cut [8] (fun v8 wc=>∃ (kq:Nat) (x8_5:Bool),v8=.bool x8_5∧Aside0 (laws_FnStarParts.j0 kq t502 t503 t504 x8_5=some r)∧Aside0 (kq≤k)∧Aside0 (Kd.R (Kd.int .i64) 3 wc w.heap.size (fun _=>True) v505 t503)∧Aside0 (Below w.heap.size w wc))
  case first =>
   have H:=HC6.out
   clear HC6
   replace H:=Option.bind_eq_some_iff.mp H
   obtain ⟨t511,A100,H⟩:=H
   replace H:(if t511=true then (laws_FnStarParts.j0 k t502 t503 t504 (t504 == t508)) else (laws_FnStarParts.j0 k t502 t503 t504 false))=some r:=H
   have A10:=Aside0.mk A100
   clear A100
   by_cases c11:t511=true
   ·subst c11
    have H1:(laws_FnStarParts.j0 k t502 t503 t504 (t504 == t508))=some r:=by rw [if_pos rfl] at H;exact H
    clear H
    have H:=H1
    clear H1
    have H':=Aside0.mk H
    clear H
    obtain ⟨Ao12,co12,eo12⟩:=Kd.R_slice HO506.out
    subst eo12
    obtain ⟨Ao13,co13,eo13⟩:=Kd.R_slice HO510.out
    subst eo13
    go_wp2_with (first|((with_reducible refine gate_callee (f:=14) rfl ?_);refine goesL_ (some 31) rfl rfl Try.func14 (by kernel_rfl) rfl #[.slice Ao12 t503.length co12,.slice Ao13 t507.length co13] rfl (by (try simp only [List.map_toArray,List.map_cons,List.map_nil]);first|done|rfl|(simp only [List.length_drop,List.length_take];rfl)) ?_;(with_reducible refine (laws_sameInts.calls k _ _ t503 _ _ t507 true _ ?side1 ?side2 ?side3 ?side4 A10.out).mono ?_);(case side1=>repeat (first|exact (Kd.R_reads' HO506.out).2.2|(with_reducible refine Kd.C_alloc ?_ _)|(with_reducible refine Kd.C_drewN ?_ _)|(with_reducible refine Kd.C_drew ?_)));(case side2=>exact (Kd.R_reads' HO506.out).2.1);(case side3=>repeat (first|exact (Kd.R_reads' HO510.out).2.2|(with_reducible refine Kd.C_alloc ?_ _)|(with_reducible refine Kd.C_drewN ?_ _)|(with_reducible refine Kd.C_drew ?_)));(case side4=>exact (Kd.R_reads' HO510.out).2.1);rintro e w' ⟨rfl,⟨nd,rfl⟩⟩;refine ⟨_,rfl,?_⟩))
    go_meet
    case rel=>exact ⟨_,((t504 == t508)),(by first|rfl|(simp;done)|(simp [*];done)|(simp [Int.tmod_eq_emod_of_nonneg];done)),H',⟨by first|omega|exact Nat.le_refl _⟩,⟨by (with_reducible repeat (first|apply yH|apply yI|apply yJ));exact Kd.R_mono HO506.out (fun _ hk=>trivial)⟩,⟨by repeat (first|(with_reducible first|exact HB.out|apply yA|apply yB|apply yC)|exact HB.out)⟩⟩
   ·replace c11:=Bool.eq_false_iff.mpr c11
    subst c11
    have H1:(laws_FnStarParts.j0 k t502 t503 t504 false)=some r:=by rw [if_neg (show ¬ (false=true) by decide)] at H;exact H
    clear H
    have H:=H1
    clear H1
    have H':=Aside0.mk H
    clear H
    obtain ⟨Ao14,co14,eo14⟩:=Kd.R_slice HO506.out
    subst eo14
    obtain ⟨Ao15,co15,eo15⟩:=Kd.R_slice HO510.out
    subst eo15
    go_wp2_with (first|((with_reducible refine gate_callee (f:=14) rfl ?_);refine goesL_ (some 31) rfl rfl Try.func14 (by kernel_rfl) rfl #[.slice Ao14 t503.length co14,.slice Ao15 t507.length co15] rfl (by (try simp only [List.map_toArray,List.map_cons,List.map_nil]);first|done|rfl|(simp only [List.length_drop,List.length_take];rfl)) ?_;(with_reducible refine (laws_sameInts.calls k _ _ t503 _ _ t507 false _ ?side1 ?side2 ?side3 ?side4 A10.out).mono ?_);(case side1=>repeat (first|exact (Kd.R_reads' HO506.out).2.2|(with_reducible refine Kd.C_alloc ?_ _)|(with_reducible refine Kd.C_drewN ?_ _)|(with_reducible refine Kd.C_drew ?_)));(case side2=>exact (Kd.R_reads' HO506.out).2.1);(case side3=>repeat (first|exact (Kd.R_reads' HO510.out).2.2|(with_reducible refine Kd.C_alloc ?_ _)|(with_reducible refine Kd.C_drewN ?_ _)|(with_reducible refine Kd.C_drew ?_)));(case side4=>exact (Kd.R_reads' HO510.out).2.1);rintro e w' ⟨rfl,⟨nd,rfl⟩⟩;refine ⟨_,rfl,?_⟩))
    go_meet
    case rel=>exact ⟨_,(false),(by first|rfl|(simp;done)|(simp [*];done)|(simp [Int.tmod_eq_emod_of_nonneg];done)),H',⟨by first|omega|exact Nat.le_refl _⟩,⟨by (with_reducible repeat (first|apply yH|apply yI|apply yJ));exact Kd.R_mono HO506.out (fun _ hk=>trivial)⟩,⟨by repeat (first|(with_reducible first|exact HB.out|apply yA|apply yB|apply yC)|exact HB.out)⟩⟩
  case rest =>
   clear HC6
   try clear c1
   try clear c2
   try clear c2b0
   try clear c2b1
   try clear p2
   try clear c4
   try clear c11
   try clear c12
   try clear c13
   try clear c14
   obtain ⟨kq,x8_5,rfl,HA,HJ5,HO_4,HB⟩:=hcut
   cases kq with
   | zero=>exact absurd HA.out (by simp [laws_FnStarParts.j0])
   | succ kj5 =>
    have H:=HA.out
    clear HA
    simp only [laws_FnStarParts.j0] at H
    have HC16:=Aside0.mk H
    clear H
    go_upto_region 7 with (fail)
    go_cut [42] (fun v42 wc=>∃ (kq:Nat) (x42_15:Bool),v42=.bool x42_15∧Aside0 (laws_FnStarParts.j1 kq t502 t503 x8_5 x42_15=some r)∧Aside0 (kq≤kj5)∧Aside0 (Kd.R (Kd.int .i64) 3 wc w.heap.size (fun _=>True) v505 t503)∧Aside0 (Below w.heap.size w wc))
    case first =>
     have H:=HC16.out
     clear HC16
     by_cases c17:x8_5=true
     ·subst c17
      have H1:(laws_FnStarParts.j1 kj5 t502 t503 true (!t504))=some r:=by rw [if_pos rfl] at H;exact H
      clear H
      have H:=H1
      clear H1
      have H':=Aside0.mk H
      clear H
      go_wp2
      go_meet
      case rel=>exact ⟨_,(!t504),(by first|rfl|(simp;done)|(simp [*];done)|(simp [Int.tmod_eq_emod_of_nonneg];done)),H',⟨by have:=HJ5.out;first|omega|exact Nat.le_refl _⟩,⟨by (with_reducible repeat (first|apply yH|apply yI|apply yJ));exact HO_4.out⟩,⟨by repeat (first|(with_reducible first|exact HB.out|apply yA|apply yB|apply yC)|exact HB.out)⟩⟩
     ·replace c17:=Bool.eq_false_iff.mpr c17
      subst c17
      have H1:(laws_FnStarParts.j1 kj5 t502 t503 false true)=some r:=by rw [if_neg (show ¬ (false=true) by decide)] at H;exact H
      clear H
      have H:=H1
      clear H1
      have H':=Aside0.mk H
      clear H
      go_wp2
      go_meet
      case rel=>exact ⟨_,(true),(by first|rfl|(simp;done)|(simp [*];done)|(simp [Int.tmod_eq_emod_of_nonneg];done)),H',⟨by have:=HJ5.out;first|omega|exact Nat.le_refl _⟩,⟨by (with_reducible repeat (first|apply yH|apply yI|apply yJ));exact HO_4.out⟩,⟨by repeat (first|(with_reducible first|exact HB.out|apply yA|apply yB|apply yC)|exact HB.out)⟩⟩
    case rest =>
     clear HC16
     try clear c1
     try clear c2
     try clear c2b0
     try clear c2b1
     try clear p2
     try clear c4
     try clear c11
     try clear c12
     try clear c13
     try clear c14
     try clear c17
     try clear p2
     obtain ⟨kq,x42_15,rfl,HA,HJ15,HO_4,HB⟩:=hcut
     cases kq with
     | zero=>exact absurd HA.out (by simp [laws_FnStarParts.j1])
     | succ kj15 =>
      have H:=HA.out
      clear HA
      simp only [laws_FnStarParts.j1] at H
      by_cases c18:x42_15=true
      ·subst c18
       have H1:(some x8_5)=some r:=by rw [if_pos rfl] at H;exact H
       clear H
       have H:=H1
       clear H1
       obtain rfl:=Option.some.inj H
       go_wp2
       go_ret
       exact ⟨by first|rfl|(simp [errW_none,errW_some]<;>rfl)|(simp [*,errW_none,errW_some]<;>rfl)|(simp [errW_none,errW_some];exact ⟨rfl,rfl⟩),by repeat (first|(with_reducible first|exact HB.out|apply yA|apply yB|apply yC)|exact HB.out)⟩
      ·replace c18:=Bool.eq_false_iff.mpr c18
       subst c18
       have H1:((impl_SetOf.f t503).bind fun bt512=>(laws_FnStarParts.l0 kj15 t502 t503 bt512.1 bt512.2 0))=some r:=by rw [if_neg (show ¬ (false=true) by decide)] at H;exact H
       clear H
       have H:=H1
       clear H1
       replace H:=Option.bind_eq_some_iff.mp H
       obtain ⟨⟨t512,t513⟩,A190,H⟩:=H
       replace H:(laws_FnStarParts.l0 kj15 t502 t503 t512 t513 0)=some r:=H
       have A19:=Aside0.mk A190
       clear A190
       have H':=Aside0.mk H
       clear H
       obtain ⟨Ao20,co20,eo20⟩:=Kd.R_slice HO_4.out
       subst eo20
       go_wp2_with (first|((with_reducible refine gate_callee (f:=15) rfl ?_);refine goesL_ (some 46) rfl rfl Try.func15 (by kernel_rfl) rfl #[.slice Ao20 t503.length co20] rfl (by (try simp only [List.map_toArray,List.map_cons,List.map_nil]);first|done|rfl|(simp only [List.length_drop,List.length_take];rfl)) ?_;(with_reducible refine (impl_SetOf.calls _ _ t503 t512 t513 _ ?side1 ?side2 A19.out).mono ?_);(case side1=>repeat (first|exact (Kd.R_reads' HO_4.out).2.2|(with_reducible refine Kd.C_alloc ?_ _)|(with_reducible refine Kd.C_drewN ?_ _)|(with_reducible refine Kd.C_drew ?_)));(case side2=>exact (Kd.R_reads' HO_4.out).2.1);rintro e w21 ⟨rfl,hb⟩;refine ⟨_,rfl,?_⟩;have n0_:=Aside0.mk (Kd.R_below (by (with_reducible repeat (first|apply yH|apply yI|apply yJ));exact HO_4.out) hb);have n1_:=Aside0.mk (yP (by repeat (first|(with_reducible first|exact HB.out|apply yA|apply yB|apply yC)|exact HB.out)) hb);clear HO_4;clear HB;have HO_4:=n0_;have HB:=n1_;clear n0_ n1_;(try clear hb);(try clear hb2);(try clear hk);(try clear hi)))
       go_loopg [11] kj15 (fun kq v11 w'=>∃ (x11_3:Int),v11=.int .i64 x11_3∧Aside0 (laws_FnStarParts.l0 kq t502 t503 t512 t513 x11_3=some r)∧Aside0 (kq≤kj15)∧Aside0 (Kd.R (Kd.int .i64) 3 w' w.heap.size (fun _=>True) (.slice Ao20 t503.length co20) t503)∧Aside0 (Below w.heap.size w w'))
       case atStart=>exact ⟨(0),(by first|rfl|(simp;done)|(simp [*];done)|(simp [Int.tmod_eq_emod_of_nonneg];done)),H',⟨Nat.le_refl _⟩,⟨by (with_reducible repeat (first|apply yH|apply yI|apply yJ));exact HO_4.out⟩,⟨by repeat (first|(with_reducible first|exact HB.out|apply yA|apply yB|apply yC)|exact HB.out)⟩⟩
       case round =>
        clear H'
        try clear c1
        try clear c2
        try clear c2b0
        try clear c2b1
        try clear p2
        try clear c4
        try clear c11
        try clear c12
        try clear c13
        try clear c14
        try clear c15
        try clear c17
        try clear c18
        try clear p2
        obtain ⟨x11_3,rfl,HA,HK3,HO_4,HB⟩:=hrel
        cases gk with
        | zero=>exact absurd HA.out (by simp [laws_FnStarParts.l0])
        | succ k3 =>
         have H:=HA.out
         clear HA
         simp only [laws_FnStarParts.l0] at H
         have HC22:=Aside0.mk H
         clear H
         go_upto_region 11 with (fail)
         go_cut [53] (fun v53 wc=>∃ (kq:Nat) (x53_21:Bool),v53=.bool x53_21∧Aside0 (laws_FnStarParts.j3 kq t502 t503 t512 t513 x11_3 x53_21=some r)∧Aside0 (kq≤k3)∧Aside0 (Kd.R (Kd.int .i64) 3 wc w.heap.size (fun _=>True) (.slice Ao20 t503.length co20) t503)∧Aside0 (Below w.heap.size w wc))
         case first =>
          have H:=HC22.out
          clear HC22
          by_cases c23:t513=true
          ·subst c23
           have H1:(laws_FnStarParts.j3 k3 t502 t503 t512 true x11_3 (decide (x11_3≤200)))=some r:=by rw [if_pos rfl] at H;exact H
           clear H
           have H:=H1
           clear H1
           have H':=Aside0.mk H
           clear H
           go_wp2
           go_meet
           case rel=>exact ⟨_,(decide (x11_3≤200)),(by first|rfl|(simp;done)|(simp [*];done)|(simp [Int.tmod_eq_emod_of_nonneg];done)),H',⟨by have:=HJ5.out;have:=HJ15.out;have:=HK3.out;first|omega|exact Nat.le_refl _⟩,⟨by (with_reducible repeat (first|apply yH|apply yI|apply yJ));exact HO_4.out⟩,⟨by repeat (first|(with_reducible first|exact HB.out|apply yA|apply yB|apply yC)|exact HB.out)⟩⟩
          ·replace c23:=Bool.eq_false_iff.mpr c23
           subst c23
           have H1:(laws_FnStarParts.j3 k3 t502 t503 t512 false x11_3 false)=some r:=by rw [if_neg (show ¬ (false=true) by decide)] at H;exact H
           clear H
           have H:=H1
           clear H1
           have H':=Aside0.mk H
           clear H
           go_wp2
           go_meet
           case rel=>exact ⟨_,(false),(by first|rfl|(simp;done)|(simp [*];done)|(simp [Int.tmod_eq_emod_of_nonneg];done)),H',⟨by have:=HJ5.out;have:=HJ15.out;have:=HK3.out;first|omega|exact Nat.le_refl _⟩,⟨by (with_reducible repeat (first|apply yH|apply yI|apply yJ));exact HO_4.out⟩,⟨by repeat (first|(with_reducible first|exact HB.out|apply yA|apply yB|apply yC)|exact HB.out)⟩⟩
         case rest =>
          clear HC22
          try clear c1
          try clear c2
          try clear c2b0
          try clear c2b1
          try clear p2
          try clear c4
          try clear c11
          try clear c12
          try clear c13
          try clear c14
          try clear c15
          try clear c17
          try clear c18
          try clear c23
          try clear p2
          obtain ⟨kq,x53_21,rfl,HA,HJ21,HO_4,HB⟩:=hcut
          cases kq with
          | zero=>exact absurd HA.out (by simp [laws_FnStarParts.j3])
          | succ kj21 =>
           have H:=HA.out
           clear HA
           simp only [laws_FnStarParts.j3] at H
           by_cases c24:x53_21=true
           ·subst c24
            have H1:((impl_StarHas.f kj21 t512 0).bind fun t514=>(if t514=true then ((impl_StarHas.f kj21 t512 x11_3).bind fun t515=>((impl_StarHas.f kj21 t502 x11_3).bind fun t516=>(if (t515 != t516)=true then (some false) else (laws_FnStarParts.l0 kj21 t502 t503 t512 t513 (wrap64 (x11_3+1)))))) else (laws_FnStarParts.l0 kj21 t502 t503 t512 t513 (wrap64 (x11_3+1)))))=some r:=by rw [if_pos rfl] at H;exact H
            clear H
            have H:=H1
            clear H1
            replace H:=Option.bind_eq_some_iff.mp H
            obtain ⟨t514,A250,H⟩:=H
            replace H:(if t514=true then ((impl_StarHas.f kj21 t512 x11_3).bind fun t515=>((impl_StarHas.f kj21 t502 x11_3).bind fun t516=>(if (t515 != t516)=true then (some false) else (laws_FnStarParts.l0 kj21 t502 t503 t512 t513 (wrap64 (x11_3+1)))))) else (laws_FnStarParts.l0 kj21 t502 t503 t512 t513 (wrap64 (x11_3+1))))=some r:=H
            have A25:=Aside0.mk A250
            clear A250
            by_cases c26:t514=true
            ·subst c26
             have H1:((impl_StarHas.f kj21 t512 x11_3).bind fun t515=>((impl_StarHas.f kj21 t502 x11_3).bind fun t516=>(if (t515 != t516)=true then (some false) else (laws_FnStarParts.l0 kj21 t502 t503 t512 t513 (wrap64 (x11_3+1))))))=some r:=by rw [if_pos rfl] at H;exact H
             clear H
             have H:=H1
             clear H1
             replace H:=Option.bind_eq_some_iff.mp H
             obtain ⟨t515,A270,H⟩:=H
             replace H:((impl_StarHas.f kj21 t502 x11_3).bind fun t516=>(if (t515 != t516)=true then (some false) else (laws_FnStarParts.l0 kj21 t502 t503 t512 t513 (wrap64 (x11_3+1)))))=some r:=H
             have A27:=Aside0.mk A270
             clear A270
             replace H:=Option.bind_eq_some_iff.mp H
             obtain ⟨t516,A280,H⟩:=H
             replace H:(if (t515 != t516)=true then (some false) else (laws_FnStarParts.l0 kj21 t502 t503 t512 t513 (wrap64 (x11_3+1))))=some r:=H
             have A28:=Aside0.mk A280
             clear A280
             by_cases c29:(t515 != t516)=true
             ·rw [if_pos c29] at H
              have c29b0:(t515 != t516)=true:=c29
              (try (have c29b1:decide (t515=t516)=false:=by simpa using c29))
              (try (have c29b2:(t515 == t516)=false:=by simpa using c29))
              (try (have c29b3:¬ (t515=t516):=by simpa using c29))
              clear c29
              obtain rfl:=Option.some.inj H
              go_wp2_with (first|((with_reducible refine gate_callee (f:=16) rfl ?_);refine goesL_ (some 57) rfl rfl Try.func16 (by kernel_rfl) rfl #[.string t512,.int .i64 0] rfl (by (try simp only [List.map_toArray,List.map_cons,List.map_nil]);first|done|rfl|(simp only [List.length_drop,List.length_take];rfl)) ?_;(with_reducible refine (impl_StarHas.calls kj21 t512 0 true _ A25.out).mono ?_);rintro e w30 ⟨rfl,hb⟩;refine ⟨_,rfl,?_⟩;have n0_:=Aside0.mk (Kd.R_below (by (with_reducible repeat (first|apply yH|apply yI|apply yJ));exact HO_4.out) hb);have n1_:=Aside0.mk (yP (by repeat (first|(with_reducible first|exact HB.out|apply yA|apply yB|apply yC)|exact HB.out)) hb);clear HO_4;clear HB;have HO_4:=n0_;have HB:=n1_;clear n0_ n1_;(try clear hb);(try clear hb2);(try clear hk);(try clear hi))|(go_at_call 16;(with_reducible refine (impl_StarHas.calls kj21 t512 x11_3 t515 _ A27.out).mono ?_);rintro e w31 ⟨rfl,hb⟩;have n0_:=Aside0.mk (Kd.R_below (by (with_reducible repeat (first|apply yH|apply yI|apply yJ));exact HO_4.out) hb);have n1_:=Aside0.mk (yP (by repeat (first|(with_reducible first|exact HB.out|apply yA|apply yB|apply yC)|exact HB.out)) hb);clear HO_4;clear HB;have HO_4:=n0_;have HB:=n1_;clear n0_ n1_;(try clear hb);(try clear hb2);(try clear hk);(try clear hi))|(go_at_call 16;(with_reducible refine (impl_StarHas.calls kj21 t502 x11_3 t516 _ A28.out).mono ?_);rintro e w32 ⟨rfl,hb⟩;have n0_:=Aside0.mk (Kd.R_below (by (with_reducible repeat (first|apply yH|apply yI|apply yJ));exact HO_4.out) hb);have n1_:=Aside0.mk (yP (by repeat (first|(with_reducible first|exact HB.out|apply yA|apply yB|apply yC)|exact HB.out)) hb);clear HO_4;clear HB;have HO_4:=n0_;have HB:=n1_;clear n0_ n1_;(try clear hb);(try clear hb2);(try clear hk);(try clear hi)))
              go_ret
              exact ⟨by first|rfl|(simp [errW_none,errW_some]<;>rfl)|(simp [*,errW_none,errW_some]<;>rfl)|(simp [errW_none,errW_some];exact ⟨rfl,rfl⟩),by repeat (first|(with_reducible first|exact HB.out|apply yA|apply yB|apply yC)|exact HB.out)⟩
             ·rw [if_neg c29] at H
              have c29b0:(t515 != t516)=false:=by simpa using c29
              (try (have c29b1:decide (t515=t516)=true:=by simpa using c29))
              (try (have c29b2:(t515 == t516)=true:=by simpa using c29))
              clear c29
              have H':=Aside0.mk H
              clear H
              go_wp2_with (first|((with_reducible refine gate_callee (f:=16) rfl ?_);refine goesL_ (some 57) rfl rfl Try.func16 (by kernel_rfl) rfl #[.string t512,.int .i64 0] rfl (by (try simp only [List.map_toArray,List.map_cons,List.map_nil]);first|done|rfl|(simp only [List.length_drop,List.length_take];rfl)) ?_;(with_reducible refine (impl_StarHas.calls kj21 t512 0 true _ A25.out).mono ?_);rintro e w33 ⟨rfl,hb⟩;refine ⟨_,rfl,?_⟩;have n0_:=Aside0.mk (Kd.R_below (by (with_reducible repeat (first|apply yH|apply yI|apply yJ));exact HO_4.out) hb);have n1_:=Aside0.mk (yP (by repeat (first|(with_reducible first|exact HB.out|apply yA|apply yB|apply yC)|exact HB.out)) hb);clear HO_4;clear HB;have HO_4:=n0_;have HB:=n1_;clear n0_ n1_;(try clear hb);(try clear hb2);(try clear hk);(try clear hi))|(go_at_call 16;(with_reducible refine (impl_StarHas.calls kj21 t512 x11_3 t515 _ A27.out).mono ?_);rintro e w34 ⟨rfl,hb⟩;have n0_:=Aside0.mk (Kd.R_below (by (with_reducible repeat (first|apply yH|apply yI|apply yJ));exact HO_4.out) hb);have n1_:=Aside0.mk (yP (by repeat (first|(with_reducible first|exact HB.out|apply yA|apply yB|apply yC)|exact HB.out)) hb);clear HO_4;clear HB;have HO_4:=n0_;have HB:=n1_;clear n0_ n1_;(try clear hb);(try clear hb2);(try clear hk);(try clear hi))|(go_at_call 16;(with_reducible refine (impl_StarHas.calls kj21 t502 x11_3 t516 _ A28.out).mono ?_);rintro e w35 ⟨rfl,hb⟩;have n0_:=Aside0.mk (Kd.R_below (by (with_reducible repeat (first|apply yH|apply yI|apply yJ));exact HO_4.out) hb);have n1_:=Aside0.mk (yP (by repeat (first|(with_reducible first|exact HB.out|apply yA|apply yB|apply yC)|exact HB.out)) hb);clear HO_4;clear HB;have HO_4:=n0_;have HB:=n1_;clear n0_ n1_;(try clear hb);(try clear hb2);(try clear hk);(try clear hi)))
              go_roundg kj21
              case measure=>have:=HJ5.out;have:=HJ15.out;have:=HK3.out;have:=HJ21.out;omega
              case rel=>exact ⟨(wrap64 (x11_3+1)),(by first|rfl|(simp;done)|(simp [*];done)|(simp [Int.tmod_eq_emod_of_nonneg];done)),H',⟨by have:=HJ5.out;have:=HJ15.out;have:=HK3.out;have:=HJ21.out;omega⟩,⟨by (with_reducible repeat (first|apply yH|apply yI|apply yJ));exact HO_4.out⟩,⟨by repeat (first|(with_reducible first|exact HB.out|apply yA|apply yB|apply yC)|exact HB.out)⟩⟩
            ·replace c26:=Bool.eq_false_iff.mpr c26
             subst c26
             have H1:(laws_FnStarParts.l0 kj21 t502 t503 t512 t513 (wrap64 (x11_3+1)))=some r:=by rw [if_neg (show ¬ (false=true) by decide)] at H;exact H
             clear H
             have H:=H1
             clear H1
             have H':=Aside0.mk H
             clear H
             go_wp2_with (first|((with_reducible refine gate_callee (f:=16) rfl ?_);refine goesL_ (some 57) rfl rfl Try.func16 (by kernel_rfl) rfl #[.string t512,.int .i64 0] rfl (by (try simp only [List.map_toArray,List.map_cons,List.map_nil]);first|done|rfl|(simp only [List.length_drop,List.length_take];rfl)) ?_;(with_reducible refine (impl_StarHas.calls kj21 t512 0 false _ A25.out).mono ?_);rintro e w36 ⟨rfl,hb⟩;refine ⟨_,rfl,?_⟩;have n0_:=Aside0.mk (Kd.R_below (by (with_reducible repeat (first|apply yH|apply yI|apply yJ));exact HO_4.out) hb);have n1_:=Aside0.mk (yP (by repeat (first|(with_reducible first|exact HB.out|apply yA|apply yB|apply yC)|exact HB.out)) hb);clear HO_4;clear HB;have HO_4:=n0_;have HB:=n1_;clear n0_ n1_;(try clear hb);(try clear hb2);(try clear hk);(try clear hi)))
             go_roundg kj21
             case measure=>have:=HJ5.out;have:=HJ15.out;have:=HK3.out;have:=HJ21.out;omega
             case rel=>exact ⟨(wrap64 (x11_3+1)),(by first|rfl|(simp;done)|(simp [*];done)|(simp [Int.tmod_eq_emod_of_nonneg];done)),H',⟨by have:=HJ5.out;have:=HJ15.out;have:=HK3.out;have:=HJ21.out;omega⟩,⟨by (with_reducible repeat (first|apply yH|apply yI|apply yJ));exact HO_4.out⟩,⟨by repeat (first|(with_reducible first|exact HB.out|apply yA|apply yB|apply yC)|exact HB.out)⟩⟩
           ·replace c24:=Bool.eq_false_iff.mpr c24
            subst c24
            have H1:(laws_FnStarParts.l1 kj21 t502 t503 t513 0)=some r:=by rw [if_neg (show ¬ (false=true) by decide)] at H;exact H
            clear H
            have H:=H1
            clear H1
            have H':=Aside0.mk H
            clear H
            go_wp2
            go_loopg [13] kj21 (fun kq v13 w'=>∃ (x13_5:Int),v13=.int .i64 x13_5∧Aside0 (laws_FnStarParts.l1 kq t502 t503 t513 x13_5=some r)∧Aside0 (kq≤kj21)∧Aside0 (Kd.R (Kd.int .i64) 3 w' w.heap.size (fun _=>True) (.slice Ao20 t503.length co20) t503)∧Aside0 (Below w.heap.size w w'))
            case atStart=>exact ⟨(0),(by first|rfl|(simp;done)|(simp [*];done)|(simp [Int.tmod_eq_emod_of_nonneg];done)),H',⟨Nat.le_refl _⟩,⟨by (with_reducible repeat (first|apply yH|apply yI|apply yJ));exact HO_4.out⟩,⟨by repeat (first|(with_reducible first|exact HB.out|apply yA|apply yB|apply yC)|exact HB.out)⟩⟩
            case round =>
             clear H'
             try clear c1
             try clear c2
             try clear c2b0
             try clear c2b1
             try clear p2
             try clear c4
             try clear p6
             try clear c11
             try clear c12
             try clear c13
             try clear c14
             try clear c15
             try clear c16
             try clear c17
             try clear c18
             try clear c23
             try clear c24
             try clear c26
             try clear c29
             try clear c29b0
             try clear c29b1
             try clear c29b2
             try clear p2
             obtain ⟨x13_5,rfl,HA,HK5,HO_4,HB⟩:=hrel
             cases gk with
             | zero=>exact absurd HA.out (by simp [laws_FnStarParts.l1])
             | succ k5 =>
              have H:=HA.out
              clear HA
              simp only [laws_FnStarParts.l1] at H
              by_cases c37:x13_5<(t503.length:Int)
              ·rw [if_pos c37] at H
               have c37b0:decide (x13_5<(t503.length:Int))=true:=decide_eq_true c37
               clear c37
               by_cases c38:0≤x13_5
               ·rw [if_pos c38] at H
                have c38b0:decide (0≤x13_5)=true:=decide_eq_true c38
                clear c38
                replace H:=Option.bind_eq_some_iff.mp H
                obtain ⟨t518,A390,H⟩:=H
                replace H:(if t518=true then (if (rd t503 x13_5)<1 then (some false) else (if x13_5 > 0 then (if 0≤(wrap64 (x13_5 - 1)) then (if (wrap64 (x13_5 - 1))<(t503.length:Int) then (if (rd t503 (wrap64 (x13_5 - 1))) ≥ (rd t503 x13_5) then (some false) else (laws_FnStarParts.l1 k5 t502 t503 t513 (wrap64 (x13_5+1)))) else (none)) else (none)) else (laws_FnStarParts.l1 k5 t502 t503 t513 (wrap64 (x13_5+1))))) else (some false))=some r:=H
                have A39:=Aside0.mk A390
                clear A390
                by_cases c40:t518=true
                ·subst c40
                 have H1:(if (rd t503 x13_5)<1 then (some false) else (if x13_5 > 0 then (if 0≤(wrap64 (x13_5 - 1)) then (if (wrap64 (x13_5 - 1))<(t503.length:Int) then (if (rd t503 (wrap64 (x13_5 - 1))) ≥ (rd t503 x13_5) then (some false) else (laws_FnStarParts.l1 k5 t502 t503 t513 (wrap64 (x13_5+1)))) else (none)) else (none)) else (laws_FnStarParts.l1 k5 t502 t503 t513 (wrap64 (x13_5+1)))))=some r:=by rw [if_pos rfl] at H;exact H
                 clear H
                 have H:=H1
                 clear H1
                 by_cases c41:(rd t503 x13_5)<1
                 ·rw [if_pos c41] at H
                  have c41b0:decide ((rd t503 x13_5)<1)=true:=decide_eq_true c41
                  clear c41
                  obtain rfl:=Option.some.inj H
                  try go_wp2
                  have n0_:=Aside0.mk (yJ HO_4.out)
                  have n1_:=Aside0.mk (yC HB.out)
                  clear HO_4
                  clear HB
                  have HO_4:=n0_
                  have HB:=n1_
                  clear n0_ n1_
                  have p517:0≤(x13_5:Int):=of_decide_eq_true (by first|(with_reducible assumption)|assumption)
                  have q517:x13_5<(t503.length:Int):=of_decide_eq_true (by first|(with_reducible assumption)|assumption)
                  obtain ⟨ad517,e517,hx517_0⟩:=Kd.at_int (Kd.R_reads' HO_4.out).2.2 x13_5 p517 q517
                  cases e517
                  replace p517:=eq_true p517
                  replace q517:=eq_true q517
                  have p519:0≤(x13_5:Int):=of_decide_eq_true (by first|(with_reducible assumption)|assumption)
                  have q519:x13_5<(t503.length:Int):=of_decide_eq_true (by first|(with_reducible assumption)|assumption)
                  obtain ⟨ad519,e519,hx519_0⟩:=Kd.at_int (Kd.R_reads' HO_4.out).2.2 x13_5 p519 q519
                  obtain rfl:ad517=ad519:=(by injection e519)
                  replace p519:=eq_true p519
                  replace q519:=eq_true q519
                  refine start_ (n:=30) (S:=fun w'=>w'.cell? (ad517.add (x13_5).toNat)=some (.int .i64 (rd t503 x13_5))∧w'.cell? (ad517.add (x13_5).toNat)=some (.int .i64 (rd t503 x13_5))) (ds:=[]) #[false,false,false,false,false,false,false,false,false,false,false,false,false,false,false,false,false,false,false,false,false,false,false,false,false,false,false,false,false,false] (by kernel_rfl) rfl rfl ⟨hx517_0,hx519_0⟩ (fun hHeld=>?_);refine with_tabW laws_FnStarParts.tab19 laws_FnStarParts.bits19 (fun HT_ HW_=>?_)
                  generalize wr.drew=w42 at HO_4 HB hx517_0 hx519_0 hHeld ⊢
                  refine pure_ (i:=0) (N:=some 74) (v:=?_) (a':=?_) #[true,false,false,false,false,false,false,false,false,false,false,false,false,false,false,false,false,false,false,false,false,false,false,false,false,false,false,false,false,false] rfl rfl (any_of HT_.out (by kernel_rfl)) (fun _ _ _ h=>h) (Or.inl ⟨by rfl,?_⟩) ?_ ?_
                  rotate_left
                  ·intro w'
                   go_simp
                   with_reducible rfl
                  rotate_left
                  ·simp only [Act.put,yK,yL,yM,i64_w,i32_w]
                   rfl
                  refine pure_ (i:=1) (N:=some 75) (v:=?_) (a':=?_) #[true,true,false,false,false,false,false,false,false,false,false,false,false,false,false,false,false,false,false,false,false,false,false,false,false,false,false,false,false,false] rfl rfl (any_of HT_.out (by kernel_rfl)) (fun _ _ _ h=>h) (Or.inl ⟨by rfl,?_⟩) ?_ ?_
                  rotate_left
                  ·intro w'
                   go_simp
                   with_reducible rfl
                  rotate_left
                  ·simp only [Act.put,yK,yL,yM,i64_w,i32_w]
                   rfl
                  refine pure_ (i:=2) (N:=some 76) (v:=?_) (a':=?_) #[true,true,true,false,false,false,false,false,false,false,false,false,false,false,false,false,false,false,false,false,false,false,false,false,false,false,false,false,false,false] rfl rfl (any_of HT_.out (by kernel_rfl)) (fun _ _ _ h=>h) (Or.inl ⟨by rfl,?_⟩) ?_ ?_
                  rotate_left
                  ·intro w'
                   go_simp
                   with_reducible rfl
                  rotate_left
                  ·simp only [Act.put,yK,yL,yM,i64_w,i32_w]
                   rfl
                  refine pure_ (i:=3) (N:=some 77) (v:=?_) (a':=?_) #[true,true,true,true,false,false,false,false,false,false,false,false,false,false,false,false,false,false,false,false,false,false,false,false,false,false,false,false,false,false] rfl rfl (any_of HT_.out (by kernel_rfl)) (fun _ _ _ h=>h) (Or.inl ⟨by rfl,?_⟩) ?_ ?_
                  rotate_left
                  ·intro w'
                   go_simp
                   with_reducible rfl
                  rotate_left
                  ·simp only [Act.put,yK,yL,yM,i64_w,i32_w]
                   rfl
                  refine take_ (i:=4) (N:=some 78) (v:=?_) (a':=?_) #[true,true,true,true,true,false,false,false,false,false,false,false,false,false,false,false,false,false,false,false,false,false,false,false,false,false,false,false,false,false] rfl rfl (take_ofW HT_.out HW_.out (by kernel_rfl)) (fun _ _ _ h=>h) (Or.inl ⟨by rfl,?_⟩) hHeld ?_ ?_
                  rotate_left
                  ·rintro w' ⟨s0,s1⟩
                   go_simp
                   with_reducible rfl
                  rotate_left
                  ·simp only [Act.put,yK,yL,yM,i64_w,i32_w]
                   rfl
                  refine one_ (i:=5) (N:=some 79) #[true,true,true,true,true,true,false,false,false,false,false,false,false,false,false,false,false,false,false,false,false,false,false,false,false,false,false,false,false,false] rfl rfl (one_of HT_.out (by kernel_rfl)) (by decide) (fun K hK=>?_)
                  refine goes_ Try.func9 (by kernel_rfl) rfl #[.string t502,.int .i64 (rd t503 x13_5)] (by rfl) rfl rfl (by (try simp only [List.map_toArray,List.map_cons,List.map_nil]);first|done|rfl|(simp only [List.length_drop,List.length_take];rfl)) ?_
                  with_reducible refine (impl_SetHas.calls k5 t502 (rd t503 x13_5) true _ A39.out).mono ?_
                  rintro e w43 ⟨rfl,hb⟩
                  have HS0_:=(hb.cell (World.block_lt_of_cell? _ _ (hHeld.1))).trans (hHeld.1)
                  have HS1_:=(hb.cell (World.block_lt_of_cell? _ _ (hHeld.2))).trans (hHeld.2)
                  refine ⟨_,rfl,?_⟩
                  have n0_:=Aside0.mk (Kd.R_below (by (with_reducible repeat (first|apply yH|apply yI|apply yJ));exact HO_4.out) hb)
                  have n1_:=Aside0.mk (yP (by repeat (first|(with_reducible first|exact HB.out|apply yA|apply yB|apply yC)|exact HB.out)) hb)
                  clear HO_4
                  clear HB
                  have HO_4:=n0_
                  have HB:=n1_
                  clear n0_ n1_
                  (try clear hb)
                  (try clear hb2)
                  (try clear hk)
                  (try clear hi)
                  refine hK.out _ _ ⟨HS0_,HS1_⟩ (fun hHeld=>?_)
                  clear hK K
                  refine norm_ (a':=?_) ?_ ?_
                  rotate_left
                  ·show Act.put _ (some 79) _=_
                   simp only [Act.put,yK,yL,yM,i64_w,i32_w]
                   rfl
                  refine pure_ (i:=6) (N:=some 80) (v:=?_) (a':=?_) #[true,true,true,true,true,true,true,false,false,false,false,false,false,false,false,false,false,false,false,false,false,false,false,false,false,false,false,false,false,false] rfl rfl (any_of HT_.out (by kernel_rfl)) (fun _ _ _ h=>h) (Or.inl ⟨by rfl,?_⟩) ?_ ?_
                  rotate_left
                  ·intro w'
                   go_simp
                   with_reducible rfl
                  rotate_left
                  ·simp only [Act.put,yK,yL,yM,i64_w,i32_w]
                   rfl
                  refine pure_ (i:=7) (N:=some 81) (v:=?_) (a':=?_) #[true,true,true,true,true,true,true,true,false,false,false,false,false,false,false,false,false,false,false,false,false,false,false,false,false,false,false,false,false,false] rfl rfl (any_of HT_.out (by kernel_rfl)) (fun _ _ _ h=>h) (Or.inl ⟨by rfl,?_⟩) ?_ ?_
                  rotate_left
                  ·intro w'
                   go_simp
                   with_reducible rfl
                  rotate_left
                  ·simp only [Act.put,yK,yL,yM,i64_w,i32_w]
                   rfl
                  refine pure_ (i:=8) (N:=some 82) (v:=?_) (a':=?_) #[true,true,true,true,true,true,true,true,true,false,false,false,false,false,false,false,false,false,false,false,false,false,false,false,false,false,false,false,false,false] rfl rfl (any_of HT_.out (by kernel_rfl)) (fun _ _ _ h=>h) (Or.inl ⟨by rfl,?_⟩) ?_ ?_
                  rotate_left
                  ·intro w'
                   go_simp
                   with_reducible rfl
                  rotate_left
                  ·simp only [Act.put,yK,yL,yM,i64_w,i32_w]
                   rfl
                  refine pure_ (i:=9) (N:=some 83) (v:=?_) (a':=?_) #[true,true,true,true,true,true,true,true,true,true,false,false,false,false,false,false,false,false,false,false,false,false,false,false,false,false,false,false,false,false] rfl rfl (any_of HT_.out (by kernel_rfl)) (fun _ _ _ h=>h) (Or.inl ⟨by rfl,?_⟩) ?_ ?_
                  rotate_left
                  ·intro w'
                   go_simp
                   with_reducible rfl
                  rotate_left
                  ·simp only [Act.put,yK,yL,yM,i64_w,i32_w]
                   rfl
                  refine pure_ (i:=10) (N:=some 84) (v:=?_) (a':=?_) #[true,true,true,true,true,true,true,true,true,true,true,false,false,false,false,false,false,false,false,false,false,false,false,false,false,false,false,false,false,false] rfl rfl (any_of HT_.out (by kernel_rfl)) (fun _ _ _ h=>h) (Or.inl ⟨by rfl,?_⟩) ?_ ?_
                  rotate_left
                  ·intro w'
                   go_simp
                   with_reducible rfl
                  rotate_left
                  ·simp only [Act.put,yK,yL,yM,i64_w,i32_w]
                   rfl
                  refine take_ (i:=11) (N:=some 85) (v:=?_) (a':=?_) #[true,true,true,true,true,true,true,true,true,true,true,true,false,false,false,false,false,false,false,false,false,false,false,false,false,false,false,false,false,false] rfl rfl (take_ofW HT_.out HW_.out (by kernel_rfl)) (fun _ _ _ h=>h) (Or.inl ⟨by rfl,?_⟩) hHeld ?_ ?_
                  rotate_left
                  ·rintro w' ⟨s0,s1⟩
                   go_simp
                   with_reducible rfl
                  rotate_left
                  ·simp only [Act.put,yK,yL,yM,i64_w,i32_w]
                   rfl
                  refine pure_ (i:=12) (N:=some 86) (v:=?_) (a':=?_) #[true,true,true,true,true,true,true,true,true,true,true,true,true,false,false,false,false,false,false,false,false,false,false,false,false,false,false,false,false,false] rfl rfl (any_of HT_.out (by kernel_rfl)) (fun _ _ _ h=>h) (Or.inl ⟨by rfl,?_⟩) ?_ ?_
                  rotate_left
                  ·intro w'
                   go_simp
                   with_reducible rfl
                  rotate_left
                  ·simp only [Act.put,yK,yL,yM,i64_w,i32_w]
                   rfl
                  refine pure_ (i:=13) (N:=some 87) (v:=?_) (a':=?_) #[true,true,true,true,true,true,true,true,true,true,true,true,true,true,false,false,false,false,false,false,false,false,false,false,false,false,false,false,false,false] rfl rfl (any_of HT_.out (by kernel_rfl)) (fun _ _ _ h=>h) (Or.inl ⟨by rfl,?_⟩) ?_ ?_
                  rotate_left
                  ·intro w'
                   go_simp
                   with_reducible rfl
                  rotate_left
                  ·simp only [Act.put,yK,yL,yM,i64_w,i32_w]
                   rfl
                  refine pure_ (i:=14) (N:=some 88) (v:=?_) (a':=?_) #[true,true,true,true,true,true,true,true,true,true,true,true,true,true,true,false,false,false,false,false,false,false,false,false,false,false,false,false,false,false] rfl rfl (any_of HT_.out (by kernel_rfl)) (fun _ _ _ h=>h) (Or.inl ⟨by rfl,?_⟩) ?_ ?_
                  rotate_left
                  ·intro w'
                   go_simp
                   with_reducible rfl
                  rotate_left
                  ·simp only [Act.put,yK,yL,yM,i64_w,i32_w]
                   rfl
                  refine pure_ (i:=15) (N:=some 89) (v:=undef) (a':=?_) #[true,true,true,true,true,true,true,true,true,true,true,true,true,true,true,true,false,false,false,false,false,false,false,false,false,false,false,false,false,false] rfl rfl (any_of HT_.out (by kernel_rfl)) (fun _ _ _ h=>h) (Or.inr ⟨by rfl,rfl⟩) ?_ ?_
                  rotate_left
                  ·simp only [Act.put,yK,yL,yM,i64_w,i32_w]
                   rfl
                  refine pure_ (i:=16) (N:=some 90) (v:=undef) (a':=?_) #[true,true,true,true,true,true,true,true,true,true,true,true,true,true,true,true,true,false,false,false,false,false,false,false,false,false,false,false,false,false] rfl rfl (any_of HT_.out (by kernel_rfl)) (fun _ _ _ h=>h) (Or.inr ⟨by rfl,rfl⟩) ?_ ?_
                  rotate_left
                  ·simp only [Act.put,yK,yL,yM,i64_w,i32_w]
                   rfl
                  refine pure_ (i:=17) (N:=some 91) (v:=undef) (a':=?_) #[true,true,true,true,true,true,true,true,true,true,true,true,true,true,true,true,true,true,false,false,false,false,false,false,false,false,false,false,false,false] rfl rfl (any_of HT_.out (by kernel_rfl)) (fun _ _ _ h=>h) (Or.inr ⟨by rfl,rfl⟩) ?_ ?_
                  rotate_left
                  ·simp only [Act.put,yK,yL,yM,i64_w,i32_w]
                   rfl
                  refine pure_ (i:=18) (N:=some 92) (v:=undef) (a':=?_) #[true,true,true,true,true,true,true,true,true,true,true,true,true,true,true,true,true,true,true,false,false,false,false,false,false,false,false,false,false,false] rfl rfl (any_of HT_.out (by kernel_rfl)) (fun _ _ _ h=>h) (Or.inr ⟨by rfl,rfl⟩) ?_ ?_
                  rotate_left
                  ·simp only [Act.put,yK,yL,yM,i64_w,i32_w]
                   rfl
                  refine pure_ (i:=19) (N:=some 93) (v:=undef) (a':=?_) #[true,true,true,true,true,true,true,true,true,true,true,true,true,true,true,true,true,true,true,true,false,false,false,false,false,false,false,false,false,false] rfl rfl (any_of HT_.out (by kernel_rfl)) (fun _ _ _ h=>h) (Or.inr ⟨by rfl,rfl⟩) ?_ ?_
                  rotate_left
                  ·simp only [Act.put,yK,yL,yM,i64_w,i32_w]
                   rfl
                  refine pure_ (i:=20) (N:=some 94) (v:=undef) (a':=?_) #[true,true,true,true,true,true,true,true,true,true,true,true,true,true,true,true,true,true,true,true,true,false,false,false,false,false,false,false,false,false] rfl rfl (any_of HT_.out (by kernel_rfl)) (fun _ _ _ h=>h) (Or.inr ⟨by rfl,rfl⟩) ?_ ?_
                  rotate_left
                  ·simp only [Act.put,yK,yL,yM,i64_w,i32_w]
                   rfl
                  refine pure_ (i:=21) (N:=some 95) (v:=undef) (a':=?_) #[true,true,true,true,true,true,true,true,true,true,true,true,true,true,true,true,true,true,true,true,true,true,false,false,false,false,false,false,false,false] rfl rfl (any_of HT_.out (by kernel_rfl)) (fun _ _ _ h=>h) (Or.inr ⟨by rfl,rfl⟩) ?_ ?_
                  rotate_left
                  ·simp only [Act.put,yK,yL,yM,i64_w,i32_w]
                   rfl
                  refine pure_ (i:=22) (N:=some 96) (v:=undef) (a':=?_) #[true,true,true,true,true,true,true,true,true,true,true,true,true,true,true,true,true,true,true,true,true,true,true,false,false,false,false,false,false,false] rfl rfl (any_of HT_.out (by kernel_rfl)) (fun _ _ _ h=>h) (Or.inr ⟨by rfl,rfl⟩) ?_ ?_
                  rotate_left
                  ·simp only [Act.put,yK,yL,yM,i64_w,i32_w]
                   rfl
                  refine pure_ (i:=23) (N:=some 97) (v:=undef) (a':=?_) #[true,true,true,true,true,true,true,true,true,true,true,true,true,true,true,true,true,true,true,true,true,true,true,true,false,false,false,false,false,false] rfl rfl (any_of HT_.out (by kernel_rfl)) (fun _ _ _ h=>h) (Or.inr ⟨by rfl,rfl⟩) ?_ ?_
                  rotate_left
                  ·simp only [Act.put,yK,yL,yM,i64_w,i32_w]
                   rfl
                  refine pure_ (i:=24) (N:=some 98) (v:=undef) (a':=?_) #[true,true,true,true,true,true,true,true,true,true,true,true,true,true,true,true,true,true,true,true,true,true,true,true,true,false,false,false,false,false] rfl rfl (any_of HT_.out (by kernel_rfl)) (fun _ _ _ h=>h) (Or.inr ⟨by rfl,rfl⟩) ?_ ?_
                  rotate_left
                  ·simp only [Act.put,yK,yL,yM,i64_w,i32_w]
                   rfl
                  refine pure_ (i:=25) (N:=some 99) (v:=undef) (a':=?_) #[true,true,true,true,true,true,true,true,true,true,true,true,true,true,true,true,true,true,true,true,true,true,true,true,true,true,false,false,false,false] rfl rfl (any_of HT_.out (by kernel_rfl)) (fun _ _ _ h=>h) (Or.inr ⟨by rfl,rfl⟩) ?_ ?_
                  rotate_left
                  ·simp only [Act.put,yK,yL,yM,i64_w,i32_w]
                   rfl
                  refine pure_ (i:=26) (N:=some 100) (v:=undef) (a':=?_) #[true,true,true,true,true,true,true,true,true,true,true,true,true,true,true,true,true,true,true,true,true,true,true,true,true,true,true,false,false,false] rfl rfl (any_of HT_.out (by kernel_rfl)) (fun _ _ _ h=>h) (Or.inr ⟨by rfl,rfl⟩) ?_ ?_
                  rotate_left
                  ·simp only [Act.put,yK,yL,yM,i64_w,i32_w]
                   rfl
                  refine pure_ (i:=27) (N:=some 101) (v:=undef) (a':=?_) #[true,true,true,true,true,true,true,true,true,true,true,true,true,true,true,true,true,true,true,true,true,true,true,true,true,true,true,true,false,false] rfl rfl (any_of HT_.out (by kernel_rfl)) (fun _ _ _ h=>h) (Or.inr ⟨by rfl,rfl⟩) ?_ ?_
                  rotate_left
                  ·simp only [Act.put,yK,yL,yM,i64_w,i32_w]
                   rfl
                  refine pure_ (i:=28) (N:=some 102) (v:=undef) (a':=?_) #[true,true,true,true,true,true,true,true,true,true,true,true,true,true,true,true,true,true,true,true,true,true,true,true,true,true,true,true,true,false] rfl rfl (any_of HT_.out (by kernel_rfl)) (fun _ _ _ h=>h) (Or.inr ⟨by rfl,rfl⟩) ?_ ?_
                  rotate_left
                  ·simp only [Act.put,yK,yL,yM,i64_w,i32_w]
                   rfl
                  refine pure_ (i:=29) (N:=some 103) (v:=?_) (a':=?_) #[true,true,true,true,true,true,true,true,true,true,true,true,true,true,true,true,true,true,true,true,true,true,true,true,true,true,true,true,true,true] rfl rfl (any_of HT_.out (by kernel_rfl)) (fun _ _ _ h=>h) (Or.inl ⟨by rfl,?_⟩) ?_ ?_
                  rotate_left
                  ·intro w'
                   go_simp
                   with_reducible rfl
                  rotate_left
                  ·simp only [Act.put,yK,yL,yM,i64_w,i32_w]
                   rfl
                  refine done_ (done_of HT_.out (by kernel_rfl)) ?_
                  try go_wp2
                  go_ret
                  exact ⟨by first|rfl|(simp [errW_none,errW_some]<;>rfl)|(simp [*,errW_none,errW_some]<;>rfl)|(simp [errW_none,errW_some];exact ⟨rfl,rfl⟩),by repeat (first|(with_reducible first|exact HB.out|apply yA|apply yB|apply yC)|exact HB.out)⟩
                 ·rw [if_neg c41] at H
                  have c41b0:decide ((rd t503 x13_5)<1)=false:=decide_eq_false c41
                  clear c41
                  by_cases c44:x13_5 > 0
                  ·rw [if_pos c44] at H
                   have c44b0:decide (0<x13_5)=true:=decide_eq_true c44
                   clear c44
                   obtain ⟨ji45,hji45⟩:∃ j_:Int,(wrap64 (x13_5 - 1))=j_:=⟨_,rfl⟩
                   replace H:(if 0≤(ji45) then (if (ji45)<(t503.length:Int) then (if (rd t503 (ji45)) ≥ (rd t503 x13_5) then (some false) else (laws_FnStarParts.l1 k5 t502 t503 t513 (wrap64 (x13_5+1)))) else (none)) else (none))=some r:=by first|(rw [hji45] at H;exact H)|(simp only [hji45] at H ⊢;exact H)
                   (try rw [hji45] at A39)
                   have hji45w:(IntKind.i64.wrap (x13_5 - 1))=ji45:=(i64_w _).trans hji45
                   by_cases c46:0≤(ji45)
                   ·rw [if_pos c46] at H
                    have c46b0:decide (0≤(ji45))=true:=decide_eq_true c46
                    clear c46
                    by_cases c47:(ji45)<(t503.length:Int)
                    ·rw [if_pos c47] at H
                     have c47b0:decide ((ji45)<(t503.length:Int))=true:=decide_eq_true c47
                     clear c47
                     by_cases c48:(rd t503 (ji45)) ≥ (rd t503 x13_5)
                     ·rw [if_pos c48] at H
                      have c48b0:decide ((rd t503 x13_5)≤(rd t503 (ji45)))=true:=decide_eq_true c48
                      clear c48
                      obtain rfl:=Option.some.inj H
                      try go_wp2
                      have n0_:=Aside0.mk (yJ HO_4.out)
                      have n1_:=Aside0.mk (yC HB.out)
                      clear HO_4
                      clear HB
                      have HO_4:=n0_
                      have HB:=n1_
                      clear n0_ n1_
                      have p517:0≤(x13_5:Int):=of_decide_eq_true (by first|(with_reducible assumption)|assumption)
                      have q517:x13_5<(t503.length:Int):=of_decide_eq_true (by first|(with_reducible assumption)|assumption)
                      obtain ⟨ad517,e517,hx517_0⟩:=Kd.at_int (Kd.R_reads' HO_4.out).2.2 x13_5 p517 q517
                      cases e517
                      replace p517:=eq_true p517
                      replace q517:=eq_true q517
                      have p519:0≤(x13_5:Int):=of_decide_eq_true (by first|(with_reducible assumption)|assumption)
                      have q519:x13_5<(t503.length:Int):=of_decide_eq_true (by first|(with_reducible assumption)|assumption)
                      obtain ⟨ad519,e519,hx519_0⟩:=Kd.at_int (Kd.R_reads' HO_4.out).2.2 x13_5 p519 q519
                      obtain rfl:ad517=ad519:=(by injection e519)
                      replace p519:=eq_true p519
                      replace q519:=eq_true q519
                      have p520:0≤((ji45):Int):=of_decide_eq_true (by first|(with_reducible assumption)|assumption)
                      have q520:(ji45)<(t503.length:Int):=of_decide_eq_true (by first|(with_reducible assumption)|assumption)
                      obtain ⟨ad520,e520,hx520_0⟩:=Kd.at_int (Kd.R_reads' HO_4.out).2.2 (ji45) p520 q520
                      obtain rfl:ad517=ad520:=(by injection e520)
                      replace p520:=eq_true p520
                      replace q520:=eq_true q520
                      have p521:0≤(x13_5:Int):=of_decide_eq_true (by first|(with_reducible assumption)|assumption)
                      have q521:x13_5<(t503.length:Int):=of_decide_eq_true (by first|(with_reducible assumption)|assumption)
                      obtain ⟨ad521,e521,hx521_0⟩:=Kd.at_int (Kd.R_reads' HO_4.out).2.2 x13_5 p521 q521
                      obtain rfl:ad517=ad521:=(by injection e521)
                      replace p521:=eq_true p521
                      replace q521:=eq_true q521
                      refine start_ (n:=30) (S:=fun w'=>w'.cell? (ad517.add (x13_5).toNat)=some (.int .i64 (rd t503 x13_5))∧w'.cell? (ad517.add (x13_5).toNat)=some (.int .i64 (rd t503 x13_5))∧w'.cell? (ad517.add ((ji45)).toNat)=some (.int .i64 (rd t503 (ji45)))∧w'.cell? (ad517.add (x13_5).toNat)=some (.int .i64 (rd t503 x13_5))) (ds:=[]) #[false,false,false,false,false,false,false,false,false,false,false,false,false,false,false,false,false,false,false,false,false,false,false,false,false,false,false,false,false,false] (by kernel_rfl) rfl rfl ⟨hx517_0,hx519_0,hx520_0,hx521_0⟩ (fun hHeld=>?_);refine with_tabW laws_FnStarParts.tab19 laws_FnStarParts.bits19 (fun HT_ HW_=>?_)
                      generalize wr.drew=w49 at HO_4 HB hx517_0 hx519_0 hx520_0 hx521_0 hHeld ⊢
                      refine pure_ (i:=0) (N:=some 74) (v:=?_) (a':=?_) #[true,false,false,false,false,false,false,false,false,false,false,false,false,false,false,false,false,false,false,false,false,false,false,false,false,false,false,false,false,false] rfl rfl (any_of HT_.out (by kernel_rfl)) (fun _ _ _ h=>h) (Or.inl ⟨by rfl,?_⟩) ?_ ?_
                      rotate_left
                      ·intro w'
                       go_simp
                       with_reducible rfl
                      rotate_left
                      ·simp only [Act.put,yK,yL,yM,i64_w,i32_w]
                       rfl
                      refine pure_ (i:=1) (N:=some 75) (v:=?_) (a':=?_) #[true,true,false,false,false,false,false,false,false,false,false,false,false,false,false,false,false,false,false,false,false,false,false,false,false,false,false,false,false,false] rfl rfl (any_of HT_.out (by kernel_rfl)) (fun _ _ _ h=>h) (Or.inl ⟨by rfl,?_⟩) ?_ ?_
                      rotate_left
                      ·intro w'
                       go_simp
                       with_reducible rfl
                      rotate_left
                      ·simp only [Act.put,yK,yL,yM,i64_w,i32_w]
                       rfl
                      refine pure_ (i:=2) (N:=some 76) (v:=?_) (a':=?_) #[true,true,true,false,false,false,false,false,false,false,false,false,false,false,false,false,false,false,false,false,false,false,false,false,false,false,false,false,false,false] rfl rfl (any_of HT_.out (by kernel_rfl)) (fun _ _ _ h=>h) (Or.inl ⟨by rfl,?_⟩) ?_ ?_
                      rotate_left
                      ·intro w'
                       go_simp
                       with_reducible rfl
                      rotate_left
                      ·simp only [Act.put,yK,yL,yM,i64_w,i32_w]
                       rfl
                      refine pure_ (i:=3) (N:=some 77) (v:=?_) (a':=?_) #[true,true,true,true,false,false,false,false,false,false,false,false,false,false,false,false,false,false,false,false,false,false,false,false,false,false,false,false,false,false] rfl rfl (any_of HT_.out (by kernel_rfl)) (fun _ _ _ h=>h) (Or.inl ⟨by rfl,?_⟩) ?_ ?_
                      rotate_left
                      ·intro w'
                       go_simp
                       with_reducible rfl
                      rotate_left
                      ·simp only [Act.put,yK,yL,yM,i64_w,i32_w]
                       rfl
                      refine take_ (i:=4) (N:=some 78) (v:=?_) (a':=?_) #[true,true,true,true,true,false,false,false,false,false,false,false,false,false,false,false,false,false,false,false,false,false,false,false,false,false,false,false,false,false] rfl rfl (take_ofW HT_.out HW_.out (by kernel_rfl)) (fun _ _ _ h=>h) (Or.inl ⟨by rfl,?_⟩) hHeld ?_ ?_
                      rotate_left
                      ·rintro w' ⟨s0,s1,s2,s3⟩
                       go_simp
                       with_reducible rfl
                      rotate_left
                      ·simp only [Act.put,yK,yL,yM,i64_w,i32_w]
                       rfl
                      refine one_ (i:=5) (N:=some 79) #[true,true,true,true,true,true,false,false,false,false,false,false,false,false,false,false,false,false,false,false,false,false,false,false,false,false,false,false,false,false] rfl rfl (one_of HT_.out (by kernel_rfl)) (by decide) (fun K hK=>?_)
                      refine goes_ Try.func9 (by kernel_rfl) rfl #[.string t502,.int .i64 (rd t503 x13_5)] (by rfl) rfl rfl (by (try simp only [List.map_toArray,List.map_cons,List.map_nil]);first|done|rfl|(simp only [List.length_drop,List.length_take];rfl)) ?_
                      with_reducible refine (impl_SetHas.calls k5 t502 (rd t503 x13_5) true _ A39.out).mono ?_
                      rintro e w50 ⟨rfl,hb⟩
                      have HS0_:=(hb.cell (World.block_lt_of_cell? _ _ (hHeld.1))).trans (hHeld.1)
                      have HS1_:=(hb.cell (World.block_lt_of_cell? _ _ (hHeld.2.1))).trans (hHeld.2.1)
                      have HS2_:=(hb.cell (World.block_lt_of_cell? _ _ (hHeld.2.2.1))).trans (hHeld.2.2.1)
                      have HS3_:=(hb.cell (World.block_lt_of_cell? _ _ (hHeld.2.2.2))).trans (hHeld.2.2.2)
                      refine ⟨_,rfl,?_⟩
                      have n0_:=Aside0.mk (Kd.R_below (by (with_reducible repeat (first|apply yH|apply yI|apply yJ));exact HO_4.out) hb)
                      have n1_:=Aside0.mk (yP (by repeat (first|(with_reducible first|exact HB.out|apply yA|apply yB|apply yC)|exact HB.out)) hb)
                      clear HO_4
                      clear HB
                      have HO_4:=n0_
                      have HB:=n1_
                      clear n0_ n1_
                      (try clear hb)
                      (try clear hb2)
                      (try clear hk)
                      (try clear hi)
                      refine hK.out _ _ ⟨HS0_,HS1_,HS2_,HS3_⟩ (fun hHeld=>?_)
                      clear hK K
                      refine norm_ (a':=?_) ?_ ?_
                      rotate_left
                      ·show Act.put _ (some 79) _=_
                       simp only [Act.put,yK,yL,yM,i64_w,i32_w]
                       rfl
                      refine pure_ (i:=6) (N:=some 80) (v:=?_) (a':=?_) #[true,true,true,true,true,true,true,false,false,false,false,false,false,false,false,false,false,false,false,false,false,false,false,false,false,false,false,false,false,false] rfl rfl (any_of HT_.out (by kernel_rfl)) (fun _ _ _ h=>h) (Or.inl ⟨by rfl,?_⟩) ?_ ?_
                      rotate_left
                      ·intro w'
                       go_simp
                       with_reducible rfl
                      rotate_left
                      ·simp only [Act.put,yK,yL,yM,i64_w,i32_w]
                       rfl
                      refine pure_ (i:=7) (N:=some 81) (v:=?_) (a':=?_) #[true,true,true,true,true,true,true,true,false,false,false,false,false,false,false,false,false,false,false,false,false,false,false,false,false,false,false,false,false,false] rfl rfl (any_of HT_.out (by kernel_rfl)) (fun _ _ _ h=>h) (Or.inl ⟨by rfl,?_⟩) ?_ ?_
                      rotate_left
                      ·intro w'
                       go_simp
                       with_reducible rfl
                      rotate_left
                      ·simp only [Act.put,yK,yL,yM,i64_w,i32_w]
                       rfl
                      refine pure_ (i:=8) (N:=some 82) (v:=?_) (a':=?_) #[true,true,true,true,true,true,true,true,true,false,false,false,false,false,false,false,false,false,false,false,false,false,false,false,false,false,false,false,false,false] rfl rfl (any_of HT_.out (by kernel_rfl)) (fun _ _ _ h=>h) (Or.inl ⟨by rfl,?_⟩) ?_ ?_
                      rotate_left
                      ·intro w'
                       go_simp
                       with_reducible rfl
                      rotate_left
                      ·simp only [Act.put,yK,yL,yM,i64_w,i32_w]
                       rfl
                      refine pure_ (i:=9) (N:=some 83) (v:=?_) (a':=?_) #[true,true,true,true,true,true,true,true,true,true,false,false,false,false,false,false,false,false,false,false,false,false,false,false,false,false,false,false,false,false] rfl rfl (any_of HT_.out (by kernel_rfl)) (fun _ _ _ h=>h) (Or.inl ⟨by rfl,?_⟩) ?_ ?_
                      rotate_left
                      ·intro w'
                       go_simp
                       with_reducible rfl
                      rotate_left
                      ·simp only [Act.put,yK,yL,yM,i64_w,i32_w]
                       rfl
                      refine pure_ (i:=10) (N:=some 84) (v:=?_) (a':=?_) #[true,true,true,true,true,true,true,true,true,true,true,false,false,false,false,false,false,false,false,false,false,false,false,false,false,false,false,false,false,false] rfl rfl (any_of HT_.out (by kernel_rfl)) (fun _ _ _ h=>h) (Or.inl ⟨by rfl,?_⟩) ?_ ?_
                      rotate_left
                      ·intro w'
                       go_simp
                       with_reducible rfl
                      rotate_left
                      ·simp only [Act.put,yK,yL,yM,i64_w,i32_w]
                       rfl
                      refine take_ (i:=11) (N:=some 85) (v:=?_) (a':=?_) #[true,true,true,true,true,true,true,true,true,true,true,true,false,false,false,false,false,false,false,false,false,false,false,false,false,false,false,false,false,false] rfl rfl (take_ofW HT_.out HW_.out (by kernel_rfl)) (fun _ _ _ h=>h) (Or.inl ⟨by rfl,?_⟩) hHeld ?_ ?_
                      rotate_left
                      ·rintro w' ⟨s0,s1,s2,s3⟩
                       go_simp
                       with_reducible rfl
                      rotate_left
                      ·simp only [Act.put,yK,yL,yM,i64_w,i32_w]
                       rfl
                      refine pure_ (i:=12) (N:=some 86) (v:=?_) (a':=?_) #[true,true,true,true,true,true,true,true,true,true,true,true,true,false,false,false,false,false,false,false,false,false,false,false,false,false,false,false,false,false] rfl rfl (any_of HT_.out (by kernel_rfl)) (fun _ _ _ h=>h) (Or.inl ⟨by rfl,?_⟩) ?_ ?_
                      rotate_left
                      ·intro w'
                       go_simp
                       with_reducible rfl
                      rotate_left
                      ·simp only [Act.put,yK,yL,yM,i64_w,i32_w]
                       rfl
                      refine pure_ (i:=13) (N:=some 87) (v:=?_) (a':=?_) #[true,true,true,true,true,true,true,true,true,true,true,true,true,true,false,false,false,false,false,false,false,false,false,false,false,false,false,false,false,false] rfl rfl (any_of HT_.out (by kernel_rfl)) (fun _ _ _ h=>h) (Or.inl ⟨by rfl,?_⟩) ?_ ?_
                      rotate_left
                      ·intro w'
                       go_simp
                       with_reducible rfl
                      rotate_left
                      ·simp only [Act.put,yK,yL,yM,i64_w,i32_w]
                       rfl
                      refine pure_ (i:=14) (N:=some 88) (v:=?_) (a':=?_) #[true,true,true,true,true,true,true,true,true,true,true,true,true,true,true,false,false,false,false,false,false,false,false,false,false,false,false,false,false,false] rfl rfl (any_of HT_.out (by kernel_rfl)) (fun _ _ _ h=>h) (Or.inl ⟨by rfl,?_⟩) ?_ ?_
                      rotate_left
                      ·intro w'
                       go_simp
                       with_reducible rfl
                      rotate_left
                      ·simp only [Act.put,yK,yL,yM,i64_w,i32_w]
                       rfl
                      refine pure_ (i:=15) (N:=some 89) (v:=?_) (a':=?_) #[true,true,true,true,true,true,true,true,true,true,true,true,true,true,true,true,false,false,false,false,false,false,false,false,false,false,false,false,false,false] rfl rfl (any_of HT_.out (by kernel_rfl)) (fun _ _ _ h=>h) (Or.inl ⟨by rfl,?_⟩) ?_ ?_
                      rotate_left
                      ·intro w'
                       go_simp
                       with_reducible rfl
                      rotate_left
                      ·simp only [Act.put,yK,yL,yM,i64_w,i32_w]
                       rfl
                      refine pure_ (i:=16) (N:=some 90) (v:=?_) (a':=?_) #[true,true,true,true,true,true,true,true,true,true,true,true,true,true,true,true,true,false,false,false,false,false,false,false,false,false,false,false,false,false] rfl rfl (any_of HT_.out (by kernel_rfl)) (fun _ _ _ h=>h) (Or.inl ⟨by rfl,?_⟩) ?_ ?_
                      rotate_left
                      ·intro w'
                       go_simp
                       with_reducible rfl
                      rotate_left
                      ·simp only [Act.put,yK,yL,yM,i64_w,i32_w]
                       rfl
                      refine pure_ (i:=17) (N:=some 91) (v:=?_) (a':=?_) #[true,true,true,true,true,true,true,true,true,true,true,true,true,true,true,true,true,true,false,false,false,false,false,false,false,false,false,false,false,false] rfl rfl (any_of HT_.out (by kernel_rfl)) (fun _ _ _ h=>h) (Or.inl ⟨by rfl,?_⟩) ?_ ?_
                      rotate_left
                      ·intro w'
                       go_simp
                       with_reducible rfl
                      rotate_left
                      ·simp only [Act.put,yK,yL,yM,i64_w,i32_w]
                       rfl
                      refine pure_ (i:=18) (N:=some 92) (v:=?_) (a':=?_) #[true,true,true,true,true,true,true,true,true,true,true,true,true,true,true,true,true,true,true,false,false,false,false,false,false,false,false,false,false,false] rfl rfl (any_of HT_.out (by kernel_rfl)) (fun _ _ _ h=>h) (Or.inl ⟨by rfl,?_⟩) ?_ ?_
                      rotate_left
                      ·intro w'
                       go_simp
                       with_reducible rfl
                      rotate_left
                      ·simp only [Act.put,yK,yL,yM,i64_w,i32_w]
                       rfl
                      refine pure_ (i:=19) (N:=some 93) (v:=?_) (a':=?_) #[true,true,true,true,true,true,true,true,true,true,true,true,true,true,true,true,true,true,true,true,false,false,false,false,false,false,false,false,false,false] rfl rfl (any_of HT_.out (by kernel_rfl)) (fun _ _ _ h=>h) (Or.inl ⟨by rfl,?_⟩) ?_ ?_
                      rotate_left
                      ·intro w'
                       go_simp
                       with_reducible rfl
                      rotate_left
                      ·simp only [Act.put,yK,yL,yM,i64_w,i32_w]
                       rfl
                      refine pure_ (i:=20) (N:=some 94) (v:=?_) (a':=?_) #[true,true,true,true,true,true,true,true,true,true,true,true,true,true,true,true,true,true,true,true,true,false,false,false,false,false,false,false,false,false] rfl rfl (any_of HT_.out (by kernel_rfl)) (fun _ _ _ h=>h) (Or.inl ⟨by rfl,?_⟩) ?_ ?_
                      rotate_left
                      ·intro w'
                       go_simp
                       with_reducible rfl
                      rotate_left
                      ·simp only [Act.put,yK,yL,yM,i64_w,i32_w]
                       rfl
                      refine pure_ (i:=21) (N:=some 95) (v:=?_) (a':=?_) #[true,true,true,true,true,true,true,true,true,true,true,true,true,true,true,true,true,true,true,true,true,true,false,false,false,false,false,false,false,false] rfl rfl (any_of HT_.out (by kernel_rfl)) (fun _ _ _ h=>h) (Or.inl ⟨by rfl,?_⟩) ?_ ?_
                      rotate_left
                      ·intro w'
                       go_simp
                       with_reducible rfl
                      rotate_left
                      ·simp only [Act.put,yK,yL,yM,i64_w,i32_w]
                       rfl
                      refine pure_ (i:=23) (N:=some 97) (v:=?_) (a':=?_) #[true,true,true,true,true,true,true,true,true,true,true,true,true,true,true,true,true,true,true,true,true,true,false,true,false,false,false,false,false,false] rfl rfl (any_of HT_.out (by kernel_rfl)) (fun _ _ _ h=>h) (Or.inl ⟨by rfl,?_⟩) ?_ ?_
                      rotate_left
                      ·intro w'
                       go_simp
                       with_reducible rfl
                      rotate_left
                      ·simp only [Act.put,yK,yL,yM,i64_w,i32_w]
                       rfl
                      refine pure_ (i:=24) (N:=some 98) (v:=?_) (a':=?_) #[true,true,true,true,true,true,true,true,true,true,true,true,true,true,true,true,true,true,true,true,true,true,false,true,true,false,false,false,false,false] rfl rfl (any_of HT_.out (by kernel_rfl)) (fun _ _ _ h=>h) (Or.inl ⟨by rfl,?_⟩) ?_ ?_
                      rotate_left
                      ·intro w'
                       go_simp
                       with_reducible rfl
                      rotate_left
                      ·simp only [Act.put,yK,yL,yM,i64_w,i32_w]
                       rfl
                      refine pure_ (i:=25) (N:=some 99) (v:=?_) (a':=?_) #[true,true,true,true,true,true,true,true,true,true,true,true,true,true,true,true,true,true,true,true,true,true,false,true,true,true,false,false,false,false] rfl rfl (any_of HT_.out (by kernel_rfl)) (fun _ _ _ h=>h) (Or.inl ⟨by rfl,?_⟩) ?_ ?_
                      rotate_left
                      ·intro w'
                       go_simp
                       with_reducible rfl
                      rotate_left
                      ·simp only [Act.put,yK,yL,yM,i64_w,i32_w]
                       rfl
                      refine take_ (i:=22) (N:=some 96) (v:=?_) (a':=?_) #[true,true,true,true,true,true,true,true,true,true,true,true,true,true,true,true,true,true,true,true,true,true,true,true,true,true,false,false,false,false] rfl rfl (take_ofW HT_.out HW_.out (by kernel_rfl)) (fun _ _ _ h=>h) (Or.inl ⟨by rfl,?_⟩) hHeld ?_ ?_
                      rotate_left
                      ·rintro w' ⟨s0,s1,s2,s3⟩
                       go_simp
                       with_reducible rfl
                      rotate_left
                      ·simp only [Act.put,yK,yL,yM,i64_w,i32_w]
                       rfl
                      refine take_ (i:=26) (N:=some 100) (v:=?_) (a':=?_) #[true,true,true,true,true,true,true,true,true,true,true,true,true,true,true,true,true,true,true,true,true,true,true,true,true,true,true,false,false,false] rfl rfl (take_ofW HT_.out HW_.out (by kernel_rfl)) (fun _ _ _ h=>h) (Or.inl ⟨by rfl,?_⟩) hHeld ?_ ?_
                      rotate_left
                      ·rintro w' ⟨s0,s1,s2,s3⟩
                       go_simp
                       with_reducible rfl
                      rotate_left
                      ·simp only [Act.put,yK,yL,yM,i64_w,i32_w]
                       rfl
                      refine pure_ (i:=27) (N:=some 101) (v:=?_) (a':=?_) #[true,true,true,true,true,true,true,true,true,true,true,true,true,true,true,true,true,true,true,true,true,true,true,true,true,true,true,true,false,false] rfl rfl (any_of HT_.out (by kernel_rfl)) (fun _ _ _ h=>h) (Or.inl ⟨by rfl,?_⟩) ?_ ?_
                      rotate_left
                      ·intro w'
                       go_simp
                       with_reducible rfl
                      rotate_left
                      ·simp only [Act.put,yK,yL,yM,i64_w,i32_w]
                       rfl
                      refine pure_ (i:=28) (N:=some 102) (v:=?_) (a':=?_) #[true,true,true,true,true,true,true,true,true,true,true,true,true,true,true,true,true,true,true,true,true,true,true,true,true,true,true,true,true,false] rfl rfl (any_of HT_.out (by kernel_rfl)) (fun _ _ _ h=>h) (Or.inl ⟨by rfl,?_⟩) ?_ ?_
                      rotate_left
                      ·intro w'
                       go_simp
                       with_reducible rfl
                      rotate_left
                      ·simp only [Act.put,yK,yL,yM,i64_w,i32_w]
                       rfl
                      refine pure_ (i:=29) (N:=some 103) (v:=?_) (a':=?_) #[true,true,true,true,true,true,true,true,true,true,true,true,true,true,true,true,true,true,true,true,true,true,true,true,true,true,true,true,true,true] rfl rfl (any_of HT_.out (by kernel_rfl)) (fun _ _ _ h=>h) (Or.inl ⟨by rfl,?_⟩) ?_ ?_
                      rotate_left
                      ·intro w'
                       go_simp
                       with_reducible rfl
                      rotate_left
                      ·simp only [Act.put,yK,yL,yM,i64_w,i32_w]
                       rfl
                      refine done_ (done_of HT_.out (by kernel_rfl)) ?_
                      try go_wp2
                      go_ret
                      exact ⟨by first|rfl|(simp [errW_none,errW_some]<;>rfl)|(simp only [← hji45];first|rfl|(simp [errW_none,errW_some]<;>rfl))|(simp [*,errW_none,errW_some]<;>rfl),by repeat (first|(with_reducible first|exact HB.out|apply yA|apply yB|apply yC)|exact HB.out)⟩
                     ·rw [if_neg c48] at H
                      have c48b0:decide ((rd t503 x13_5)≤(rd t503 (ji45)))=false:=decide_eq_false c48
                      clear c48
                      have H':=Aside0.mk H
                      clear H
                      try go_wp2
                      have n0_:=Aside0.mk (yJ HO_4.out)
                      have n1_:=Aside0.mk (yC HB.out)
                      clear HO_4
                      clear HB
                      have HO_4:=n0_
                      have HB:=n1_
                      clear n0_ n1_
                      have p517:0≤(x13_5:Int):=of_decide_eq_true (by first|(with_reducible assumption)|assumption)
                      have q517:x13_5<(t503.length:Int):=of_decide_eq_true (by first|(with_reducible assumption)|assumption)
                      obtain ⟨ad517,e517,hx517_0⟩:=Kd.at_int (Kd.R_reads' HO_4.out).2.2 x13_5 p517 q517
                      cases e517
                      replace p517:=eq_true p517
                      replace q517:=eq_true q517
                      have p519:0≤(x13_5:Int):=of_decide_eq_true (by first|(with_reducible assumption)|assumption)
                      have q519:x13_5<(t503.length:Int):=of_decide_eq_true (by first|(with_reducible assumption)|assumption)
                      obtain ⟨ad519,e519,hx519_0⟩:=Kd.at_int (Kd.R_reads' HO_4.out).2.2 x13_5 p519 q519
                      obtain rfl:ad517=ad519:=(by injection e519)
                      replace p519:=eq_true p519
                      replace q519:=eq_true q519
                      have p520:0≤((ji45):Int):=of_decide_eq_true (by first|(with_reducible assumption)|assumption)
                      have q520:(ji45)<(t503.length:Int):=of_decide_eq_true (by first|(with_reducible assumption)|assumption)
                      obtain ⟨ad520,e520,hx520_0⟩:=Kd.at_int (Kd.R_reads' HO_4.out).2.2 (ji45) p520 q520
                      obtain rfl:ad517=ad520:=(by injection e520)
                      replace p520:=eq_true p520
                      replace q520:=eq_true q520
                      have p521:0≤(x13_5:Int):=of_decide_eq_true (by first|(with_reducible assumption)|assumption)
                      have q521:x13_5<(t503.length:Int):=of_decide_eq_true (by first|(with_reducible assumption)|assumption)
                      obtain ⟨ad521,e521,hx521_0⟩:=Kd.at_int (Kd.R_reads' HO_4.out).2.2 x13_5 p521 q521
                      obtain rfl:ad517=ad521:=(by injection e521)
                      replace p521:=eq_true p521
                      replace q521:=eq_true q521
                      refine start_ (n:=30) (S:=fun w'=>w'.cell? (ad517.add (x13_5).toNat)=some (.int .i64 (rd t503 x13_5))∧w'.cell? (ad517.add (x13_5).toNat)=some (.int .i64 (rd t503 x13_5))∧w'.cell? (ad517.add ((ji45)).toNat)=some (.int .i64 (rd t503 (ji45)))∧w'.cell? (ad517.add (x13_5).toNat)=some (.int .i64 (rd t503 x13_5))) (ds:=[]) #[false,false,false,false,false,false,false,false,false,false,false,false,false,false,false,false,false,false,false,false,false,false,false,false,false,false,false,false,false,false] (by kernel_rfl) rfl rfl ⟨hx517_0,hx519_0,hx520_0,hx521_0⟩ (fun hHeld=>?_);refine with_tabW laws_FnStarParts.tab19 laws_FnStarParts.bits19 (fun HT_ HW_=>?_)
                      generalize wr.drew=w51 at HO_4 HB hx517_0 hx519_0 hx520_0 hx521_0 hHeld ⊢
                      refine pure_ (i:=0) (N:=some 74) (v:=?_) (a':=?_) #[true,false,false,false,false,false,false,false,false,false,false,false,false,false,false,false,false,false,false,false,false,false,false,false,false,false,false,false,false,false] rfl rfl (any_of HT_.out (by kernel_rfl)) (fun _ _ _ h=>h) (Or.inl ⟨by rfl,?_⟩) ?_ ?_
                      rotate_left
                      ·intro w'
                       go_simp
                       with_reducible rfl
                      rotate_left
                      ·simp only [Act.put,yK,yL,yM,i64_w,i32_w]
                       rfl
                      refine pure_ (i:=1) (N:=some 75) (v:=?_) (a':=?_) #[true,true,false,false,false,false,false,false,false,false,false,false,false,false,false,false,false,false,false,false,false,false,false,false,false,false,false,false,false,false] rfl rfl (any_of HT_.out (by kernel_rfl)) (fun _ _ _ h=>h) (Or.inl ⟨by rfl,?_⟩) ?_ ?_
                      rotate_left
                      ·intro w'
                       go_simp
                       with_reducible rfl
                      rotate_left
                      ·simp only [Act.put,yK,yL,yM,i64_w,i32_w]
                       rfl
                      refine pure_ (i:=2) (N:=some 76) (v:=?_) (a':=?_) #[true,true,true,false,false,false,false,false,false,false,false,false,false,false,false,false,false,false,false,false,false,false,false,false,false,false,false,false,false,false] rfl rfl (any_of HT_.out (by kernel_rfl)) (fun _ _ _ h=>h) (Or.inl ⟨by rfl,?_⟩) ?_ ?_
                      rotate_left
                      ·intro w'
                       go_simp
                       with_reducible rfl
                      rotate_left
                      ·simp only [Act.put,yK,yL,yM,i64_w,i32_w]
                       rfl
                      refine pure_ (i:=3) (N:=some 77) (v:=?_) (a':=?_) #[true,true,true,true,false,false,false,false,false,false,false,false,false,false,false,false,false,false,false,false,false,false,false,false,false,false,false,false,false,false] rfl rfl (any_of HT_.out (by kernel_rfl)) (fun _ _ _ h=>h) (Or.inl ⟨by rfl,?_⟩) ?_ ?_
                      rotate_left
                      ·intro w'
                       go_simp
                       with_reducible rfl
                      rotate_left
                      ·simp only [Act.put,yK,yL,yM,i64_w,i32_w]
                       rfl
                      refine take_ (i:=4) (N:=some 78) (v:=?_) (a':=?_) #[true,true,true,true,true,false,false,false,false,false,false,false,false,false,false,false,false,false,false,false,false,false,false,false,false,false,false,false,false,false] rfl rfl (take_ofW HT_.out HW_.out (by kernel_rfl)) (fun _ _ _ h=>h) (Or.inl ⟨by rfl,?_⟩) hHeld ?_ ?_
                      rotate_left
                      ·rintro w' ⟨s0,s1,s2,s3⟩
                       go_simp
                       with_reducible rfl
                      rotate_left
                      ·simp only [Act.put,yK,yL,yM,i64_w,i32_w]
                       rfl
                      refine one_ (i:=5) (N:=some 79) #[true,true,true,true,true,true,false,false,false,false,false,false,false,false,false,false,false,false,false,false,false,false,false,false,false,false,false,false,false,false] rfl rfl (one_of HT_.out (by kernel_rfl)) (by decide) (fun K hK=>?_)
                      refine goes_ Try.func9 (by kernel_rfl) rfl #[.string t502,.int .i64 (rd t503 x13_5)] (by rfl) rfl rfl (by (try simp only [List.map_toArray,List.map_cons,List.map_nil]);first|done|rfl|(simp only [List.length_drop,List.length_take];rfl)) ?_
                      with_reducible refine (impl_SetHas.calls k5 t502 (rd t503 x13_5) true _ A39.out).mono ?_
                      rintro e w52 ⟨rfl,hb⟩
                      have HS0_:=(hb.cell (World.block_lt_of_cell? _ _ (hHeld.1))).trans (hHeld.1)
                      have HS1_:=(hb.cell (World.block_lt_of_cell? _ _ (hHeld.2.1))).trans (hHeld.2.1)
                      have HS2_:=(hb.cell (World.block_lt_of_cell? _ _ (hHeld.2.2.1))).trans (hHeld.2.2.1)
                      have HS3_:=(hb.cell (World.block_lt_of_cell? _ _ (hHeld.2.2.2))).trans (hHeld.2.2.2)
                      refine ⟨_,rfl,?_⟩
                      have n0_:=Aside0.mk (Kd.R_below (by (with_reducible repeat (first|apply yH|apply yI|apply yJ));exact HO_4.out) hb)
                      have n1_:=Aside0.mk (yP (by repeat (first|(with_reducible first|exact HB.out|apply yA|apply yB|apply yC)|exact HB.out)) hb)
                      clear HO_4
                      clear HB
                      have HO_4:=n0_
                      have HB:=n1_
                      clear n0_ n1_
                      (try clear hb)
                      (try clear hb2)
                      (try clear hk)
                      (try clear hi)
                      refine hK.out _ _ ⟨HS0_,HS1_,HS2_,HS3_⟩ (fun hHeld=>?_)
                      clear hK K
                      refine norm_ (a':=?_) ?_ ?_
                      rotate_left
                      ·show Act.put _ (some 79) _=_
                       simp only [Act.put,yK,yL,yM,i64_w,i32_w]
                       rfl
                      refine pure_ (i:=6) (N:=some 80) (v:=?_) (a':=?_) #[true,true,true,true,true,true,true,false,false,false,false,false,false,false,false,false,false,false,false,false,false,false,false,false,false,false,false,false,false,false] rfl rfl (any_of HT_.out (by kernel_rfl)) (fun _ _ _ h=>h) (Or.inl ⟨by rfl,?_⟩) ?_ ?_
                      rotate_left
                      ·intro w'
                       go_simp
                       with_reducible rfl
                      rotate_left
                      ·simp only [Act.put,yK,yL,yM,i64_w,i32_w]
                       rfl
                      refine pure_ (i:=7) (N:=some 81) (v:=?_) (a':=?_) #[true,true,true,true,true,true,true,true,false,false,false,false,false,false,false,false,false,false,false,false,false,false,false,false,false,false,false,false,false,false] rfl rfl (any_of HT_.out (by kernel_rfl)) (fun _ _ _ h=>h) (Or.inl ⟨by rfl,?_⟩) ?_ ?_
                      rotate_left
                      ·intro w'
                       go_simp
                       with_reducible rfl
                      rotate_left
                      ·simp only [Act.put,yK,yL,yM,i64_w,i32_w]
                       rfl
                      refine pure_ (i:=8) (N:=some 82) (v:=?_) (a':=?_) #[true,true,true,true,true,true,true,true,true,false,false,false,false,false,false,false,false,false,false,false,false,false,false,false,false,false,false,false,false,false] rfl rfl (any_of HT_.out (by kernel_rfl)) (fun _ _ _ h=>h) (Or.inl ⟨by rfl,?_⟩) ?_ ?_
                      rotate_left
                      ·intro w'
                       go_simp
                       with_reducible rfl
                      rotate_left
                      ·simp only [Act.put,yK,yL,yM,i64_w,i32_w]
                       rfl
                      refine pure_ (i:=9) (N:=some 83) (v:=?_) (a':=?_) #[true,true,true,true,true,true,true,true,true,true,false,false,false,false,false,false,false,false,false,false,false,false,false,false,false,false,false,false,false,false] rfl rfl (any_of HT_.out (by kernel_rfl)) (fun _ _ _ h=>h) (Or.inl ⟨by rfl,?_⟩) ?_ ?_
                      rotate_left
                      ·intro w'
                       go_simp
                       with_reducible rfl
                      rotate_left
                      ·simp only [Act.put,yK,yL,yM,i64_w,i32_w]
                       rfl
                      refine pure_ (i:=10) (N:=some 84) (v:=?_) (a':=?_) #[true,true,true,true,true,true,true,true,true,true,true,false,false,false,false,false,false,false,false,false,false,false,false,false,false,false,false,false,false,false] rfl rfl (any_of HT_.out (by kernel_rfl)) (fun _ _ _ h=>h) (Or.inl ⟨by rfl,?_⟩) ?_ ?_
                      rotate_left
                      ·intro w'
                       go_simp
                       with_reducible rfl
                      rotate_left
                      ·simp only [Act.put,yK,yL,yM,i64_w,i32_w]
                       rfl
                      refine take_ (i:=11) (N:=some 85) (v:=?_) (a':=?_) #[true,true,true,true,true,true,true,true,true,true,true,true,false,false,false,false,false,false,false,false,false,false,false,false,false,false,false,false,false,false] rfl rfl (take_ofW HT_.out HW_.out (by kernel_rfl)) (fun _ _ _ h=>h) (Or.inl ⟨by rfl,?_⟩) hHeld ?_ ?_
                      rotate_left
                      ·rintro w' ⟨s0,s1,s2,s3⟩
                       go_simp
                       with_reducible rfl
                      rotate_left
                      ·simp only [Act.put,yK,yL,yM,i64_w,i32_w]
                       rfl
                      refine pure_ (i:=12) (N:=some 86) (v:=?_) (a':=?_) #[true,true,true,true,true,true,true,true,true,true,true,true,true,false,false,false,false,false,false,false,false,false,false,false,false,false,false,false,false,false] rfl rfl (any_of HT_.out (by kernel_rfl)) (fun _ _ _ h=>h) (Or.inl ⟨by rfl,?_⟩) ?_ ?_
                      rotate_left
                      ·intro w'
                       go_simp
                       with_reducible rfl
                      rotate_left
                      ·simp only [Act.put,yK,yL,yM,i64_w,i32_w]
                       rfl
                      refine pure_ (i:=13) (N:=some 87) (v:=?_) (a':=?_) #[true,true,true,true,true,true,true,true,true,true,true,true,true,true,false,false,false,false,false,false,false,false,false,false,false,false,false,false,false,false] rfl rfl (any_of HT_.out (by kernel_rfl)) (fun _ _ _ h=>h) (Or.inl ⟨by rfl,?_⟩) ?_ ?_
                      rotate_left
                      ·intro w'
                       go_simp
                       with_reducible rfl
                      rotate_left
                      ·simp only [Act.put,yK,yL,yM,i64_w,i32_w]
                       rfl
                      refine pure_ (i:=14) (N:=some 88) (v:=?_) (a':=?_) #[true,true,true,true,true,true,true,true,true,true,true,true,true,true,true,false,false,false,false,false,false,false,false,false,false,false,false,false,false,false] rfl rfl (any_of HT_.out (by kernel_rfl)) (fun _ _ _ h=>h) (Or.inl ⟨by rfl,?_⟩) ?_ ?_
                      rotate_left
                      ·intro w'
                       go_simp
                       with_reducible rfl
                      rotate_left
                      ·simp only [Act.put,yK,yL,yM,i64_w,i32_w]
                       rfl
                      refine pure_ (i:=15) (N:=some 89) (v:=?_) (a':=?_) #[true,true,true,true,true,true,true,true,true,true,true,true,true,true,true,true,false,false,false,false,false,false,false,false,false,false,false,false,false,false] rfl rfl (any_of HT_.out (by kernel_rfl)) (fun _ _ _ h=>h) (Or.inl ⟨by rfl,?_⟩) ?_ ?_
                      rotate_left
                      ·intro w'
                       go_simp
                       with_reducible rfl
                      rotate_left
                      ·simp only [Act.put,yK,yL,yM,i64_w,i32_w]
                       rfl
                      refine pure_ (i:=16) (N:=some 90) (v:=?_) (a':=?_) #[true,true,true,true,true,true,true,true,true,true,true,true,true,true,true,true,true,false,false,false,false,false,false,false,false,false,false,false,false,false] rfl rfl (any_of HT_.out (by kernel_rfl)) (fun _ _ _ h=>h) (Or.inl ⟨by rfl,?_⟩) ?_ ?_
                      rotate_left
                      ·intro w'
                       go_simp
                       with_reducible rfl
                      rotate_left
                      ·simp only [Act.put,yK,yL,yM,i64_w,i32_w]
                       rfl
                      refine pure_ (i:=17) (N:=some 91) (v:=?_) (a':=?_) #[true,true,true,true,true,true,true,true,true,true,true,true,true,true,true,true,true,true,false,false,false,false,false,false,false,false,false,false,false,false] rfl rfl (any_of HT_.out (by kernel_rfl)) (fun _ _ _ h=>h) (Or.inl ⟨by rfl,?_⟩) ?_ ?_
                      rotate_left
                      ·intro w'
                       go_simp
                       with_reducible rfl
                      rotate_left
                      ·simp only [Act.put,yK,yL,yM,i64_w,i32_w]
                       rfl
                      refine pure_ (i:=18) (N:=some 92) (v:=?_) (a':=?_) #[true,true,true,true,true,true,true,true,true,true,true,true,true,true,true,true,true,true,true,false,false,false,false,false,false,false,false,false,false,false] rfl rfl (any_of HT_.out (by kernel_rfl)) (fun _ _ _ h=>h) (Or.inl ⟨by rfl,?_⟩) ?_ ?_
                      rotate_left
                      ·intro w'
                       go_simp
                       with_reducible rfl
                      rotate_left
                      ·simp only [Act.put,yK,yL,yM,i64_w,i32_w]
                       rfl
                      refine pure_ (i:=19) (N:=some 93) (v:=?_) (a':=?_) #[true,true,true,true,true,true,true,true,true,true,true,true,true,true,true,true,true,true,true,true,false,false,false,false,false,false,false,false,false,false] rfl rfl (any_of HT_.out (by kernel_rfl)) (fun _ _ _ h=>h) (Or.inl ⟨by rfl,?_⟩) ?_ ?_
                      rotate_left
                      ·intro w'
                       go_simp
                       with_reducible rfl
                      rotate_left
                      ·simp only [Act.put,yK,yL,yM,i64_w,i32_w]
                       rfl
                      refine pure_ (i:=20) (N:=some 94) (v:=?_) (a':=?_) #[true,true,true,true,true,true,true,true,true,true,true,true,true,true,true,true,true,true,true,true,true,false,false,false,false,false,false,false,false,false] rfl rfl (any_of HT_.out (by kernel_rfl)) (fun _ _ _ h=>h) (Or.inl ⟨by rfl,?_⟩) ?_ ?_
                      rotate_left
                      ·intro w'
                       go_simp
                       with_reducible rfl
                      rotate_left
                      ·simp only [Act.put,yK,yL,yM,i64_w,i32_w]
                       rfl
                      refine pure_ (i:=21) (N:=some 95) (v:=?_) (a':=?_) #[true,true,true,true,true,true,true,true,true,true,true,true,true,true,true,true,true,true,true,true,true,true,false,false,false,false,false,false,false,false] rfl rfl (any_of HT_.out (by kernel_rfl)) (fun _ _ _ h=>h) (Or.inl ⟨by rfl,?_⟩) ?_ ?_
                      rotate_left
                      ·intro w'
                       go_simp
                       with_reducible rfl
                      rotate_left
                      ·simp only [Act.put,yK,yL,yM,i64_w,i32_w]
                       rfl
                      refine pure_ (i:=23) (N:=some 97) (v:=?_) (a':=?_) #[true,true,true,true,true,true,true,true,true,true,true,true,true,true,true,true,true,true,true,true,true,true,false,true,false,false,false,false,false,false] rfl rfl (any_of HT_.out (by kernel_rfl)) (fun _ _ _ h=>h) (Or.inl ⟨by rfl,?_⟩) ?_ ?_
                      rotate_left
                      ·intro w'
                       go_simp
                       with_reducible rfl
                      rotate_left
                      ·simp only [Act.put,yK,yL,yM,i64_w,i32_w]
                       rfl
                      refine pure_ (i:=24) (N:=some 98) (v:=?_) (a':=?_) #[true,true,true,true,true,true,true,true,true,true,true,true,true,true,true,true,true,true,true,true,true,true,false,true,true,false,false,false,false,false] rfl rfl (any_of HT_.out (by kernel_rfl)) (fun _ _ _ h=>h) (Or.inl ⟨by rfl,?_⟩) ?_ ?_
                      rotate_left
                      ·intro w'
                       go_simp
                       with_reducible rfl
                      rotate_left
                      ·simp only [Act.put,yK,yL,yM,i64_w,i32_w]
                       rfl
                      refine pure_ (i:=25) (N:=some 99) (v:=?_) (a':=?_) #[true,true,true,true,true,true,true,true,true,true,true,true,true,true,true,true,true,true,true,true,true,true,false,true,true,true,false,false,false,false] rfl rfl (any_of HT_.out (by kernel_rfl)) (fun _ _ _ h=>h) (Or.inl ⟨by rfl,?_⟩) ?_ ?_
                      rotate_left
                      ·intro w'
                       go_simp
                       with_reducible rfl
                      rotate_left
                      ·simp only [Act.put,yK,yL,yM,i64_w,i32_w]
                       rfl
                      refine take_ (i:=22) (N:=some 96) (v:=?_) (a':=?_) #[true,true,true,true,true,true,true,true,true,true,true,true,true,true,true,true,true,true,true,true,true,true,true,true,true,true,false,false,false,false] rfl rfl (take_ofW HT_.out HW_.out (by kernel_rfl)) (fun _ _ _ h=>h) (Or.inl ⟨by rfl,?_⟩) hHeld ?_ ?_
                      rotate_left
                      ·rintro w' ⟨s0,s1,s2,s3⟩
                       go_simp
                       with_reducible rfl
                      rotate_left
                      ·simp only [Act.put,yK,yL,yM,i64_w,i32_w]
                       rfl
                      refine take_ (i:=26) (N:=some 100) (v:=?_) (a':=?_) #[true,true,true,true,true,true,true,true,true,true,true,true,true,true,true,true,true,true,true,true,true,true,true,true,true,true,true,false,false,false] rfl rfl (take_ofW HT_.out HW_.out (by kernel_rfl)) (fun _ _ _ h=>h) (Or.inl ⟨by rfl,?_⟩) hHeld ?_ ?_
                      rotate_left
                      ·rintro w' ⟨s0,s1,s2,s3⟩
                       go_simp
                       with_reducible rfl
                      rotate_left
                      ·simp only [Act.put,yK,yL,yM,i64_w,i32_w]
                       rfl
                      refine pure_ (i:=27) (N:=some 101) (v:=?_) (a':=?_) #[true,true,true,true,true,true,true,true,true,true,true,true,true,true,true,true,true,true,true,true,true,true,true,true,true,true,true,true,false,false] rfl rfl (any_of HT_.out (by kernel_rfl)) (fun _ _ _ h=>h) (Or.inl ⟨by rfl,?_⟩) ?_ ?_
                      rotate_left
                      ·intro w'
                       go_simp
                       with_reducible rfl
                      rotate_left
                      ·simp only [Act.put,yK,yL,yM,i64_w,i32_w]
                       rfl
                      refine pure_ (i:=28) (N:=some 102) (v:=?_) (a':=?_) #[true,true,true,true,true,true,true,true,true,true,true,true,true,true,true,true,true,true,true,true,true,true,true,true,true,true,true,true,true,false] rfl rfl (any_of HT_.out (by kernel_rfl)) (fun _ _ _ h=>h) (Or.inl ⟨by rfl,?_⟩) ?_ ?_
                      rotate_left
                      ·intro w'
                       go_simp
                       with_reducible rfl
                      rotate_left
                      ·simp only [Act.put,yK,yL,yM,i64_w,i32_w]
                       rfl
                      refine pure_ (i:=29) (N:=some 103) (v:=?_) (a':=?_) #[true,true,true,true,true,true,true,true,true,true,true,true,true,true,true,true,true,true,true,true,true,true,true,true,true,true,true,true,true,true] rfl rfl (any_of HT_.out (by kernel_rfl)) (fun _ _ _ h=>h) (Or.inl ⟨by rfl,?_⟩) ?_ ?_
                      rotate_left
                      ·intro w'
                       go_simp
                       with_reducible rfl
                      rotate_left
                      ·simp only [Act.put,yK,yL,yM,i64_w,i32_w]
                       rfl
                      refine done_ (done_of HT_.out (by kernel_rfl)) ?_
                      try go_wp2
                      go_roundg k5
                      case measure=>have:=HJ5.out;have:=HJ15.out;have:=HK3.out;have:=HJ21.out;have:=HK5.out;omega
                      case rel=>exact ⟨(wrap64 (x13_5+1)),(by first|rfl|(simp;done)|(simp [*];done)|(simp [Int.tmod_eq_emod_of_nonneg];done)),H',⟨by have:=HJ5.out;have:=HJ15.out;have:=HK3.out;have:=HJ21.out;have:=HK5.out;omega⟩,⟨by (with_reducible repeat (first|apply yH|apply yI|apply yJ));exact HO_4.out⟩,⟨by repeat (first|(with_reducible first|exact HB.out|apply yA|apply yB|apply yC)|exact HB.out)⟩⟩
                    ·rw [if_neg c47] at H
                     exact absurd H (by simp)
                   ·rw [if_neg c46] at H
                    exact absurd H (by simp)
                  ·rw [if_neg c44] at H
                   have c44b0:decide (0<x13_5)=false:=decide_eq_false c44
                   clear c44
                   have H':=Aside0.mk H
                   clear H
                   try go_wp2
                   have n0_:=Aside0.mk (yJ HO_4.out)
                   have n1_:=Aside0.mk (yC HB.out)
                   clear HO_4
                   clear HB
                   have HO_4:=n0_
                   have HB:=n1_
                   clear n0_ n1_
                   have p517:0≤(x13_5:Int):=of_decide_eq_true (by first|(with_reducible assumption)|assumption)
                   have q517:x13_5<(t503.length:Int):=of_decide_eq_true (by first|(with_reducible assumption)|assumption)
                   obtain ⟨ad517,e517,hx517_0⟩:=Kd.at_int (Kd.R_reads' HO_4.out).2.2 x13_5 p517 q517
                   cases e517
                   replace p517:=eq_true p517
                   replace q517:=eq_true q517
                   have p519:0≤(x13_5:Int):=of_decide_eq_true (by first|(with_reducible assumption)|assumption)
                   have q519:x13_5<(t503.length:Int):=of_decide_eq_true (by first|(with_reducible assumption)|assumption)
                   obtain ⟨ad519,e519,hx519_0⟩:=Kd.at_int (Kd.R_reads' HO_4.out).2.2 x13_5 p519 q519
                   obtain rfl:ad517=ad519:=(by injection e519)
                   replace p519:=eq_true p519
                   replace q519:=eq_true q519
                   refine start_ (n:=30) (S:=fun w'=>w'.cell? (ad517.add (x13_5).toNat)=some (.int .i64 (rd t503 x13_5))∧w'.cell? (ad517.add (x13_5).toNat)=some (.int .i64 (rd t503 x13_5))) (ds:=[]) #[false,false,false,false,false,false,false,false,false,false,false,false,false,false,false,false,false,false,false,false,false,false,false,false,false,false,false,false,false,false] (by kernel_rfl) rfl rfl ⟨hx517_0,hx519_0⟩ (fun hHeld=>?_);refine with_tabW laws_FnStarParts.tab19 laws_FnStarParts.bits19 (fun HT_ HW_=>?_)
                   generalize wr.drew=w53 at HO_4 HB hx517_0 hx519_0 hHeld ⊢
                   refine pure_ (i:=0) (N:=some 74) (v:=?_) (a':=?_) #[true,false,false,false,false,false,false,false,false,false,false,false,false,false,false,false,false,false,false,false,false,false,false,false,false,false,false,false,false,false] rfl rfl (any_of HT_.out (by kernel_rfl)) (fun _ _ _ h=>h) (Or.inl ⟨by rfl,?_⟩) ?_ ?_
                   rotate_left
                   ·intro w'
                    go_simp
                    with_reducible rfl
                   rotate_left
                   ·simp only [Act.put,yK,yL,yM,i64_w,i32_w]
                    rfl
                   refine pure_ (i:=1) (N:=some 75) (v:=?_) (a':=?_) #[true,true,false,false,false,false,false,false,false,false,false,false,false,false,false,false,false,false,false,false,false,false,false,false,false,false,false,false,false,false] rfl rfl (any_of HT_.out (by kernel_rfl)) (fun _ _ _ h=>h) (Or.inl ⟨by rfl,?_⟩) ?_ ?_
                   rotate_left
                   ·intro w'
                    go_simp
                    with_reducible rfl
                   rotate_left
                   ·simp only [Act.put,yK,yL,yM,i64_w,i32_w]
                    rfl
                   refine pure_ (i:=2) (N:=some 76) (v:=?_) (a':=?_) #[true,true,true,false,false,false,false,false,false,false,false,false,false,false,false,false,false,false,false,false,false,false,false,false,false,false,false,false,false,false] rfl rfl (any_of HT_.out (by kernel_rfl)) (fun _ _ _ h=>h) (Or.inl ⟨by rfl,?_⟩) ?_ ?_
                   rotate_left
                   ·intro w'
                    go_simp
                    with_reducible rfl
                   rotate_left
                   ·simp only [Act.put,yK,yL,yM,i64_w,i32_w]
                    rfl
                   refine pure_ (i:=3) (N:=some 77) (v:=?_) (a':=?_) #[true,true,true,true,false,false,false,false,false,false,false,false,false,false,false,false,false,false,false,false,false,false,false,false,false,false,false,false,false,false] rfl rfl (any_of HT_.out (by kernel_rfl)) (fun _ _ _ h=>h) (Or.inl ⟨by rfl,?_⟩) ?_ ?_
                   rotate_left
                   ·intro w'
                    go_simp
                    with_reducible rfl
                   rotate_left
                   ·simp only [Act.put,yK,yL,yM,i64_w,i32_w]
                    rfl
                   refine take_ (i:=4) (N:=some 78) (v:=?_) (a':=?_) #[true,true,true,true,true,false,false,false,false,false,false,false,false,false,false,false,false,false,false,false,false,false,false,false,false,false,false,false,false,false] rfl rfl (take_ofW HT_.out HW_.out (by kernel_rfl)) (fun _ _ _ h=>h) (Or.inl ⟨by rfl,?_⟩) hHeld ?_ ?_
                   rotate_left
                   ·rintro w' ⟨s0,s1⟩
                    go_simp
                    with_reducible rfl
                   rotate_left
                   ·simp only [Act.put,yK,yL,yM,i64_w,i32_w]
                    rfl
                   refine one_ (i:=5) (N:=some 79) #[true,true,true,true,true,true,false,false,false,false,false,false,false,false,false,false,false,false,false,false,false,false,false,false,false,false,false,false,false,false] rfl rfl (one_of HT_.out (by kernel_rfl)) (by decide) (fun K hK=>?_)
                   refine goes_ Try.func9 (by kernel_rfl) rfl #[.string t502,.int .i64 (rd t503 x13_5)] (by rfl) rfl rfl (by (try simp only [List.map_toArray,List.map_cons,List.map_nil]);first|done|rfl|(simp only [List.length_drop,List.length_take];rfl)) ?_
                   with_reducible refine (impl_SetHas.calls k5 t502 (rd t503 x13_5) true _ A39.out).mono ?_
                   rintro e w54 ⟨rfl,hb⟩
                   have HS0_:=(hb.cell (World.block_lt_of_cell? _ _ (hHeld.1))).trans (hHeld.1)
                   have HS1_:=(hb.cell (World.block_lt_of_cell? _ _ (hHeld.2))).trans (hHeld.2)
                   refine ⟨_,rfl,?_⟩
                   have n0_:=Aside0.mk (Kd.R_below (by (with_reducible repeat (first|apply yH|apply yI|apply yJ));exact HO_4.out) hb)
                   have n1_:=Aside0.mk (yP (by repeat (first|(with_reducible first|exact HB.out|apply yA|apply yB|apply yC)|exact HB.out)) hb)
                   clear HO_4
                   clear HB
                   have HO_4:=n0_
                   have HB:=n1_
                   clear n0_ n1_
                   (try clear hb)
                   (try clear hb2)
                   (try clear hk)
                   (try clear hi)
                   refine hK.out _ _ ⟨HS0_,HS1_⟩ (fun hHeld=>?_)
                   clear hK K
                   refine norm_ (a':=?_) ?_ ?_
                   rotate_left
                   ·show Act.put _ (some 79) _=_
                    simp only [Act.put,yK,yL,yM,i64_w,i32_w]
                    rfl
                   refine pure_ (i:=6) (N:=some 80) (v:=?_) (a':=?_) #[true,true,true,true,true,true,true,false,false,false,false,false,false,false,false,false,false,false,false,false,false,false,false,false,false,false,false,false,false,false] rfl rfl (any_of HT_.out (by kernel_rfl)) (fun _ _ _ h=>h) (Or.inl ⟨by rfl,?_⟩) ?_ ?_
                   rotate_left
                   ·intro w'
                    go_simp
                    with_reducible rfl
                   rotate_left
                   ·simp only [Act.put,yK,yL,yM,i64_w,i32_w]
                    rfl
                   refine pure_ (i:=7) (N:=some 81) (v:=?_) (a':=?_) #[true,true,true,true,true,true,true,true,false,false,false,false,false,false,false,false,false,false,false,false,false,false,false,false,false,false,false,false,false,false] rfl rfl (any_of HT_.out (by kernel_rfl)) (fun _ _ _ h=>h) (Or.inl ⟨by rfl,?_⟩) ?_ ?_
                   rotate_left
                   ·intro w'
                    go_simp
                    with_reducible rfl
                   rotate_left
                   ·simp only [Act.put,yK,yL,yM,i64_w,i32_w]
                    rfl
                   refine pure_ (i:=8) (N:=some 82) (v:=?_) (a':=?_) #[true,true,true,true,true,true,true,true,true,false,false,false,false,false,false,false,false,false,false,false,false,false,false,false,false,false,false,false,false,false] rfl rfl (any_of HT_.out (by kernel_rfl)) (fun _ _ _ h=>h) (Or.inl ⟨by rfl,?_⟩) ?_ ?_
                   rotate_left
                   ·intro w'
                    go_simp
                    with_reducible rfl
                   rotate_left
                   ·simp only [Act.put,yK,yL,yM,i64_w,i32_w]
                    rfl
                   refine pure_ (i:=9) (N:=some 83) (v:=?_) (a':=?_) #[true,true,true,true,true,true,true,true,true,true,false,false,false,false,false,false,false,false,false,false,false,false,false,false,false,false,false,false,false,false] rfl rfl (any_of HT_.out (by kernel_rfl)) (fun _ _ _ h=>h) (Or.inl ⟨by rfl,?_⟩) ?_ ?_
                   rotate_left
                   ·intro w'
                    go_simp
                    with_reducible rfl
                   rotate_left
                   ·simp only [Act.put,yK,yL,yM,i64_w,i32_w]
                    rfl
                   refine pure_ (i:=10) (N:=some 84) (v:=?_) (a':=?_) #[true,true,true,true,true,true,true,true,true,true,true,false,false,false,false,false,false,false,false,false,false,false,false,false,false,false,false,false,false,false] rfl rfl (any_of HT_.out (by kernel_rfl)) (fun _ _ _ h=>h) (Or.inl ⟨by rfl,?_⟩) ?_ ?_
                   rotate_left
                   ·intro w'
                    go_simp
                    with_reducible rfl
                   rotate_left
                   ·simp only [Act.put,yK,yL,yM,i64_w,i32_w]
                    rfl
                   refine take_ (i:=11) (N:=some 85) (v:=?_) (a':=?_) #[true,true,true,true,true,true,true,true,true,true,true,true,false,false,false,false,false,false,false,false,false,false,false,false,false,false,false,false,false,false] rfl rfl (take_ofW HT_.out HW_.out (by kernel_rfl)) (fun _ _ _ h=>h) (Or.inl ⟨by rfl,?_⟩) hHeld ?_ ?_
                   rotate_left
                   ·rintro w' ⟨s0,s1⟩
                    go_simp
                    with_reducible rfl
                   rotate_left
                   ·simp only [Act.put,yK,yL,yM,i64_w,i32_w]
                    rfl
                   refine pure_ (i:=12) (N:=some 86) (v:=?_) (a':=?_) #[true,true,true,true,true,true,true,true,true,true,true,true,true,false,false,false,false,false,false,false,false,false,false,false,false,false,false,false,false,false] rfl rfl (any_of HT_.out (by kernel_rfl)) (fun _ _ _ h=>h) (Or.inl ⟨by rfl,?_⟩) ?_ ?_
                   rotate_left
                   ·intro w'
                    go_simp
                    with_reducible rfl
                   rotate_left
                   ·simp only [Act.put,yK,yL,yM,i64_w,i32_w]
                    rfl
                   refine pure_ (i:=13) (N:=some 87) (v:=?_) (a':=?_) #[true,true,true,true,true,true,true,true,true,true,true,true,true,true,false,false,false,false,false,false,false,false,false,false,false,false,false,false,false,false] rfl rfl (any_of HT_.out (by kernel_rfl)) (fun _ _ _ h=>h) (Or.inl ⟨by rfl,?_⟩) ?_ ?_
                   rotate_left
                   ·intro w'
                    go_simp
                    with_reducible rfl
                   rotate_left
                   ·simp only [Act.put,yK,yL,yM,i64_w,i32_w]
                    rfl
                   refine pure_ (i:=14) (N:=some 88) (v:=?_) (a':=?_) #[true,true,true,true,true,true,true,true,true,true,true,true,true,true,true,false,false,false,false,false,false,false,false,false,false,false,false,false,false,false] rfl rfl (any_of HT_.out (by kernel_rfl)) (fun _ _ _ h=>h) (Or.inl ⟨by rfl,?_⟩) ?_ ?_
                   rotate_left
                   ·intro w'
                    go_simp
                    with_reducible rfl
                   rotate_left
                   ·simp only [Act.put,yK,yL,yM,i64_w,i32_w]
                    rfl
                   refine pure_ (i:=15) (N:=some 89) (v:=?_) (a':=?_) #[true,true,true,true,true,true,true,true,true,true,true,true,true,true,true,true,false,false,false,false,false,false,false,false,false,false,false,false,false,false] rfl rfl (any_of HT_.out (by kernel_rfl)) (fun _ _ _ h=>h) (Or.inl ⟨by rfl,?_⟩) ?_ ?_
                   rotate_left
                   ·intro w'
                    go_simp
                    with_reducible rfl
                   rotate_left
                   ·simp only [Act.put,yK,yL,yM,i64_w,i32_w]
                    rfl
                   refine pure_ (i:=16) (N:=some 90) (v:=?_) (a':=?_) #[true,true,true,true,true,true,true,true,true,true,true,true,true,true,true,true,true,false,false,false,false,false,false,false,false,false,false,false,false,false] rfl rfl (any_of HT_.out (by kernel_rfl)) (fun _ _ _ h=>h) (Or.inl ⟨by rfl,?_⟩) ?_ ?_
                   rotate_left
                   ·intro w'
                    go_simp
                    with_reducible rfl
                   rotate_left
                   ·simp only [Act.put,yK,yL,yM,i64_w,i32_w]
                    rfl
                   refine pure_ (i:=17) (N:=some 91) (v:=?_) (a':=?_) #[true,true,true,true,true,true,true,true,true,true,true,true,true,true,true,true,true,true,false,false,false,false,false,false,false,false,false,false,false,false] rfl rfl (any_of HT_.out (by kernel_rfl)) (fun _ _ _ h=>h) (Or.inl ⟨by rfl,?_⟩) ?_ ?_
                   rotate_left
                   ·intro w'
                    go_simp
                    with_reducible rfl
                   rotate_left
                   ·simp only [Act.put,yK,yL,yM,i64_w,i32_w]
                    rfl
                   refine pure_ (i:=18) (N:=some 92) (v:=undef) (a':=?_) #[true,true,true,true,true,true,true,true,true,true,true,true,true,true,true,true,true,true,true,false,false,false,false,false,false,false,false,false,false,false] rfl rfl (any_of HT_.out (by kernel_rfl)) (fun _ _ _ h=>h) (Or.inr ⟨by rfl,rfl⟩) ?_ ?_
                   rotate_left
                   ·simp only [Act.put,yK,yL,yM,i64_w,i32_w]
                    rfl
                   refine pure_ (i:=19) (N:=some 93) (v:=undef) (a':=?_) #[true,true,true,true,true,true,true,true,true,true,true,true,true,true,true,true,true,true,true,true,false,false,false,false,false,false,false,false,false,false] rfl rfl (any_of HT_.out (by kernel_rfl)) (fun _ _ _ h=>h) (Or.inr ⟨by rfl,rfl⟩) ?_ ?_
                   rotate_left
                   ·simp only [Act.put,yK,yL,yM,i64_w,i32_w]
                    rfl
                   refine pure_ (i:=20) (N:=some 94) (v:=undef) (a':=?_) #[true,true,true,true,true,true,true,true,true,true,true,true,true,true,true,true,true,true,true,true,true,false,false,false,false,false,false,false,false,false] rfl rfl (any_of HT_.out (by kernel_rfl)) (fun _ _ _ h=>h) (Or.inr ⟨by rfl,rfl⟩) ?_ ?_
                   rotate_left
                   ·simp only [Act.put,yK,yL,yM,i64_w,i32_w]
                    rfl
                   refine pure_ (i:=21) (N:=some 95) (v:=undef) (a':=?_) #[true,true,true,true,true,true,true,true,true,true,true,true,true,true,true,true,true,true,true,true,true,true,false,false,false,false,false,false,false,false] rfl rfl (any_of HT_.out (by kernel_rfl)) (fun _ _ _ h=>h) (Or.inr ⟨by rfl,rfl⟩) ?_ ?_
                   rotate_left
                   ·simp only [Act.put,yK,yL,yM,i64_w,i32_w]
                    rfl
                   refine pure_ (i:=22) (N:=some 96) (v:=undef) (a':=?_) #[true,true,true,true,true,true,true,true,true,true,true,true,true,true,true,true,true,true,true,true,true,true,true,false,false,false,false,false,false,false] rfl rfl (any_of HT_.out (by kernel_rfl)) (fun _ _ _ h=>h) (Or.inr ⟨by rfl,rfl⟩) ?_ ?_
                   rotate_left
                   ·simp only [Act.put,yK,yL,yM,i64_w,i32_w]
                    rfl
                   refine pure_ (i:=23) (N:=some 97) (v:=undef) (a':=?_) #[true,true,true,true,true,true,true,true,true,true,true,true,true,true,true,true,true,true,true,true,true,true,true,true,false,false,false,false,false,false] rfl rfl (any_of HT_.out (by kernel_rfl)) (fun _ _ _ h=>h) (Or.inr ⟨by rfl,rfl⟩) ?_ ?_
                   rotate_left
                   ·simp only [Act.put,yK,yL,yM,i64_w,i32_w]
                    rfl
                   refine pure_ (i:=24) (N:=some 98) (v:=undef) (a':=?_) #[true,true,true,true,true,true,true,true,true,true,true,true,true,true,true,true,true,true,true,true,true,true,true,true,true,false,false,false,false,false] rfl rfl (any_of HT_.out (by kernel_rfl)) (fun _ _ _ h=>h) (Or.inr ⟨by rfl,rfl⟩) ?_ ?_
                   rotate_left
                   ·simp only [Act.put,yK,yL,yM,i64_w,i32_w]
                    rfl
                   refine pure_ (i:=25) (N:=some 99) (v:=undef) (a':=?_) #[true,true,true,true,true,true,true,true,true,true,true,true,true,true,true,true,true,true,true,true,true,true,true,true,true,true,false,false,false,false] rfl rfl (any_of HT_.out (by kernel_rfl)) (fun _ _ _ h=>h) (Or.inr ⟨by rfl,rfl⟩) ?_ ?_
                   rotate_left
                   ·simp only [Act.put,yK,yL,yM,i64_w,i32_w]
                    rfl
                   refine pure_ (i:=26) (N:=some 100) (v:=undef) (a':=?_) #[true,true,true,true,true,true,true,true,true,true,true,true,true,true,true,true,true,true,true,true,true,true,true,true,true,true,true,false,false,false] rfl rfl (any_of HT_.out (by kernel_rfl)) (fun _ _ _ h=>h) (Or.inr ⟨by rfl,rfl⟩) ?_ ?_
                   rotate_left
                   ·simp only [Act.put,yK,yL,yM,i64_w,i32_w]
                    rfl
                   refine pure_ (i:=27) (N:=some 101) (v:=undef) (a':=?_) #[true,true,true,true,true,true,true,true,true,true,true,true,true,true,true,true,true,true,true,true,true,true,true,true,true,true,true,true,false,false] rfl rfl (any_of HT_.out (by kernel_rfl)) (fun _ _ _ h=>h) (Or.inr ⟨by rfl,rfl⟩) ?_ ?_
                   rotate_left
                   ·simp only [Act.put,yK,yL,yM,i64_w,i32_w]
                    rfl
                   refine pure_ (i:=28) (N:=some 102) (v:=?_) (a':=?_) #[true,true,true,true,true,true,true,true,true,true,true,true,true,true,true,true,true,true,true,true,true,true,true,true,true,true,true,true,true,false] rfl rfl (any_of HT_.out (by kernel_rfl)) (fun _ _ _ h=>h) (Or.inl ⟨by rfl,?_⟩) ?_ ?_
                   rotate_left
                   ·intro w'
                    go_simp
                    with_reducible rfl
                   rotate_left
                   ·simp only [Act.put,yK,yL,yM,i64_w,i32_w]
                    rfl
                   refine pure_ (i:=29) (N:=some 103) (v:=?_) (a':=?_) #[true,true,true,true,true,true,true,true,true,true,true,true,true,true,true,true,true,true,true,true,true,true,true,true,true,true,true,true,true,true] rfl rfl (any_of HT_.out (by kernel_rfl)) (fun _ _ _ h=>h) (Or.inl ⟨by rfl,?_⟩) ?_ ?_
                   rotate_left
                   ·intro w'
                    go_simp
                    with_reducible rfl
                   rotate_left
                   ·simp only [Act.put,yK,yL,yM,i64_w,i32_w]
                    rfl
                   refine done_ (done_of HT_.out (by kernel_rfl)) ?_
                   try go_wp2
                   go_roundg k5
                   case measure=>have:=HJ5.out;have:=HJ15.out;have:=HK3.out;have:=HJ21.out;have:=HK5.out;omega
                   case rel=>exact ⟨(wrap64 (x13_5+1)),(by first|rfl|(simp;done)|(simp [*];done)|(simp [Int.tmod_eq_emod_of_nonneg];done)),H',⟨by have:=HJ5.out;have:=HJ15.out;have:=HK3.out;have:=HJ21.out;have:=HK5.out;omega⟩,⟨by (with_reducible repeat (first|apply yH|apply yI|apply yJ));exact HO_4.out⟩,⟨by repeat (first|(with_reducible first|exact HB.out|apply yA|apply yB|apply yC)|exact HB.out)⟩⟩
                ·replace c40:=Bool.eq_false_iff.mpr c40
                 subst c40
                 have H1:(some false)=some r:=by rw [if_neg (show ¬ (false=true) by decide)] at H;exact H
                 clear H
                 have H:=H1
                 clear H1
                 obtain rfl:=Option.some.inj H
                 try go_wp2
                 have n0_:=Aside0.mk (yJ HO_4.out)
                 have n1_:=Aside0.mk (yC HB.out)
                 clear HO_4
                 clear HB
                 have HO_4:=n0_
                 have HB:=n1_
                 clear n0_ n1_
                 have p517:0≤(x13_5:Int):=of_decide_eq_true (by first|(with_reducible assumption)|assumption)
                 have q517:x13_5<(t503.length:Int):=of_decide_eq_true (by first|(with_reducible assumption)|assumption)
                 obtain ⟨ad517,e517,hx517_0⟩:=Kd.at_int (Kd.R_reads' HO_4.out).2.2 x13_5 p517 q517
                 cases e517
                 replace p517:=eq_true p517
                 replace q517:=eq_true q517
                 refine start_ (n:=30) (S:=fun w'=>w'.cell? (ad517.add (x13_5).toNat)=some (.int .i64 (rd t503 x13_5))) (ds:=[]) #[false,false,false,false,false,false,false,false,false,false,false,false,false,false,false,false,false,false,false,false,false,false,false,false,false,false,false,false,false,false] (by kernel_rfl) rfl rfl (hx517_0) (fun hHeld=>?_);refine with_tabW laws_FnStarParts.tab19 laws_FnStarParts.bits19 (fun HT_ HW_=>?_)
                 generalize wr.drew=w55 at HO_4 HB hx517_0 hHeld ⊢
                 refine pure_ (i:=0) (N:=some 74) (v:=?_) (a':=?_) #[true,false,false,false,false,false,false,false,false,false,false,false,false,false,false,false,false,false,false,false,false,false,false,false,false,false,false,false,false,false] rfl rfl (any_of HT_.out (by kernel_rfl)) (fun _ _ _ h=>h) (Or.inl ⟨by rfl,?_⟩) ?_ ?_
                 rotate_left
                 ·intro w'
                  go_simp
                  with_reducible rfl
                 rotate_left
                 ·simp only [Act.put,yK,yL,yM,i64_w,i32_w]
                  rfl
                 refine pure_ (i:=1) (N:=some 75) (v:=?_) (a':=?_) #[true,true,false,false,false,false,false,false,false,false,false,false,false,false,false,false,false,false,false,false,false,false,false,false,false,false,false,false,false,false] rfl rfl (any_of HT_.out (by kernel_rfl)) (fun _ _ _ h=>h) (Or.inl ⟨by rfl,?_⟩) ?_ ?_
                 rotate_left
                 ·intro w'
                  go_simp
                  with_reducible rfl
                 rotate_left
                 ·simp only [Act.put,yK,yL,yM,i64_w,i32_w]
                  rfl
                 refine pure_ (i:=2) (N:=some 76) (v:=?_) (a':=?_) #[true,true,true,false,false,false,false,false,false,false,false,false,false,false,false,false,false,false,false,false,false,false,false,false,false,false,false,false,false,false] rfl rfl (any_of HT_.out (by kernel_rfl)) (fun _ _ _ h=>h) (Or.inl ⟨by rfl,?_⟩) ?_ ?_
                 rotate_left
                 ·intro w'
                  go_simp
                  with_reducible rfl
                 rotate_left
                 ·simp only [Act.put,yK,yL,yM,i64_w,i32_w]
                  rfl
                 refine pure_ (i:=3) (N:=some 77) (v:=?_) (a':=?_) #[true,true,true,true,false,false,false,false,false,false,false,false,false,false,false,false,false,false,false,false,false,false,false,false,false,false,false,false,false,false] rfl rfl (any_of HT_.out (by kernel_rfl)) (fun _ _ _ h=>h) (Or.inl ⟨by rfl,?_⟩) ?_ ?_
                 rotate_left
                 ·intro w'
                  go_simp
                  with_reducible rfl
                 rotate_left
                 ·simp only [Act.put,yK,yL,yM,i64_w,i32_w]
                  rfl
                 refine take_ (i:=4) (N:=some 78) (v:=?_) (a':=?_) #[true,true,true,true,true,false,false,false,false,false,false,false,false,false,false,false,false,false,false,false,false,false,false,false,false,false,false,false,false,false] rfl rfl (take_ofW HT_.out HW_.out (by kernel_rfl)) (fun _ _ _ h=>h) (Or.inl ⟨by rfl,?_⟩) hHeld ?_ ?_
                 rotate_left
                 ·intro w' s0
                  go_simp
                  with_reducible rfl
                 rotate_left
                 ·simp only [Act.put,yK,yL,yM,i64_w,i32_w]
                  rfl
                 refine one_ (i:=5) (N:=some 79) #[true,true,true,true,true,true,false,false,false,false,false,false,false,false,false,false,false,false,false,false,false,false,false,false,false,false,false,false,false,false] rfl rfl (one_of HT_.out (by kernel_rfl)) (by decide) (fun K hK=>?_)
                 refine goes_ Try.func9 (by kernel_rfl) rfl #[.string t502,.int .i64 (rd t503 x13_5)] (by rfl) rfl rfl (by (try simp only [List.map_toArray,List.map_cons,List.map_nil]);first|done|rfl|(simp only [List.length_drop,List.length_take];rfl)) ?_
                 with_reducible refine (impl_SetHas.calls k5 t502 (rd t503 x13_5) false _ A39.out).mono ?_
                 rintro e w56 ⟨rfl,hb⟩
                 have HS0_:=(hb.cell (World.block_lt_of_cell? _ _ (hHeld))).trans (hHeld)
                 refine ⟨_,rfl,?_⟩
                 have n0_:=Aside0.mk (Kd.R_below (by (with_reducible repeat (first|apply yH|apply yI|apply yJ));exact HO_4.out) hb)
                 have n1_:=Aside0.mk (yP (by repeat (first|(with_reducible first|exact HB.out|apply yA|apply yB|apply yC)|exact HB.out)) hb)
                 clear HO_4
                 clear HB
                 have HO_4:=n0_
                 have HB:=n1_
                 clear n0_ n1_
                 (try clear hb)
                 (try clear hb2)
                 (try clear hk)
                 (try clear hi)
                 refine hK.out _ _ (HS0_) (fun hHeld=>?_)
                 clear hK K
                 refine norm_ (a':=?_) ?_ ?_
                 rotate_left
                 ·show Act.put _ (some 79) _=_
                  simp only [Act.put,yK,yL,yM,i64_w,i32_w]
                  rfl
                 refine pure_ (i:=6) (N:=some 80) (v:=?_) (a':=?_) #[true,true,true,true,true,true,true,false,false,false,false,false,false,false,false,false,false,false,false,false,false,false,false,false,false,false,false,false,false,false] rfl rfl (any_of HT_.out (by kernel_rfl)) (fun _ _ _ h=>h) (Or.inl ⟨by rfl,?_⟩) ?_ ?_
                 rotate_left
                 ·intro w'
                  go_simp
                  with_reducible rfl
                 rotate_left
                 ·simp only [Act.put,yK,yL,yM,i64_w,i32_w]
                  rfl
                 refine pure_ (i:=7) (N:=some 81) (v:=?_) (a':=?_) #[true,true,true,true,true,true,true,true,false,false,false,false,false,false,false,false,false,false,false,false,false,false,false,false,false,false,false,false,false,false] rfl rfl (any_of HT_.out (by kernel_rfl)) (fun _ _ _ h=>h) (Or.inl ⟨by rfl,?_⟩) ?_ ?_
                 rotate_left
                 ·intro w'
                  go_simp
                  with_reducible rfl
                 rotate_left
                 ·simp only [Act.put,yK,yL,yM,i64_w,i32_w]
                  rfl
                 refine pure_ (i:=8) (N:=some 82) (v:=undef) (a':=?_) #[true,true,true,true,true,true,true,true,true,false,false,false,false,false,false,false,false,false,false,false,false,false,false,false,false,false,false,false,false,false] rfl rfl (any_of HT_.out (by kernel_rfl)) (fun _ _ _ h=>h) (Or.inr ⟨by rfl,rfl⟩) ?_ ?_
                 rotate_left
                 ·simp only [Act.put,yK,yL,yM,i64_w,i32_w]
                  rfl
                 refine pure_ (i:=9) (N:=some 83) (v:=undef) (a':=?_) #[true,true,true,true,true,true,true,true,true,true,false,false,false,false,false,false,false,false,false,false,false,false,false,false,false,false,false,false,false,false] rfl rfl (any_of HT_.out (by kernel_rfl)) (fun _ _ _ h=>h) (Or.inr ⟨by rfl,rfl⟩) ?_ ?_
                 rotate_left
                 ·simp only [Act.put,yK,yL,yM,i64_w,i32_w]
                  rfl
                 refine pure_ (i:=10) (N:=some 84) (v:=undef) (a':=?_) #[true,true,true,true,true,true,true,true,true,true,true,false,false,false,false,false,false,false,false,false,false,false,false,false,false,false,false,false,false,false] rfl rfl (any_of HT_.out (by kernel_rfl)) (fun _ _ _ h=>h) (Or.inr ⟨by rfl,rfl⟩) ?_ ?_
                 rotate_left
                 ·simp only [Act.put,yK,yL,yM,i64_w,i32_w]
                  rfl
                 refine pure_ (i:=11) (N:=some 85) (v:=undef) (a':=?_) #[true,true,true,true,true,true,true,true,true,true,true,true,false,false,false,false,false,false,false,false,false,false,false,false,false,false,false,false,false,false] rfl rfl (any_of HT_.out (by kernel_rfl)) (fun _ _ _ h=>h) (Or.inr ⟨by rfl,rfl⟩) ?_ ?_
                 rotate_left
                 ·simp only [Act.put,yK,yL,yM,i64_w,i32_w]
                  rfl
                 refine pure_ (i:=12) (N:=some 86) (v:=undef) (a':=?_) #[true,true,true,true,true,true,true,true,true,true,true,true,true,false,false,false,false,false,false,false,false,false,false,false,false,false,false,false,false,false] rfl rfl (any_of HT_.out (by kernel_rfl)) (fun _ _ _ h=>h) (Or.inr ⟨by rfl,rfl⟩) ?_ ?_
                 rotate_left
                 ·simp only [Act.put,yK,yL,yM,i64_w,i32_w]
                  rfl
                 refine pure_ (i:=13) (N:=some 87) (v:=?_) (a':=?_) #[true,true,true,true,true,true,true,true,true,true,true,true,true,true,false,false,false,false,false,false,false,false,false,false,false,false,false,false,false,false] rfl rfl (any_of HT_.out (by kernel_rfl)) (fun _ _ _ h=>h) (Or.inl ⟨by rfl,?_⟩) ?_ ?_
                 rotate_left
                 ·intro w'
                  go_simp
                  with_reducible rfl
                 rotate_left
                 ·simp only [Act.put,yK,yL,yM,i64_w,i32_w]
                  rfl
                 refine pure_ (i:=14) (N:=some 88) (v:=?_) (a':=?_) #[true,true,true,true,true,true,true,true,true,true,true,true,true,true,true,false,false,false,false,false,false,false,false,false,false,false,false,false,false,false] rfl rfl (any_of HT_.out (by kernel_rfl)) (fun _ _ _ h=>h) (Or.inl ⟨by rfl,?_⟩) ?_ ?_
                 rotate_left
                 ·intro w'
                  go_simp
                  with_reducible rfl
                 rotate_left
                 ·simp only [Act.put,yK,yL,yM,i64_w,i32_w]
                  rfl
                 refine pure_ (i:=15) (N:=some 89) (v:=undef) (a':=?_) #[true,true,true,true,true,true,true,true,true,true,true,true,true,true,true,true,false,false,false,false,false,false,false,false,false,false,false,false,false,false] rfl rfl (any_of HT_.out (by kernel_rfl)) (fun _ _ _ h=>h) (Or.inr ⟨by rfl,rfl⟩) ?_ ?_
                 rotate_left
                 ·simp only [Act.put,yK,yL,yM,i64_w,i32_w]
                  rfl
                 refine pure_ (i:=16) (N:=some 90) (v:=undef) (a':=?_) #[true,true,true,true,true,true,true,true,true,true,true,true,true,true,true,true,true,false,false,false,false,false,false,false,false,false,false,false,false,false] rfl rfl (any_of HT_.out (by kernel_rfl)) (fun _ _ _ h=>h) (Or.inr ⟨by rfl,rfl⟩) ?_ ?_
                 rotate_left
                 ·simp only [Act.put,yK,yL,yM,i64_w,i32_w]
                  rfl
                 refine pure_ (i:=17) (N:=some 91) (v:=undef) (a':=?_) #[true,true,true,true,true,true,true,true,true,true,true,true,true,true,true,true,true,true,false,false,false,false,false,false,false,false,false,false,false,false] rfl rfl (any_of HT_.out (by kernel_rfl)) (fun _ _ _ h=>h) (Or.inr ⟨by rfl,rfl⟩) ?_ ?_
                 rotate_left
                 ·simp only [Act.put,yK,yL,yM,i64_w,i32_w]
                  rfl
                 refine pure_ (i:=18) (N:=some 92) (v:=undef) (a':=?_) #[true,true,true,true,true,true,true,true,true,true,true,true,true,true,true,true,true,true,true,false,false,false,false,false,false,false,false,false,false,false] rfl rfl (any_of HT_.out (by kernel_rfl)) (fun _ _ _ h=>h) (Or.inr ⟨by rfl,rfl⟩) ?_ ?_
                 rotate_left
                 ·simp only [Act.put,yK,yL,yM,i64_w,i32_w]
                  rfl
                 refine pure_ (i:=19) (N:=some 93) (v:=undef) (a':=?_) #[true,true,true,true,true,true,true,true,true,true,true,true,true,true,true,true,true,true,true,true,false,false,false,false,false,false,false,false,false,false] rfl rfl (any_of HT_.out (by kernel_rfl)) (fun _ _ _ h=>h) (Or.inr ⟨by rfl,rfl⟩) ?_ ?_
                 rotate_left
                 ·simp only [Act.put,yK,yL,yM,i64_w,i32_w]
                  rfl
                 refine pure_ (i:=20) (N:=some 94) (v:=undef) (a':=?_) #[true,true,true,true,true,true,true,true,true,true,true,true,true,true,true,true,true,true,true,true,true,false,false,false,false,false,false,false,false,false] rfl rfl (any_of HT_.out (by kernel_rfl)) (fun _ _ _ h=>h) (Or.inr ⟨by rfl,rfl⟩) ?_ ?_
                 rotate_left
                 ·simp only [Act.put,yK,yL,yM,i64_w,i32_w]
                  rfl
                 refine pure_ (i:=21) (N:=some 95) (v:=undef) (a':=?_) #[true,true,true,true,true,true,true,true,true,true,true,true,true,true,true,true,true,true,true,true,true,true,false,false,false,false,false,false,false,false] rfl rfl (any_of HT_.out (by kernel_rfl)) (fun _ _ _ h=>h) (Or.inr ⟨by rfl,rfl⟩) ?_ ?_
                 rotate_left
                 ·simp only [Act.put,yK,yL,yM,i64_w,i32_w]
                  rfl
                 refine pure_ (i:=22) (N:=some 96) (v:=undef) (a':=?_) #[true,true,true,true,true,true,true,true,true,true,true,true,true,true,true,true,true,true,true,true,true,true,true,false,false,false,false,false,false,false] rfl rfl (any_of HT_.out (by kernel_rfl)) (fun _ _ _ h=>h) (Or.inr ⟨by rfl,rfl⟩) ?_ ?_
                 rotate_left
                 ·simp only [Act.put,yK,yL,yM,i64_w,i32_w]
                  rfl
                 refine pure_ (i:=23) (N:=some 97) (v:=undef) (a':=?_) #[true,true,true,true,true,true,true,true,true,true,true,true,true,true,true,true,true,true,true,true,true,true,true,true,false,false,false,false,false,false] rfl rfl (any_of HT_.out (by kernel_rfl)) (fun _ _ _ h=>h) (Or.inr ⟨by rfl,rfl⟩) ?_ ?_
                 rotate_left
                 ·simp only [Act.put,yK,yL,yM,i64_w,i32_w]
                  rfl
                 refine pure_ (i:=24) (N:=some 98) (v:=undef) (a':=?_) #[true,true,true,true,true,true,true,true,true,true,true,true,true,true,true,true,true,true,true,true,true,true,true,true,true,false,false,false,false,false] rfl rfl (any_of HT_.out (by kernel_rfl)) (fun _ _ _ h=>h) (Or.inr ⟨by rfl,rfl⟩) ?_ ?_
                 rotate_left
                 ·simp only [Act.put,yK,yL,yM,i64_w,i32_w]
                  rfl
                 refine pure_ (i:=25) (N:=some 99) (v:=undef) (a':=?_) #[true,true,true,true,true,true,true,true,true,true,true,true,true,true,true,true,true,true,true,true,true,true,true,true,true,true,false,false,false,false] rfl rfl (any_of HT_.out (by kernel_rfl)) (fun _ _ _ h=>h) (Or.inr ⟨by rfl,rfl⟩) ?_ ?_
                 rotate_left
                 ·simp only [Act.put,yK,yL,yM,i64_w,i32_w]
                  rfl
                 refine pure_ (i:=26) (N:=some 100) (v:=undef) (a':=?_) #[true,true,true,true,true,true,true,true,true,true,true,true,true,true,true,true,true,true,true,true,true,true,true,true,true,true,true,false,false,false] rfl rfl (any_of HT_.out (by kernel_rfl)) (fun _ _ _ h=>h) (Or.inr ⟨by rfl,rfl⟩) ?_ ?_
                 rotate_left
                 ·simp only [Act.put,yK,yL,yM,i64_w,i32_w]
                  rfl
                 refine pure_ (i:=27) (N:=some 101) (v:=undef) (a':=?_) #[true,true,true,true,true,true,true,true,true,true,true,true,true,true,true,true,true,true,true,true,true,true,true,true,true,true,true,true,false,false] rfl rfl (any_of HT_.out (by kernel_rfl)) (fun _ _ _ h=>h) (Or.inr ⟨by rfl,rfl⟩) ?_ ?_
                 rotate_left
                 ·simp only [Act.put,yK,yL,yM,i64_w,i32_w]
                  rfl
                 refine pure_ (i:=28) (N:=some 102) (v:=undef) (a':=?_) #[true,true,true,true,true,true,true,true,true,true,true,true,true,true,true,true,true,true,true,true,true,true,true,true,true,true,true,true,true,false] rfl rfl (any_of HT_.out (by kernel_rfl)) (fun _ _ _ h=>h) (Or.inr ⟨by rfl,rfl⟩) ?_ ?_
                 rotate_left
                 ·simp only [Act.put,yK,yL,yM,i64_w,i32_w]
                  rfl
                 refine pure_ (i:=29) (N:=some 103) (v:=?_) (a':=?_) #[true,true,true,true,true,true,true,true,true,true,true,true,true,true,true,true,true,true,true,true,true,true,true,true,true,true,true,true,true,true] rfl rfl (any_of HT_.out (by kernel_rfl)) (fun _ _ _ h=>h) (Or.inl ⟨by rfl,?_⟩) ?_ ?_
                 rotate_left
                 ·intro w'
                  go_simp
                  with_reducible rfl
                 rotate_left
                 ·simp only [Act.put,yK,yL,yM,i64_w,i32_w]
                  rfl
                 refine done_ (done_of HT_.out (by kernel_rfl)) ?_
                 try go_wp2
                 go_ret
                 exact ⟨by first|rfl|(simp [errW_none,errW_some]<;>rfl)|(simp [*,errW_none,errW_some]<;>rfl)|(simp [errW_none,errW_some];exact ⟨rfl,rfl⟩),by repeat (first|(with_reducible first|exact HB.out|apply yA|apply yB|apply yC)|exact HB.out)⟩
               ·rw [if_neg c38] at H
                exact absurd H (by simp)
              ·rw [if_neg c37] at H
               have c37b0:decide (x13_5<(t503.length:Int))=false:=decide_eq_false c37
               clear c37
               obtain rfl:=Option.some.inj H
               go_wp2
               go_ret
               exact ⟨by first|rfl|(simp [errW_none,errW_some]<;>rfl)|(simp [*,errW_none,errW_some]<;>rfl)|(simp [errW_none,errW_some];exact ⟨rfl,rfl⟩),by repeat (first|(with_reducible first|exact HB.out|apply yA|apply yB|apply yC)|exact HB.out)⟩

/-- THE ONE PURE STATEMENT of laws_FnStarParts: yours. -/
noncomputable def laws_FnStarParts.Pure:Prop:=∀ (l0:List Int),l0.length≤maxLen→l0.length * 1≤140737488351232→(∀ x ∈ l0,(Lit.int .u8 x).wf=true)→∃ k,laws_FnStarParts.f k l0=some true
theorem laws_FnStarParts.walk (P:laws_FnStarParts.Pure) (a0:Option Addr) (len0 cap0:Nat) (z0:List Int) (w:World) (w0:(a0=none∧len0=0∧cap0=0∧z0=[]) ∨ ∃ x,a0=some x∧len0≤cap0∧cap0≤maxLen∧z0.length=cap0∧(∀ i,i<z0.length→w.cell? (x.add i)=some (.int .u8 (z0.getD i 0)))∧∀ n ∈ z0,(Lit.int .u8 n).wf=true) (y0:len0 * 1≤140737488351232) :
  Calls Try.prog 4 #[.slice a0 len0 cap0] w fun e w'=>e=.returned (.bool true)∧Below w.heap.size w w':=by
 obtain ⟨l0,rfl,hr0,hm0,hw0,hc0⟩:=ReadsInt.ofRowC w0
 obtain ⟨k,h⟩:=P l0 hm0 y0 hw0
 refine (laws_FnStarParts.calls k _ _ l0 true w (Kd.C_of_reads (d:=(0:Int)) (h1:=fun _=>rfl) hr0) hc0 h).mono ?_
 rintro e w' ⟨rfl,hd⟩
 exact ⟨rfl,hd⟩

end Go.Proofs.Yticdcfgjpopkoaa.P

-- impl.tidied reads and makes tidy.
namespace Go.Proofs.Yticdcfgjpopkoaa.P
open Go.RowKit Go.Proofs.YticdcfgjpopkoaaW.PrintWords Go.Proofs.YticdcfgjpopkoaaW.PrintLast Go.Proofs.YticdcfgjpopkoaaW.PrintMore
set_option linter.unusedVariables false
set_option linter.unusedSimpArgs false

/-- What impl.tidied answers. -/
noncomputable def tdd (s : List UInt8) : List Bool × List Bool × Bool := match parse s with | some (a, b) => ((cn (hasB a b)).1, (cn (hasB a b)).2, true) | none => ([], [], false)
theorem tidied_f (s : ByteArray) (hs : s.size ≤ 70368744177664) : Ev (fun k => impl_tidied.f k s) (tdd (chrs s)) := by
  obtain ⟨x, y, h, hp⟩ := setOf_f s hs
  unfold tdd
  cases h0 : parse (chrs s) with
  | none =>
    rw [h0] at h
    refine Ev.congr (f := fun k => (impl_setOf.f k s).bind fun bt186 => (if bt186.2.2 = true then ((impl_set_tidy.f k bt186.1 bt186.2.1).bind fun bt194 => (some (bt194.1, bt194.2, true))) else (some (([] : List Bool), ([] : List Bool), false)))) (fun k => rfl) (Ev.bind h (by simpa using Ev.now _))
  | some ab =>
    obtain ⟨a, b⟩ := ab
    obtain ⟨rfl, rfl⟩ := hp a b h0
    rw [h0] at h
    have hb := parse_some h0
    have ht := tidy_cn x y hb.2.2 (by omega)
    refine Ev.congr (f := fun k => (impl_setOf.f k s).bind fun bt186 => (if bt186.2.2 = true then ((impl_set_tidy.f k bt186.1 bt186.2.1).bind fun bt194 => (some (bt194.1, bt194.2, true))) else (some (([] : List Bool), ([] : List Bool), false)))) (fun k => rfl) (Ev.bind h ?_)
    simp only [Option.isSome_some, if_true]
    exact Ev.bind ht (Ev.now _)

end Go.Proofs.Yticdcfgjpopkoaa.P

-- impl.small reads a small set, tidily.
namespace Go.Proofs.Yticdcfgjpopkoaa.P
open Go.RowKit Go.Proofs.YticdcfgjpopkoaaW.PrintWords Go.Proofs.YticdcfgjpopkoaaW.PrintLast Go.Proofs.YticdcfgjpopkoaaW.PrintMore
set_option linter.unusedVariables false
set_option linter.unusedSimpArgs false

theorem small_f (s : ByteArray) (hs : s.size ≤ 70368744177664) : ∃ x y, Ev (fun k => impl_small.f k s) (x, y, smallB (chrs s)) ∧ ((parse (chrs s)).isSome = true → x = (cn (setf (chrs s))).1 ∧ y = (cn (setf (chrs s))).2) := by
  have h := tidied_f s hs
  unfold tdd at h
  unfold smallB
  cases hp : parse (chrs s) with
  | none =>
    rw [hp] at h
    refine ⟨[], [], ?_, fun h => by simp at h⟩
    refine Ev.congr (fun k => rfl) (Ev.bind h ?_)
    simp only [Bool.false_eq_true, if_false, Option.isSome_none, Bool.false_and]
    exact Ev.now _
  | some ab =>
    rw [hp] at h
    have hset := setf_some (a := ab.1) (b := ab.2) hp
    refine ⟨(cn (hasB ab.1 ab.2)).1, (cn (hasB ab.1 ab.2)).2, ?_, fun _ => by rw [hset]; exact ⟨rfl, rfl⟩⟩
    refine Ev.congr (fun k => rfl) (Ev.bind h ?_)
    rw [hset, Option.isSome_some, Bool.true_and]
    simp only [if_true]
    by_cases h1 : (cn (hasB ab.1 ab.2)).1.length ≤ 8
    · by_cases h2 : (cn (hasB ab.1 ab.2)).2.length ≤ 8
      · rw [dec_true (show Small _ from ⟨h1, h2⟩)]
        simp only [if_pos (show ((cn (hasB ab.1 ab.2)).1.length : Int) ≤ 8 by omega), decide_eq_true (show ((cn (hasB ab.1 ab.2)).2.length : Int) ≤ 8 by omega)]
        exact Ev.now _
      · rw [dec_false (fun h : Small _ => h2 h.2)]
        simp only [if_pos (show ((cn (hasB ab.1 ab.2)).1.length : Int) ≤ 8 by omega), decide_eq_false (show ¬ ((cn (hasB ab.1 ab.2)).2.length : Int) ≤ 8 by omega)]
        exact Ev.now _
    · rw [dec_false (fun h : Small _ => h1 h.1)]
      simp only [if_neg (show ¬ ((cn (hasB ab.1 ab.2)).1.length : Int) ≤ 8 by omega)]
      exact Ev.now _
end Go.Proofs.Yticdcfgjpopkoaa.P

-- impl.StarHas.
namespace Go.Proofs.Yticdcfgjpopkoaa.P
open Go.RowKit Go.Proofs.YticdcfgjpopkoaaW.PrintWords Go.Proofs.YticdcfgjpopkoaaW.PrintLast Go.Proofs.YticdcfgjpopkoaaW.PrintMore
set_option linter.unusedVariables false
set_option linter.unusedSimpArgs false

/-- What StarHas answers. -/
noncomputable def sth (s : List UInt8) (n : Int) : Bool := smallB s && (decide (0 ≤ n ∧ n ≤ 2000) && stq (setf s) n.toNat)
theorem istarHas_f (s : ByteArray) (hs : s.size ≤ 70368744177664) (n : Int) : Ev (fun k => impl_StarHas.f k s n) (sth (chrs s) n) := by
  obtain ⟨x, y, hev, hxy⟩ := small_f s hs
  refine Ev.congr (fun k => rfl) (Ev.bind hev ?_)
  unfold sth
  cases hb : smallB (chrs s) with
  | false => simp only [Bool.false_eq_true, if_false, Bool.false_and]; exact Ev.now _
  | true =>
    simp only [if_true, in_f, Option.bind_some, Bool.true_and]
    by_cases hn : 0 ≤ n ∧ n ≤ 2000
    · obtain ⟨m, rfl⟩ := Int.eq_ofNat_of_zero_le hn.1
      obtain ⟨a, c, hp, hset, hm1, hm2, hpos, hper⟩ := smallB_ok hb
      obtain ⟨rfl, rfl⟩ := hxy (by rw [hp]; rfl)
      have hh1 : hasB (cn (setf (chrs s))).1 (cn (setf (chrs s))).2 = setf (chrs s) := by rw [hset]; exact cn_has (parse_per hp).1 (parse_per hp).2
      have hst := star_f (cn (setf (chrs s))).1 (cn (setf (chrs s))).2 (List.length_pos_iff.1 hpos) (by omega) (by omega) (m + 1) (by omega) (by omega)
      rw [hh1] at hst
      simp only [decide_eq_true hn, if_true, wsucc (show m ≤ 4611686018427387904 by omega), Bool.true_and, Int.toNat_natCast]
      refine Ev.bind hst ?_
      rw [if_pos (by omega), if_pos (by rw [mkT_length]; omega), rdOf_nat, mkT_get _ (Nat.lt_succ_self m)]
      exact Ev.now _
    · simp only [decide_eq_false hn, Bool.false_eq_true, if_false, Bool.false_and]; exact Ev.now _
end Go.Proofs.Yticdcfgjpopkoaa.P

-- impl.StarParts and spec.StarParts list the parts of a star.
namespace Go.Proofs.Yticdcfgjpopkoaa.P
open Go.RowKit Go.Proofs.YticdcfgjpopkoaaW.PrintWords Go.Proofs.YticdcfgjpopkoaaW.PrintLast Go.Proofs.YticdcfgjpopkoaaW.PrintMore
set_option linter.unusedVariables false
set_option linter.unusedSimpArgs false

theorem atm_bound {f : Nat → Bool} {m p : Nat} (hm : m ≤ 8) (hp : 0 < p) (hp8 : p ≤ 8) (hper : Per f m p) {n : Nat} (h : atm f n = true) : n < 200 := by
  unfold atm at h
  rw [Bool.and_eq_true, Bool.and_eq_true, decide_eq_true_iff] at h
  obtain ⟨h0, h1, h2⟩ := h
  obtain ⟨d, hd⟩ := least_exists hp hper
  have hdle := isLeast_le hp hper hd
  rcases hd with ⟨_, hno⟩ | ⟨hd0, hfd, hmin⟩
  · rw [hno n h0] at h1; cases h1
  · refine Classical.byContradiction fun hge => ?_
    have hpd : d * p ≤ 16 * 8 := Nat.mul_le_mul (by omega) hp8
    have hdp : 0 < d * p := Nat.mul_pos hd0 hp
    have h3 := per_sub hper d n (by omega) h1
    have hc : dcm f n = true := dec_true ⟨n - d * p, by omega, by omega, stq_iff.2 (St.of (by omega) h3), by
      rw [show n - (n - d * p) = p * d by rw [Nat.mul_comm p d]; omega]
      exact stq_iff.2 ((St.of hd0 hfd).mul p)⟩
    rw [hc] at h2; cases h2
/-- Whether a number is a sum of two of the star, the first one above 0 and less than k. -/
noncomputable def dcU (f : Nat → Bool) (n k : Nat) : Bool := dec (∃ j, 1 ≤ j ∧ j < k ∧ j < n ∧ stq f j = true ∧ stq f (n - j) = true)
theorem dcU_end {f : Nat → Bool} {n k : Nat} (h : n ≤ k) : dcU f n k = dcm f n := dec_congr ⟨fun ⟨j, a, _, c⟩ => ⟨j, a, c⟩, fun ⟨j, a, b, c⟩ => ⟨j, a, by omega, b, c⟩⟩
theorem dcU_one (f : Nat → Bool) (n : Nat) : dcU f n 1 = false := dec_false fun ⟨j, a, b, _⟩ => by omega
theorem dcU_old {f : Nat → Bool} {n k : Nat} (h : dcU f n k = true) : dcU f n (k + 1) = true := by
  obtain ⟨j, a, b, c⟩ := dec_iff.1 h
  exact dec_true ⟨j, a, by omega, c⟩
theorem dcU_new {f : Nat → Bool} {n k : Nat} (h1 : 1 ≤ k) (hk : k < n) (h : dcU f n k = false) : dcU f n (k + 1) = (stq f k && stq f (n - k)) := by
  rw [Bool.eq_iff_iff, Bool.and_eq_true]
  constructor
  · intro h2
    obtain ⟨j, a, b, c, d, e⟩ := dec_iff.1 h2
    rcases Nat.lt_or_ge j k with x | x
    · have : dcU f n k = true := dec_true ⟨j, a, x, c, d, e⟩
      rw [h] at this; cases this
    · rw [show j = k by omega] at d e; exact ⟨d, e⟩
  · rintro ⟨a, b⟩; exact dec_true ⟨k, h1, Nat.lt_succ_self _, hk, a, b⟩
theorem atm_pos {f : Nat → Bool} {n : Nat} (h : 0 < n) : atm f n = (f n && !dcm f n) := by unfold atm; rw [decide_eq_true h, Bool.true_and]
theorem pts_one (f : Nat → Bool) : pts f 1 = [] := by rw [show (1 : Nat) = 0 + 1 from rfl, pts_succ]; rfl
/-- What StarParts answers. -/
noncomputable def prts (f : Nat → Bool) : List Int × Bool := if dec (∃ p, 60 ≤ p ∧ atm f p = true) then ([], false) else (pts f 60, true)
noncomputable def prtr (s : List UInt8) : List Int × Bool := if smallB s then prts (setf s) else ([], false)
theorem pts_stay {f : Nat → Bool} {n : Nat} : ∀ m, n ≤ m → (∀ p, n ≤ p → p < m → atm f p = false) → pts f m = pts f n := by
  intro m
  induction m with
  | zero => intro h _; rw [show n = 0 by omega]
  | succ m ih =>
    intro h hno
    rcases Nat.lt_or_ge m n with x | x
    · rw [show n = m + 1 by omega]
    · rw [pts_succ, hno m x (by omega)]
      exact ih x fun p a b => hno p a (by omega)
theorem prts_no {f : Nat → Bool} (h : ∀ p, 60 ≤ p → p < 200 → atm f p = false) (hb : ∀ p, atm f p = true → p < 200) : prts f = (pts f 200, true) := by
  unfold prts
  rw [dec_false (fun ⟨p, a, b⟩ => by rw [h p a (hb p b)] at b; cases b), pts_stay 200 (by omega) h]; rfl
theorem prts_yes {f : Nat → Bool} {p : Nat} (h : 60 ≤ p) (ha : atm f p = true) : prts f = ([], false) := by
  unfold prts; rw [dec_true ⟨p, h, ha⟩]; rfl
/-- The last part is the greatest one. -/
theorem pts_last {f : Nat → Bool} : ∀ n, 0 < (pts f n).length → ∃ p, p < n ∧ atm f p = true ∧ rd (pts f n) (((pts f n).length - 1 : Nat) : Int) = (p : Int) ∧ ∀ p', p' < n → atm f p' = true → p' ≤ p := by
  intro n
  induction n with
  | zero => intro h; simp [pts] at h
  | succ n ih =>
    intro h
    rw [pts_succ] at h ⊢
    cases ha : atm f n with
    | true =>
      refine ⟨n, by omega, ha, ?_, fun p' a b => by omega⟩
      rw [if_pos rfl]
      unfold rd
      rw [Int.toNat_natCast, List.length_append, List.length_singleton, Nat.add_sub_cancel, List.getD_eq_getElem?_getD, List.getElem?_append_right (Nat.le_refl _), Nat.sub_self]; rfl
    | false =>
      rw [ha] at h
      rw [if_neg (by decide)] at h ⊢
      obtain ⟨p, a, b, c, d⟩ := ih h
      refine ⟨p, by omega, b, c, fun p' x y => ?_⟩
      rcases Nat.lt_or_ge p' n with z | z
      · exact d p' z y
      · rw [show p' = n by omega, ha] at y; cases y
theorem iparts_l1 (a b : List Bool) (hb : b ≠ []) (h1 : a.length ≤ 8) (h2 : b.length ≤ 8) (n : Nat) (h0 : 1 ≤ n) (hn : n < 200) (v : List Int × Bool)
    (hv : Ev (fun k => impl_StarParts.l0 k (mkT (stq (hasB a b)) 200) (pts (hasB a b) (n + 1)) ((n + 1 : Nat) : Int) a b) v) : ∀ (e i : Nat), 1 ≤ i → i ≤ n → n - i = e →
    Ev (fun k => impl_StarParts.l1 k (mkT (stq (hasB a b)) 200) (pts (hasB a b) n) n (dcU (hasB a b) n i) i a b) v := by
  rw [pts_succ, atm_pos (by omega)] at hv
  have HV := Aside0.mk hv
  clear hv
  have hpl := pts_length (hasB a b) n
  have hl : ((mkT (stq (hasB a b)) 200).length : Int) = 200 := by rw [mkT_length]; rfl
  have e1 := ihas_f a b hb (by omega) n (by omega)
  have c5 : n ≤ 4611686018427387904 := by omega
  intro e
  induction e with
  | zero =>
    intro i hi1 hi he
    have hin : ¬ ((i : Int) < (n : Int)) := by omega
    rw [dcU_end (by omega)]
    have hv := HV.out
    cases hf : hasB a b n with
    | false =>
      rw [hf] at hv
      refine Ev.step (fun k => ?_) hv
      simp only [impl_StarParts.l1]
      rw [if_neg hin, e1, hf, Option.bind_some, if_neg (by decide), wsucc c5]; rfl
    | true =>
      rw [hf] at hv
      cases hd : dcm (hasB a b) n with
      | true =>
        rw [hd] at hv
        refine Ev.step (fun k => ?_) hv
        simp only [impl_StarParts.l1]
        rw [if_neg hin, e1, hf, Option.bind_some, if_pos (by trivial), if_pos (by trivial), wsucc c5]; rfl
      | false =>
        rw [hd] at hv
        refine Ev.step (fun k => ?_) hv
        simp only [impl_StarParts.l1]
        rw [if_neg hin, e1, hf, Option.bind_some, if_pos (by trivial), if_neg (by decide), if_pos (by omega), wsucc c5]; rfl
  | succ e ih =>
    intro i hi1 hi he
    have d1 : (i : Int) < (n : Int) := by omega
    have d2 : i ≤ n := by omega
    have d3 : i ≤ 4611686018427387904 := by omega
    have d4 : i < 200 := by omega
    have d5 : n - i < 200 := by omega
    have hih := ih (i + 1) (by omega) (by omega) (by omega)
    cases hu : dcU (hasB a b) n i with
    | true =>
      rw [dcU_old hu] at hih
      refine Ev.step (fun k => ?_) hih
      simp only [impl_StarParts.l1]
      rw [if_pos d1, if_pos (by trivial), wsucc d3]
    | false =>
      rw [dcU_new hi1 (by omega) hu] at hih
      refine Ev.step (fun k => ?_) hih
      simp only [impl_StarParts.l1]
      rw [if_pos d1, if_neg (by decide), if_pos (by omega), hl, if_pos (by omega), rdOf_nat, mkT_get _ d4]
      cases hx : stq (hasB a b) i with
      | false => rw [if_neg (by decide), wsucc d3, Bool.false_and]
      | true => rw [if_pos (by trivial), wsub d2 c5, if_pos (by omega), if_pos (by omega), rdOf_nat, mkT_get _ d5, wsucc d3, Bool.true_and]
theorem iparts_l0 (a b : List Bool) (hb : b ≠ []) (h1 : a.length ≤ 8) (h2 : b.length ≤ 8) : ∀ (e n : Nat), 1 ≤ n → n ≤ 200 → 200 - n = e →
    Ev (fun k => impl_StarParts.l0 k (mkT (stq (hasB a b)) 200) (pts (hasB a b) n) n a b) (prts (hasB a b)) := by
  have hpos := List.length_pos_iff.2 hb
  have hbd := fun p (h : atm (hasB a b) p = true) => atm_bound h1 hpos h2 (hasB_per a b) h
  intro e
  induction e with
  | zero =>
    intro n h0 hn he
    have e : n = 200 := by omega
    subst e
    have hpl := pts_length (hasB a b) 200
    rcases Nat.eq_zero_or_pos (pts (hasB a b) 200).length with hz | hp
    · have hno : ∀ p, 60 ≤ p → p < 200 → atm (hasB a b) p = false := fun p x y => by
        cases ha : atm (hasB a b) p with
        | false => rfl
        | true => obtain ⟨i, hi, _⟩ := pts_has y ha; omega
      rw [prts_no hno hbd]
      refine Ev.step (f := fun k => some (pts (hasB a b) 200, true)) (fun k => ?_) (Ev.now _)
      simp only [impl_StarParts.l0]
      rw [if_neg (by omega), if_neg (by omega)]
    · obtain ⟨p, p1, p2, p3, p4⟩ := pts_last 200 hp
      have hw : wrap64 (((pts (hasB a b) 200).length : Int) - 1) = (((pts (hasB a b) 200).length - 1 : Nat) : Int) := wpred (by omega) (by omega)
      by_cases hge : 60 ≤ p
      · rw [prts_yes hge p2]
        refine Ev.step (f := fun k => some (([] : List Int), false)) (fun k => ?_) (Ev.now _)
        simp only [impl_StarParts.l0]
        rw [if_neg (by omega), if_pos (by omega), hw, if_pos (by omega), if_pos (by omega), p3, if_pos (by omega)]
      · rw [prts_no (fun p' x y => by
          cases ha : atm (hasB a b) p' with
          | false => rfl
          | true => have := p4 p' y ha; omega) hbd]
        refine Ev.step (f := fun k => some (pts (hasB a b) 200, true)) (fun k => ?_) (Ev.now _)
        simp only [impl_StarParts.l0]
        rw [if_neg (by omega), if_pos (by omega), hw, if_pos (by omega), if_pos (by omega), p3, if_neg (by omega)]
  | succ e ih =>
    intro n h0 hn he
    have h6 := iparts_l1 a b hb h1 h2 n h0 (by omega) _ (ih (n + 1) (by omega) (by omega) (by omega)) _ 1 (Nat.le_refl _) h0 rfl
    rw [dcU_one] at h6
    refine Ev.step (fun k => ?_) h6
    simp only [impl_StarParts.l0]
    rw [if_pos (by omega)]; rfl
theorem istarParts_f (s : ByteArray) (hs : s.size ≤ 70368744177664) : Ev (fun k => impl_StarParts.f k s) (prtr (chrs s)) := by
  obtain ⟨x, y, hev, hxy⟩ := small_f s hs
  refine Ev.congr (fun k => rfl) (Ev.bind hev ?_)
  unfold prtr
  cases hb : smallB (chrs s) with
  | false => simp only [Bool.false_eq_true, if_false]; exact Ev.now _
  | true =>
    obtain ⟨a, c, hp, hset, hm1, hm2, hpos, hper⟩ := smallB_ok hb
    obtain ⟨rfl, rfl⟩ := hxy (by rw [hp]; rfl)
    have hh1 : hasB (cn (setf (chrs s))).1 (cn (setf (chrs s))).2 = setf (chrs s) := by rw [hset]; exact cn_has (parse_per hp).1 (parse_per hp).2
    generalize (cn (setf (chrs s))).1 = x at *
    generalize (cn (setf (chrs s))).2 = y at *
    have hbne := List.length_pos_iff.1 hpos
    rw [← hh1]
    have h3 := iparts_l0 x y hbne hm1 hm2 _ 1 (Nat.le_refl _) (by omega) rfl
    rw [pts_one] at h3
    simp only [if_true]
    exact Ev.bind (star_f x y hbne (by omega) (by omega) 200 (by omega) (by omega)) h3
theorem sparts_l1 (a b : List Bool) (hb : b ≠ []) (h1 : a.length ≤ 8) (h2 : b.length ≤ 8) (n : Nat) (h0 : 1 ≤ n) (hn : n < 300) (hno : ∀ p, 60 ≤ p → p < n → atm (hasB a b) p = false)
    (hv : Ev (fun k => spec_StarParts.l0 k (pts (hasB a b) (n + 1)) (mkT (stq (hasB a b)) 300) ((n + 1 : Nat) : Int) a b) (prts (hasB a b)) ∨ (60 ≤ n ∧ atm (hasB a b) n = true)) : ∀ (e i : Nat), 1 ≤ i → i ≤ n → n - i = e →
    Ev (fun k => spec_StarParts.l1 k (pts (hasB a b) n) (mkT (stq (hasB a b)) 300) n (dcU (hasB a b) n i) i a b) (prts (hasB a b)) := by
  have hpl := pts_length (hasB a b) n
  have hl : ((mkT (stq (hasB a b)) 300).length : Int) = 300 := by rw [mkT_length]; rfl
  have e1 := shas_f a b hb (by omega) n (by omega)
  have c5 : n ≤ 4611686018427387904 := by omega
  have hat : atm (hasB a b) n = (hasB a b n && !dcm (hasB a b) n) := atm_pos (by omega)
  have hj : Ev (fun k => spec_StarParts.j2 k (pts (hasB a b) n) (mkT (stq (hasB a b)) 300) n (atm (hasB a b) n) a b) (prts (hasB a b)) := by
    cases ha : atm (hasB a b) n with
    | false =>
      rcases hv with hv | ⟨_, hv⟩
      · rw [pts_succ, ha] at hv
        refine Ev.step (fun k => ?_) hv
        simp only [spec_StarParts.j2]
        rw [if_neg (by decide), wsucc c5]; rfl
      · rw [ha] at hv; cases hv
    | true =>
      by_cases hge : 60 ≤ n
      · rw [prts_yes hge ha]
        refine Ev.step (f := fun k => some (([] : List Int), false)) (fun k => ?_) (Ev.now _)
        simp only [spec_StarParts.j2]
        rw [if_pos (by trivial), if_pos (by omega), if_pos (by omega)]
      · rcases hv with hv | ⟨hv, _⟩
        · rw [pts_succ, ha] at hv
          refine Ev.step (fun k => ?_) hv
          simp only [spec_StarParts.j2]
          rw [if_pos (by trivial), if_pos (by omega), if_neg (by omega), wsucc c5]; rfl
        · exact absurd hv hge
  clear hv
  intro e
  induction e with
  | zero =>
    intro i hi1 hi he
    have hin : ¬ ((i : Int) < (n : Int)) := by omega
    rw [dcU_end (by omega)]
    rw [hat] at hj
    cases hf : hasB a b n with
    | false =>
      rw [hf] at hj
      refine Ev.step (fun k => ?_) hj
      simp only [spec_StarParts.l1]
      rw [if_neg hin, e1, hf, Option.bind_some, if_neg (by decide), Bool.false_and]
    | true =>
      rw [hf] at hj
      refine Ev.step (fun k => ?_) hj
      simp only [spec_StarParts.l1]
      rw [if_neg hin, e1, hf, Option.bind_some, if_pos (by trivial), Bool.true_and]
  | succ e ih =>
    intro i hi1 hi he
    have d1 : (i : Int) < (n : Int) := by omega
    have d2 : i ≤ n := by omega
    have d3 : i ≤ 4611686018427387904 := by omega
    have d4 : i < 300 := by omega
    have d5 : n - i < 300 := by omega
    have hih := ih (i + 1) (by omega) (by omega) (by omega)
    cases hu : dcU (hasB a b) n i with
    | true =>
      rw [dcU_old hu] at hih
      refine Ev.step (fun k => ?_) hih
      simp only [spec_StarParts.l1]
      rw [if_pos d1, if_pos (by trivial), wsucc d3]
    | false =>
      rw [dcU_new hi1 (by omega) hu] at hih
      refine Ev.step (fun k => ?_) hih
      simp only [spec_StarParts.l1]
      rw [if_pos d1, if_neg (by decide), if_pos (by omega), hl, if_pos (by omega), rdOf_nat, mkT_get _ d4]
      cases hx : stq (hasB a b) i with
      | false => rw [if_neg (by decide), wsucc d3, Bool.false_and]
      | true => rw [if_pos (by trivial), wsub d2 c5, if_pos (by omega), if_pos (by omega), rdOf_nat, mkT_get _ d5, wsucc d3, Bool.true_and]
theorem sparts_l0 (a b : List Bool) (hb : b ≠ []) (h1 : a.length ≤ 8) (h2 : b.length ≤ 8) : ∀ (e n : Nat), 1 ≤ n → n ≤ 300 → 300 - n = e → (∀ p, 60 ≤ p → p < n → atm (hasB a b) p = false) →
    Ev (fun k => spec_StarParts.l0 k (pts (hasB a b) n) (mkT (stq (hasB a b)) 300) n a b) (prts (hasB a b)) := by
  have hpos := List.length_pos_iff.2 hb
  have hbd := fun p (h : atm (hasB a b) p = true) => atm_bound h1 hpos h2 (hasB_per a b) h
  intro e
  induction e with
  | zero =>
    intro n h0 hn he hno
    have e : n = 300 := by omega
    subst e
    have hsame : pts (hasB a b) 300 = pts (hasB a b) 200 := pts_stay 300 (by omega) fun p x y => by
      cases ha : atm (hasB a b) p with
      | false => rfl
      | true => have := hbd p ha; omega
    rw [prts_no (fun p x y => hno p x (by omega)) hbd, ← hsame]
    refine Ev.step (f := fun k => some (pts (hasB a b) 300, true)) (fun k => ?_) (Ev.now _)
    simp only [spec_StarParts.l0]
    rw [if_neg (by omega)]
  | succ e ih =>
    intro n h0 hn he hno
    have hnext : Ev (fun k => spec_StarParts.l0 k (pts (hasB a b) (n + 1)) (mkT (stq (hasB a b)) 300) ((n + 1 : Nat) : Int) a b) (prts (hasB a b)) ∨ (60 ≤ n ∧ atm (hasB a b) n = true) := by
      by_cases hbad : 60 ≤ n ∧ atm (hasB a b) n = true
      · exact .inr hbad
      · refine .inl (ih (n + 1) (by omega) (by omega) (by omega) fun p x y => ?_)
        rcases Nat.lt_or_ge p n with z | z
        · exact hno p x z
        · have e : p = n := by omega
          subst e
          cases ha : atm (hasB a b) p with
          | false => rfl
          | true => exact absurd ⟨x, ha⟩ hbad
    have h6 := sparts_l1 a b hb h1 h2 n h0 (by omega) hno hnext _ 1 (Nat.le_refl _) h0 rfl
    rw [dcU_one] at h6
    refine Ev.step (fun k => ?_) h6
    simp only [spec_StarParts.l0]
    rw [if_pos (by omega)]; rfl
theorem sstarParts_f (s : ByteArray) (hs : s.size ≤ 70368744177664) : Ev (fun k => spec_StarParts.f k s) (prtr (chrs s)) := by
  obtain ⟨x, y, hev, hxy⟩ := l4small_f s hs
  refine Ev.congr (f := fun k => (spec_l4Small.f k s).bind fun bt209 => (if bt209.2.2 = true then ((spec_l4Star.f k bt209.1 bt209.2.1 300).bind fun t217 => (spec_StarParts.l0 k [] t217 1 bt209.1 bt209.2.1)) else (some ([], false)))) (fun k => rfl) (Ev.bind hev ?_)
  unfold prtr
  cases hb : smallB (chrs s) with
  | false => simp only [Bool.false_eq_true, if_false]; exact Ev.now _
  | true =>
    obtain ⟨a, c, hp, hset, hm1, hm2, hpos, hper⟩ := smallB_ok hb
    obtain ⟨rfl, rfl⟩ := hxy (by rw [hp]; rfl)
    have hh1 : hasB (cn (setf (chrs s))).1 (cn (setf (chrs s))).2 = setf (chrs s) := by rw [hset]; exact cn_has (parse_per hp).1 (parse_per hp).2
    generalize (cn (setf (chrs s))).1 = x at *
    generalize (cn (setf (chrs s))).2 = y at *
    have hbne := List.length_pos_iff.1 hpos
    rw [← hh1]
    have h3 := sparts_l0 x y hbne hm1 hm2 _ 1 (Nat.le_refl _) (by omega) rfl fun p a b => by omega
    rw [pts_one] at h3
    simp only [if_true]
    exact Ev.bind (l4star_f x y hbne (by omega) (by omega) 300 (by omega) (by omega)) h3
end Go.Proofs.Yticdcfgjpopkoaa.P

-- impl.SetHas; the text of a tidy set, read again.
namespace Go.Proofs.Yticdcfgjpopkoaa.P
open Go.RowKit Go.Proofs.YticdcfgjpopkoaaW.PrintWords Go.Proofs.YticdcfgjpopkoaaW.PrintLast Go.Proofs.YticdcfgjpopkoaaW.PrintMore
set_option linter.unusedVariables false
set_option linter.unusedSimpArgs false

theorem isetHas_f (s : ByteArray) (hs : s.size ≤ 70368744177664) (n : Nat) (hn : n ≤ 1000000) : Ev (fun k => impl_SetHas.f k s n) (setf (chrs s) n) := by
  obtain ⟨x, y, hev, hxy⟩ := setOf_f s hs
  refine Ev.congr (fun k => rfl) (Ev.bind hev ?_)
  cases h : parse (chrs s) with
  | none => simp only [Option.isSome_none, Bool.false_eq_true, if_false, setf, h]; exact Ev.now _
  | some ab =>
    obtain ⟨rfl, rfl⟩ := hxy ab.1 ab.2 h
    have hb := parse_some (a := ab.1) (b := ab.2) h
    rw [setf_some (a := ab.1) (b := ab.2) h]
    simp only [Option.isSome_some, if_true, ihas_f ab.1 ab.2 hb.2.2 (by omega) n (by omega), Option.bind_some]
    exact Ev.now _
theorem isetHas_neg (s : ByteArray) (hs : s.size ≤ 70368744177664) (n : Int) (hn : n < 0) : Ev (fun k => impl_SetHas.f k s n) false := by
  obtain ⟨x, y, hev, hxy⟩ := setOf_f s hs
  refine Ev.congr (fun k => rfl) (Ev.bind hev ?_)
  simp only [ihas_neg x y n hn, Option.bind_some]
  cases (parse (chrs s)).isSome with
  | true => exact Ev.now _
  | false => exact Ev.now _
theorem txt_size (p : List Bool × List Bool) : (txt p).1.size ≤ 122 := by
  unfold txt
  split
  · show (textOf p.1 p.2).size ≤ 122; rw [textOf_size]; omega
  · show (0 : Nat) ≤ 122; omega
section
variable {q : Nat → Bool} {m p : Nat}
theorem txt_fits {t : List Bool × List Bool} (h : (txt t).2 = true) : t.1.length ≤ 60 ∧ t.2.length ≤ 60 := by
  unfold txt at h
  split at h
  · assumption
  · cases h
theorem txt_parse (hp : 0 < p) (h : Per q m p) (ht : (txt (cn q)).2 = true) : parse (chrs (txt (cn q)).1) = some ((cn q).1, (cn q).2) := by
  obtain ⟨h1, h2⟩ := txt_fits ht
  rw [txt_ok h1 h2]
  exact parse_cn hp h h1 h2
theorem txt_setf (hp : 0 < p) (h : Per q m p) (ht : (txt (cn q)).2 = true) : setf (chrs (txt (cn q)).1) = q := by
  rw [setf_some (txt_parse hp h ht), cn_has hp h]
theorem txt_tdy (hp : 0 < p) (h : Per q m p) (ht : (txt (cn q)).2 = true) : tdy (chrs (txt (cn q)).1) = ((txt (cn q)).1, true) := by
  obtain ⟨h1, h2⟩ := txt_fits ht
  rw [tdy_some (txt_parse hp h ht), cn_cn hp h, txt_ok h1 h2]
end
end Go.Proofs.Yticdcfgjpopkoaa.P

-- Words for the laws that ask a text number by number.
namespace Go.Proofs.Yticdcfgjpopkoaa.P
open Go.RowKit Go.Proofs.YticdcfgjpopkoaaW.PrintWords Go.Proofs.YticdcfgjpopkoaaW.PrintLast Go.Proofs.YticdcfgjpopkoaaW.PrintMore
set_option linter.unusedVariables false
set_option linter.unusedSimpArgs false

theorem ite_ok {c : Bool} {A : ByteArray × Bool} (h : (if c = true then A else (⟨#[]⟩, false)).2 = true) : c = true ∧ A.2 = true := by
  cases c with
  | true => exact ⟨rfl, by simpa using h⟩
  | false => simp at h
theorem bne_no (b : Bool) : ¬ ((b != b) = true) := by cases b <;> decide
theorem down1 {k K : Nat} (h : K + 1 ≤ k) : ∃ j, k = j + 1 ∧ K ≤ j := ⟨k - 1, by omega, by omega⟩
end Go.Proofs.Yticdcfgjpopkoaa.P

-- For every code the law FnStarParts holds.
namespace Go.Proofs.Yticdcfgjpopkoaa.P
open Go.RowKit Go.Proofs.YticdcfgjpopkoaaW.PrintWords Go.Proofs.YticdcfgjpopkoaaW.PrintLast Go.Proofs.YticdcfgjpopkoaaW.PrintMore
set_option linter.unusedVariables false
set_option linter.unusedSimpArgs false

theorem drawStarParts_f (l : List Int) (h : ∀ x ∈ l, (Lit.int .u8 x).wf = true) : ∃ (s : ByteArray), Few s ∧ Ev (fun k => spec_DrawStarParts.f k l) s := by
  obtain ⟨s, q, hf, hq, K0, h0⟩ := set91_f (code_of h) 0 (by omega)
  dsimp only at h0
  have g0 : ∀ k, K0 ≤ k → spec_l91Set.f k (l.take 2000) 0 = some (s, (q : Int)) := h0
  refine ⟨s, hf, K0, fun k hk => ?_⟩
  dsimp only
  unfold spec_DrawStarParts.f
  rw [open_f, Option.bind_some, g0 k (by omega), Option.bind_some]
theorem sameInts_l0 (l : List Int) (hl : l.length ≤ 1000000) : ∀ (d i : Nat), i ≤ l.length → l.length - i = d → Ev (fun k => laws_sameInts.l0 k l l i) true := by
  intro d
  induction d with
  | zero =>
    intro i hi hd
    refine Ev.step (f := fun k => some true) (fun k => ?_) (Ev.now _)
    simp only [laws_sameInts.l0]; rw [if_neg (by omega)]
  | succ d ih =>
    intro i hi hd
    refine Ev.step (fun k => ?_) (ih (i + 1) (by omega) (by omega))
    simp only [laws_sameInts.l0]
    rw [if_pos (by omega), if_pos (by omega), if_pos (by omega), if_pos (by trivial), wsucc (by omega)]
theorem sameInts_f (l : List Int) (hl : l.length ≤ 1000000) : Ev (fun k => laws_sameInts.f k l l) true := by
  refine Ev.congr (fun k => ?_) (sameInts_l0 l hl _ 0 (Nat.zero_le _) rfl)
  unfold laws_sameInts.f; rw [if_pos rfl]; rfl
theorem rd_at (l : List Int) {i : Nat} (h : i < l.length) : rd l (i : Int) = l[i] := by simp [rd, List.getD_eq_getElem?_getD, h]
theorem rd_in {l : List Int} {x : Int} : (∃ i : Nat, i < l.length ∧ rd l (i : Int) = x) ↔ x ∈ l := by
  constructor
  · rintro ⟨i, hi, rfl⟩
    rw [rd_at l hi]; exact List.getElem_mem hi
  · intro h
    obtain ⟨i, hi, h2⟩ := List.getElem_of_mem h
    exact ⟨i, hi, by rw [rd_at l hi, h2]⟩
theorem liq_in_iff (l : List Int) (n : Nat) : liq l n = true ↔ (n : Int) ∈ l := by unfold liq; rw [dec_iff, rd_in]
theorem pts_in {f : Nat → Bool} {n : Nat} {x : Int} : x ∈ pts f n ↔ ∃ m : Nat, x = (m : Int) ∧ m < n ∧ atm f m = true := by
  unfold pts
  rw [List.mem_map]
  constructor
  · rintro ⟨m, h1, rfl⟩; obtain ⟨h2, h3⟩ := List.mem_filter.1 h1; exact ⟨m, rfl, List.mem_range.1 h2, h3⟩
  · rintro ⟨m, rfl, h2, h3⟩; exact ⟨m, List.mem_filter.2 ⟨List.mem_range.2 h2, h3⟩, rfl⟩
theorem pts_up (f : Nat → Bool) (n : Nat) : (pts f n).Pairwise (· < ·) := by
  unfold pts
  rw [List.pairwise_map]
  exact (List.pairwise_lt_range.filter _).imp fun h => by
    show ((_ : Nat) : Int) < ((_ : Nat) : Int)
    omega
theorem pts_rise (f : Nat → Bool) (n : Nat) {i : Nat} (hi : i + 1 < (pts f n).length) : rd (pts f n) (i : Int) < rd (pts f n) ((i + 1 : Nat) : Int) := by
  rw [rd_at _ (by omega), rd_at _ hi]
  exact List.pairwise_iff_getElem.1 (pts_up f n) i (i + 1) (by omega) hi (by omega)
theorem atm_f {f : Nat → Bool} {n : Nat} (h : atm f n = true) : 0 < n ∧ f n = true := by
  unfold atm at h
  rw [Bool.and_eq_true, Bool.and_eq_true, decide_eq_true_iff] at h
  exact ⟨h.1, h.2.1⟩
theorem gen_star {f : Nat → Bool} (h : ∀ p, atm f p = true → p < 60) : stq (liq (pts f 60)) = stq f := by
  have hl : ∀ n, liq (pts f 60) n = true ↔ atm f n = true := fun n => by
    rw [liq_in_iff, pts_in]
    constructor
    · rintro ⟨m, h1, _, h3⟩; rw [show n = m by omega]; exact h3
    · intro h1; exact ⟨n, rfl, h n h1, h1⟩
  have up : ∀ b n, n ≤ b → stq f n = true → St (liq (pts f 60)) n := by
    intro b
    induction b with
    | zero => intro n hn _; rw [show n = 0 by omega]; exact St.zero _
    | succ b ih =>
      intro n hn hs
      rcases Nat.eq_zero_or_pos n with rfl | h0
      · exact St.zero _
      · obtain ⟨p, h1, h2, h3, h4⟩ := atm_of n h0 hs
        have h5 := ih (n - p) (by omega) h4
        have h6 := (St.of (f := liq (pts f 60)) h1 ((hl p).2 h3)).add h5
        rwa [show p + (n - p) = n by omega] at h6
  funext n
  rw [Bool.eq_iff_iff]
  constructor
  · intro h1
    obtain ⟨l, h2, h3⟩ := stq_iff.1 h1
    exact stq_iff.2 ⟨l, fun a ha => ⟨(h2 a ha).1, (atm_f ((hl a).1 (h2 a ha).2)).2⟩, h3⟩
  · intro h1; exact stq_iff.2 (up n n (Nat.le_refl _) h1)
theorem pts_any (f : Nat → Bool) : anyI (pts f 60) outq = false := by
  refine dec_false ?_
  rintro ⟨i, hi, h2⟩
  obtain ⟨m, h3, h4, h5⟩ := pts_in.1 (rd_in.1 ⟨i, hi, rfl⟩)
  rw [h3] at h2
  unfold outq at h2
  rw [decide_eq_true (show 0 ≤ (m : Int) ∧ (m : Int) ≤ 59 by omega)] at h2
  cases h2
theorem lawStarParts_l1 (s : ByteArray) (hs : s.size ≤ 70368744177664) : ∀ (d i : Nat), i ≤ (pts (setf (chrs s)) 60).length → (pts (setf (chrs s)) 60).length - i = d → Ev (fun k => laws_FnStarParts.l1 k s (pts (setf (chrs s)) 60) true i) true := by
  have hlen := pts_length (setf (chrs s)) 60
  intro d
  induction d with
  | zero =>
    intro i hi hd
    refine Ev.step (f := fun k => some true) (fun k => ?_) (Ev.now _)
    simp only [laws_FnStarParts.l1]; rw [if_neg (by omega)]
  | succ d ih =>
    intro i hi hd
    obtain ⟨K1, h1⟩ := ih (i + 1) (by omega) (by omega)
    dsimp only at h1
    obtain ⟨m, hm, hm2, ha⟩ := pts_in.1 (rd_in.1 ⟨i, (by omega : i < (pts (setf (chrs s)) 60).length), rfl⟩)
    obtain ⟨K2, h2⟩ := isetHas_f s hs m (by omega)
    dsimp only at h2
    have hf := atm_f ha
    rw [hf.2] at h2
    refine ⟨K1 + K2 + 1, fun k hk => ?_⟩
    obtain ⟨k, rfl, hk2⟩ := down1 hk
    have g1 := h1 k (by omega)
    have g2 := h2 k (by omega)
    rcases Nat.eq_zero_or_pos i with rfl | hi0
    · simp only [laws_FnStarParts.l1]
      rw [hm, if_pos (by omega), if_pos (by omega), g2, Option.bind_some, if_pos rfl, if_neg (by omega), if_neg (by omega), wsucc (by omega)]
      exact g1
    · obtain ⟨j, rfl⟩ : ∃ j, i = j + 1 := ⟨i - 1, by omega⟩
      have hup := pts_rise (setf (chrs s)) 60 (i := j) (by omega)
      have hw : wrap64 (((j + 1 : Nat) : Int) - 1) = (j : Int) := by rw [w64 (by omega) (by omega)]; omega
      rw [hm] at hup
      simp only [laws_FnStarParts.l1]
      rw [hm, hw, if_pos (by clear hw; omega), if_pos (by clear hw; omega), g2, Option.bind_some, if_pos rfl, if_neg (by clear hw; omega), if_pos (by clear hw; omega), if_pos (by clear hw; omega), if_pos (by clear hw; omega), if_neg (by clear hw; omega), wsucc (by clear hw; omega)]
      exact g1
theorem lawStarParts_l0 (s y : ByteArray) (hs : s.size ≤ 70368744177664) (hy : y.size ≤ 122) (hsm : smallB (chrs s) = true) (hq : stq (setf (chrs y)) = stq (setf (chrs s))) : ∀ (d i : Nat), i ≤ 201 → 201 - i = d → Ev (fun k => laws_FnStarParts.l0 k s (pts (setf (chrs s)) 60) y true i) true := by
  intro d
  induction d with
  | zero =>
    intro i hi hd
    have e : i = 201 := by omega
    subst e
    have h := lawStarParts_l1 s hs _ 0 (Nat.zero_le _) rfl
    refine Ev.step (f := fun k => laws_FnStarParts.j3 k s (pts (setf (chrs s)) 60) y true ((201 : Nat) : Int) false) (fun k => ?_) (Ev.step (fun k => ?_) h)
    · simp only [laws_FnStarParts.l0]; rfl
    · simp only [laws_FnStarParts.j3]; rfl
  | succ d ih =>
    intro i hi hd
    obtain ⟨K1, h1⟩ := ih (i + 1) (by omega) (by omega)
    dsimp only at h1
    obtain ⟨K2, h2⟩ := istarHas_f y (by omega) 0
    dsimp only at h2
    obtain ⟨K3, h3⟩ := istarHas_f y (by omega) (i : Int)
    dsimp only at h3
    obtain ⟨K4, h4⟩ := istarHas_f s hs (i : Int)
    dsimp only at h4
    have hdc : decide ((i : Int) ≤ 200) = true := decide_eq_true (by omega)
    have main : ∀ k, K1 + K2 + K3 + K4 + 1 ≤ k → laws_FnStarParts.j3 k s (pts (setf (chrs s)) 60) y true (i : Int) true = some true := by
      intro k hk
      obtain ⟨k, rfl, hk2⟩ := down1 hk
      simp only [laws_FnStarParts.j3]
      rw [if_pos (by trivial), h2 k (by omega), Option.bind_some]
      cases h0 : sth (chrs y) 0 with
      | false => rw [if_neg (by decide), wsucc (by omega)]; exact h1 k (by omega)
      | true =>
        have hys : smallB (chrs y) = true := by unfold sth at h0; rw [Bool.and_eq_true] at h0; exact h0.1
        have e : sth (chrs y) (i : Int) = sth (chrs s) (i : Int) := by unfold sth; rw [hys, hsm, hq]
        rw [if_pos rfl, h3 k (by omega), Option.bind_some, h4 k (by omega), Option.bind_some, e, if_neg (bne_no _), wsucc (by omega)]
        exact h1 k (by omega)
    refine ⟨K1 + K2 + K3 + K4 + 1 + 1, fun k hk => ?_⟩
    obtain ⟨k, rfl, hk2⟩ := down1 hk
    simp only [laws_FnStarParts.l0]
    rw [if_pos (by trivial), hdc]
    exact main k (by omega)
theorem lawStarParts_ev (l : List Int) (h : ∀ x ∈ l, (Lit.int .u8 x).wf = true) : Ev (fun k => laws_FnStarParts.f k l) true := by
  by_cases hl : (l.length : Int) > 1048576
  · exact ⟨0, fun k _ => by dsimp only; unfold laws_FnStarParts.f; rw [if_pos hl]⟩
  · obtain ⟨s, hf, K1, h1⟩ := drawStarParts_f l h
    dsimp only at h1
    have hz := hf.size
    have hs : s.size ≤ 70368744177664 := by omega
    obtain ⟨K2, h2⟩ := istarParts_f s hs
    dsimp only at h2
    obtain ⟨K3, h3⟩ := sstarParts_f s hs
    dsimp only at h3
    have main : Ev (fun k => laws_FnStarParts.j0 k s (prtr (chrs s)).1 (prtr (chrs s)).2 true) true := by
      cases h4 : (prtr (chrs s)).2 with
      | false =>
        refine Ev.step (f := fun k => laws_FnStarParts.j1 k s (prtr (chrs s)).1 true true) (fun k => ?_) (Ev.step (f := fun k => some true) (fun k => ?_) (Ev.now _))
        · simp only [laws_FnStarParts.j0]; rfl
        · simp only [laws_FnStarParts.j1]; rfl
      | true =>
        have hsm : smallB (chrs s) = true := by
          cases hb : smallB (chrs s) with
          | true => rfl
          | false => unfold prtr at h4; rw [hb] at h4; cases h4
        have hno : dec (∃ p, 60 ≤ p ∧ atm (setf (chrs s)) p = true) = false := by
          cases hb : dec (∃ p, 60 ≤ p ∧ atm (setf (chrs s)) p = true) with
          | false => rfl
          | true => unfold prtr at h4; rw [if_pos hsm] at h4; unfold prts at h4; rw [if_pos hb] at h4; cases h4
        have hp : prtr (chrs s) = (pts (setf (chrs s)) 60, true) := by unfold prtr; rw [if_pos hsm]; unfold prts; rw [if_neg (by rw [hno]; decide)]
        have hat : ∀ p, atm (setf (chrs s)) p = true → p < 60 := fun p hp => by
          rcases Nat.lt_or_ge p 60 with x | x
          · exact x
          · rw [dec_true ⟨p, x, hp⟩] at hno; cases hno
        rw [hp]
        have hlen := pts_length (setf (chrs s)) 60
        have hany := pts_any (setf (chrs s))
        have h5 := isetOfList_f (pts (setf (chrs s)) 60) (by omega)
        have hsp := cn_spec (by omega) (liq_per hany)
        have ht : (txt (cn (liq (pts (setf (chrs s)) 60)))).2 = true := by rw [txt_ok (by omega) (by omega)]
        have hso : sor (pts (setf (chrs s)) 60) = ((txt (cn (liq (pts (setf (chrs s)) 60)))).1, true) := by
          unfold sor; rw [if_neg (by rw [hany]; decide), ← ht]
        have hx := txt_size (cn (liq (pts (setf (chrs s)) 60)))
        obtain ⟨K6, h6⟩ := lawStarParts_l0 s (txt (cn (liq (pts (setf (chrs s)) 60)))).1 hs hx hsm (by rw [txt_setf (by omega) (liq_per hany) ht, gen_star hat]) _ 0 (Nat.zero_le _) rfl
        have g6 : ∀ k, K6 ≤ k → laws_FnStarParts.l0 k s (pts (setf (chrs s)) 60) (txt (cn (liq (pts (setf (chrs s)) 60)))).1 true 0 = some true := h6
        refine Ev.step (f := fun k => laws_FnStarParts.j1 k s (pts (setf (chrs s)) 60) true false) (fun k => ?_) ⟨K6 + 1, fun k hk => ?_⟩
        · simp only [laws_FnStarParts.j0]; rfl
        · obtain ⟨k, rfl, hk2⟩ := down1 hk
          simp only [laws_FnStarParts.j1]
          rw [if_neg (by decide), h5, Option.bind_some, hso]
          exact g6 k (by omega)
    obtain ⟨K4, h4⟩ := main
    dsimp only at h4
    have hlen : (prtr (chrs s)).1.length ≤ 60 := by
      unfold prtr
      split
      · unfold prts
        split
        · simp
        · exact pts_length _ 60
      · simp
    obtain ⟨K5, h5⟩ := sameInts_f (prtr (chrs s)).1 (by omega)
    dsimp only at h5
    refine ⟨K1 + K2 + K3 + K4 + K5, fun k hk => ?_⟩
    dsimp only
    unfold laws_FnStarParts.f
    rw [if_neg hl, h1 k (by omega), Option.bind_some, h2 k (by omega), Option.bind_some, h3 k (by omega), Option.bind_some, h5 k (by omega), Option.bind_some, if_pos (by trivial), BEq.rfl]
    exact h4 k (by omega)
theorem lawStarParts_pure : laws_FnStarParts.Pure := fun l _ _ h => (lawStarParts_ev l h).rounds
end Go.Proofs.Yticdcfgjpopkoaa.P

-- For every code the law FnStarParts holds.
namespace Go.Proofs.Yticdcfgjpopkoaa.Pure
theorem FnStarParts : Go.Proofs.Yticdcfgjpopkoaa.P.laws_FnStarParts.Pure := Go.Proofs.Yticdcfgjpopkoaa.P.lawStarParts_pure
end Go.Proofs.Yticdcfgjpopkoaa.Pure
