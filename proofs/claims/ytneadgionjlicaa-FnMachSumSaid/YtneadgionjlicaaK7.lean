/- What these laws reach, joined by a program of this session: contracts (written by that program over the kit's print, or by hand) and plain lemmas. -/
import Derived.Test.YtneadgionjlicaaK1
import Derived.Test.YtneadgionjlicaaK4
import Derived.Test.YtneadgionjlicaaK5
import Derived.Test.YtneadgionjlicaaK6
open Go.Proofs.YtneadgionjlicaaW.PrintWords renaming below_alloc → yA, pw_below_drewN → yB, below_drew1 → yC, below_set → yD, blk_drewN → yE, blk_drew → yF, blk_alloc → yG, below_step → yP, below_size → yQ
open Go.Proofs.YtneadgionjlicaaW.PrintWords.Kd renaming R_alloc → yH, R_drewN → yI, R_drew → yJ
open List renaming setIfInBounds_toArray → yK, set_cons_zero → yL, set_cons_succ → yM
namespace Go.Proofs.Ytneadgionjlicaa.P
open Go.RowKit Go.Proofs.YtneadgionjlicaaW.PrintWords Go.Proofs.YtneadgionjlicaaW.PrintLast Go.Proofs.YtneadgionjlicaaW.PrintMore
attribute [local go_sem] max2_int min2_int max_two min_two max_three min_three max_four min_four   -- for this text's walks alone
set_option linter.unusedVariables false
set_option linter.unusedSimpArgs false

/-! ### laws_FnMachSum: function 6 -/
noncomputable def laws_FnMachSum.j0:Nat→Bool→Bool→Bool→List Int→Int→Int→List Int→Int→Int→List Int→Int→Int→List Int→Int→Int→Option (Bool)
 | 0,_,_,_,_,_,_,_,_,_,_,_,_,_,_,_=>none
 | k+1,x6,x8,x49,x622000,x622001,x622002,x623000,x623001,x623002,x630000,x630001,x630002,x637000,x637001,x637002=>if x49=true then ((laws_sameMachine.f k x630000 x630001 x630002 x637000 x637001 x637002).bind fun t638=>(if t638=true then (some (x6 == x8)) else (some false))) else ((impl_MachSet.f x630000 x630001 x630002).bind fun bt639=>((impl_MachSet.f x622000 x622001 x622002).bind fun bt641=>((impl_MachSet.f x623000 x623001 x623002).bind fun bt643=>((impl_MakeBoth.f bt641.1 bt643.1).bind fun bt645=>(if bt639.2=true then (if bt641.2=true then (if bt643.2=true then (if bt645.2=true then (some (bt639.1.toList == bt645.1.toList)) else (some true)) else (some true)) else (some true)) else (some true))))))
noncomputable def laws_FnMachSum.f (k:Nat) (l0:List Int):Option (Bool):=if (l0.length:Int) > 1048576 then (some true) else ((spec_DrawMachBoth.f k l0).bind fun bt611=>((impl_MachBoth.f k bt611.1 bt611.2.1 bt611.2.2.1 bt611.2.2.2.1 bt611.2.2.2.2.1 bt611.2.2.2.2.2).bind fun bt623=>((spec_MachBoth.f k bt611.1 bt611.2.1 bt611.2.2.1 bt611.2.2.2.1 bt611.2.2.2.2.1 bt611.2.2.2.2.2).bind fun bt630=>((laws_sameMachine.f k bt623.1 bt623.2.1 bt623.2.2.1 bt630.1 bt630.2.1 bt630.2.2.1).bind fun t637=>(if t637=true then (if (bt623.2.2.2 != bt630.2.2.2)=true then (laws_FnMachSum.j0 k bt623.2.2.2 bt630.2.2.2 true bt611.1 bt611.2.1 bt611.2.2.1 bt611.2.2.2.1 bt611.2.2.2.2.1 bt611.2.2.2.2.2 bt623.1 bt623.2.1 bt623.2.2.1 bt630.1 bt630.2.1 bt630.2.2.1) else (laws_FnMachSum.j0 k bt623.2.2.2 bt630.2.2.2 (!bt623.2.2.2) bt611.1 bt611.2.1 bt611.2.2.1 bt611.2.2.2.1 bt611.2.2.2.2.1 bt611.2.2.2.2.2 bt623.1 bt623.2.1 bt623.2.2.1 bt630.1 bt630.2.1 bt630.2.2.1)) else (laws_FnMachSum.j0 k bt623.2.2.2 bt630.2.2.2 true bt611.1 bt611.2.1 bt611.2.2.1 bt611.2.2.2.1 bt611.2.2.2.2.1 bt611.2.2.2.2.2 bt623.1 bt623.2.1 bt623.2.2.1 bt630.1 bt630.2.1 bt630.2.2.1))))))
theorem laws_FnMachSum.mono_l:∀ k,(∀ y0 y1 y2 y3 y4 y5 y6 y7 y8 y9 y10 y11 y12 y13 y14,LeO (laws_FnMachSum.j0 k y0 y1 y2 y3 y4 y5 y6 y7 y8 y9 y10 y11 y12 y13 y14) (laws_FnMachSum.j0 (k+1) y0 y1 y2 y3 y4 y5 y6 y7 y8 y9 y10 y11 y12 y13 y14))
 | 0=>fun _ _ _ _ _ _ _ _ _ _ _ _ _ _ _ r h=>by simp [laws_FnMachSum.j0] at h
 | k+1=>by
  have ih0:=laws_FnMachSum.mono_l k
  ·intro y0 y1 y2 y3 y4 y5 y6 y7 y8 y9 y10 y11 y12 y13 y14
   unfold laws_FnMachSum.j0
   repeat' first
   | (with_reducible exact ih0 _ _ _ _ _ _ _ _ _ _ _ _ _ _ _)
   | (with_reducible exact impl_MachBoth.mono _ _ _ _ _ _ _)
   | (with_reducible exact laws_sameMachine.mono _ _ _ _ _ _ _)
   | (with_reducible exact spec_DrawMachBoth.mono _ _)
   | (with_reducible exact spec_MachBoth.mono _ _ _ _ _ _ _)
   | (with_reducible exact LeO.refl _)
   | (with_reducible exact LeO.none _)
   | (with_reducible refine LeO.ite ?_ ?_)
   | (with_reducible refine LeO.bind ?_ (fun _=>?_))
   | exact ih0 _ _ _ _ _ _ _ _ _ _ _ _ _ _ _
   | exact impl_MachBoth.mono _ _ _ _ _ _ _
   | exact laws_sameMachine.mono _ _ _ _ _ _ _
   | exact spec_DrawMachBoth.mono _ _
   | exact spec_MachBoth.mono _ _ _ _ _ _ _
   | exact LeO.none _
   | refine LeO.ite ?_ ?_
   | refine LeO.bind ?_ (fun _=>?_)
theorem laws_FnMachSum.mono:∀ a0 k,LeO (laws_FnMachSum.f k a0) (laws_FnMachSum.f (k+1) a0):=by
 intro a0 k
 have ih0:=laws_FnMachSum.mono_l k
 unfold laws_FnMachSum.f
 repeat' first
   | (with_reducible exact ih0 _ _ _ _ _ _ _ _ _ _ _ _ _ _ _)
   | (with_reducible exact impl_MachBoth.mono _ _ _ _ _ _ _)
   | (with_reducible exact laws_sameMachine.mono _ _ _ _ _ _ _)
   | (with_reducible exact spec_DrawMachBoth.mono _ _)
   | (with_reducible exact spec_MachBoth.mono _ _ _ _ _ _ _)
   | (with_reducible exact LeO.refl _)
   | (with_reducible exact LeO.none _)
   | (with_reducible refine LeO.ite ?_ ?_)
   | (with_reducible refine LeO.bind ?_ (fun _=>?_))
   | exact ih0 _ _ _ _ _ _ _ _ _ _ _ _ _ _ _
   | exact impl_MachBoth.mono _ _ _ _ _ _ _
   | exact laws_sameMachine.mono _ _ _ _ _ _ _
   | exact spec_DrawMachBoth.mono _ _
   | exact spec_MachBoth.mono _ _ _ _ _ _ _
   | exact LeO.none _
   | refine LeO.ite ?_ ?_
   | refine LeO.bind ?_ (fun _=>?_)
set_option maxHeartbeats 8000000 in
set_option maxRecDepth 100000 in
theorem laws_FnMachSum.calls (k:Nat) (A0:Option Addr) (c0:Nat) (l0:List Int) (r:Bool) (w:World) (hr0:Kd.C (Kd.int .u8) w A0 l0.length l0) (hc0:l0.length≤c0) (h:laws_FnMachSum.f k l0=some r) :
  Calls Try.prog 6 #[.slice A0 l0.length c0] w fun e w'=>e=.returned (.bool r)∧Below w.heap.size w w':=by
 have hu31:=Try.underlying31
 have HR0:=Aside0.mk hr0
 have HC0:=Aside0.mk hc0
 clear hr0 hc0
 have HB:=Aside0.mk (Below.refl w.heap.size w)
 have H:(if (l0.length:Int) > 1048576 then (some true) else ((spec_DrawMachBoth.f k l0).bind fun bt611=>((impl_MachBoth.f k bt611.1 bt611.2.1 bt611.2.2.1 bt611.2.2.2.1 bt611.2.2.2.2.1 bt611.2.2.2.2.2).bind fun bt623=>((spec_MachBoth.f k bt611.1 bt611.2.1 bt611.2.2.1 bt611.2.2.2.1 bt611.2.2.2.2.1 bt611.2.2.2.2.2).bind fun bt630=>((laws_sameMachine.f k bt623.1 bt623.2.1 bt623.2.2.1 bt630.1 bt630.2.1 bt630.2.2.1).bind fun t637=>(if t637=true then (if (bt623.2.2.2 != bt630.2.2.2)=true then (laws_FnMachSum.j0 k bt623.2.2.2 bt630.2.2.2 true bt611.1 bt611.2.1 bt611.2.2.1 bt611.2.2.2.1 bt611.2.2.2.2.1 bt611.2.2.2.2.2 bt623.1 bt623.2.1 bt623.2.2.1 bt630.1 bt630.2.1 bt630.2.2.1) else (laws_FnMachSum.j0 k bt623.2.2.2 bt630.2.2.2 (!bt623.2.2.2) bt611.1 bt611.2.1 bt611.2.2.1 bt611.2.2.2.1 bt611.2.2.2.2.1 bt611.2.2.2.2.2 bt623.1 bt623.2.1 bt623.2.2.1 bt630.1 bt630.2.1 bt630.2.2.1)) else (laws_FnMachSum.j0 k bt623.2.2.2 bt630.2.2.2 true bt611.1 bt611.2.1 bt611.2.2.1 bt611.2.2.2.1 bt611.2.2.2.2.1 bt611.2.2.2.2.2 bt623.1 bt623.2.1 bt623.2.2.1 bt630.1 bt630.2.1 bt630.2.2.1)))))))=some r:=h
 clear h
 by_cases c2:(l0.length:Int) > 1048576
 ·rw [if_pos c2] at H
  have c2b0:decide (1048576<(l0.length:Int))=true:=decide_eq_true c2
  have c2b1:decide (1048576<l0.length)=true:=decide_eq_true (by omega)
  clear c2
  obtain rfl:=Option.some.inj H
  go_enter Try.func6,Try.ntmps6
  go_wp2
  go_ret
  exact ⟨by first|rfl|(simp [errW_none,errW_some]<;>rfl)|(simp [*,errW_none,errW_some]<;>rfl)|(simp [errW_none,errW_some];exact ⟨rfl,rfl⟩),by repeat (first|(with_reducible first|exact HB.out|apply yA|apply yB|apply yC)|exact HB.out)⟩
 ·rw [if_neg c2] at H
  have c2b0:decide (1048576<(l0.length:Int))=false:=decide_eq_false c2
  have c2b1:decide (1048576<l0.length)=false:=decide_eq_false (by omega)
  clear c2
  replace H:=Option.bind_eq_some_iff.mp H
  obtain ⟨⟨t611,t614,t615,t616,t619,t620⟩,A30,H⟩:=H
  replace H:((impl_MachBoth.f k t611 t614 t615 t616 t619 t620).bind fun bt623=>((spec_MachBoth.f k t611 t614 t615 t616 t619 t620).bind fun bt630=>((laws_sameMachine.f k bt623.1 bt623.2.1 bt623.2.2.1 bt630.1 bt630.2.1 bt630.2.2.1).bind fun t637=>(if t637=true then (if (bt623.2.2.2 != bt630.2.2.2)=true then (laws_FnMachSum.j0 k bt623.2.2.2 bt630.2.2.2 true t611 t614 t615 t616 t619 t620 bt623.1 bt623.2.1 bt623.2.2.1 bt630.1 bt630.2.1 bt630.2.2.1) else (laws_FnMachSum.j0 k bt623.2.2.2 bt630.2.2.2 (!bt623.2.2.2) t611 t614 t615 t616 t619 t620 bt623.1 bt623.2.1 bt623.2.2.1 bt630.1 bt630.2.1 bt630.2.2.1)) else (laws_FnMachSum.j0 k bt623.2.2.2 bt630.2.2.2 true t611 t614 t615 t616 t619 t620 bt623.1 bt623.2.1 bt623.2.2.1 bt630.1 bt630.2.1 bt630.2.2.1)))))=some r:=H
  have A3:=Aside0.mk A30
  clear A30
  replace H:=Option.bind_eq_some_iff.mp H
  obtain ⟨⟨t623,t626,t627,t628⟩,A40,H⟩:=H
  replace H:((spec_MachBoth.f k t611 t614 t615 t616 t619 t620).bind fun bt630=>((laws_sameMachine.f k t623 t626 t627 bt630.1 bt630.2.1 bt630.2.2.1).bind fun t637=>(if t637=true then (if (t628 != bt630.2.2.2)=true then (laws_FnMachSum.j0 k t628 bt630.2.2.2 true t611 t614 t615 t616 t619 t620 t623 t626 t627 bt630.1 bt630.2.1 bt630.2.2.1) else (laws_FnMachSum.j0 k t628 bt630.2.2.2 (!t628) t611 t614 t615 t616 t619 t620 t623 t626 t627 bt630.1 bt630.2.1 bt630.2.2.1)) else (laws_FnMachSum.j0 k t628 bt630.2.2.2 true t611 t614 t615 t616 t619 t620 t623 t626 t627 bt630.1 bt630.2.1 bt630.2.2.1))))=some r:=H
  have A4:=Aside0.mk A40
  clear A40
  replace H:=Option.bind_eq_some_iff.mp H
  obtain ⟨⟨t630,t633,t634,t635⟩,A50,H⟩:=H
  replace H:((laws_sameMachine.f k t623 t626 t627 t630 t633 t634).bind fun t637=>(if t637=true then (if (t628 != t635)=true then (laws_FnMachSum.j0 k t628 t635 true t611 t614 t615 t616 t619 t620 t623 t626 t627 t630 t633 t634) else (laws_FnMachSum.j0 k t628 t635 (!t628) t611 t614 t615 t616 t619 t620 t623 t626 t627 t630 t633 t634)) else (laws_FnMachSum.j0 k t628 t635 true t611 t614 t615 t616 t619 t620 t623 t626 t627 t630 t633 t634)))=some r:=H
  have A5:=Aside0.mk A50
  clear A50
  have HC6:=Aside0.mk H
  clear H
  go_enter Try.func6,Try.ntmps6
  go_upto_region 6 with (first|((with_reducible refine gate_callee (f:=20) rfl ?_);refine goesL_ (some 22) rfl rfl Try.func20 (by kernel_rfl) rfl #[.slice A0 l0.length c0] rfl (by (try simp only [List.map_toArray,List.map_cons,List.map_nil]);first|done|rfl|(simp only [List.length_drop,List.length_take];rfl)) ?_;(with_reducible refine (spec_DrawMachBoth.calls k _ _ l0 t611 t614 t615 t616 t619 t620 _ ?side1 ?side2 A3.out).mono ?_);(case side1=>repeat (first|exact HR0.out|(with_reducible refine Kd.C_alloc ?_ _)|(with_reducible refine Kd.C_drewN ?_ _)|(with_reducible refine Kd.C_drew ?_)));(case side2=>exact HC0.out);rintro e w7 ⟨v612,v617,rfl,ho0,ho1,hb⟩;refine ⟨_,rfl,?_⟩;have n0_:=Aside0.mk (Kd.R_lower ho0 (yQ (by repeat (first|(with_reducible first|exact HB.out|apply yA|apply yB|apply yC)|exact HB.out))));have n1_:=Aside0.mk (Kd.R_lower ho1 (yQ (by repeat (first|(with_reducible first|exact HB.out|apply yA|apply yB|apply yC)|exact HB.out))));have n2_:=Aside0.mk (yP (by repeat (first|(with_reducible first|exact HB.out|apply yA|apply yB|apply yC)|exact HB.out)) hb);clear HB;have HO613:=n0_;have HO618:=n1_;have HB:=n2_;clear n0_ n1_ n2_;(try clear hb);(try clear hb2);(try clear hk);(try clear hi);(try clear ho0);(try clear ho1))|((with_reducible refine gate_dst (N:=3) rfl ?_);refine box_event ?hg (N:=3) ?hd (cs:=#[.slice none 0 0,.int .i64 0,.int .i64 0]) (t:=31) ?hr ?_;(case hd=>rfl);(case hg=>rfl);(case hr=>first|(go_simp;done)|(go_simp;rfl));intro gb621 hg w8 hbox hb;have n0_:=Aside0.mk (Kd.R_below (by (with_reducible repeat (first|apply yH|apply yI|apply yJ));exact HO613.out) hb);have n1_:=Aside0.mk (Kd.R_below (by (with_reducible repeat (first|apply yH|apply yI|apply yJ));exact HO618.out) hb);have n2_:=Aside0.mk (yP (by repeat (first|(with_reducible first|exact HB.out|apply yA|apply yB|apply yC)|exact HB.out)) hb);have n3_:=Aside0.mk (hbox);have n4_:=Aside0.mk ((by rw [hg];exact (yQ (by repeat (first|(with_reducible first|exact HB.out|apply yA|apply yB|apply yC)|exact HB.out))):w.heap.size≤gb621));have n5_:=Aside0.mk ((by rw [hg];exact (yQ (by repeat (first|(with_reducible first|exact HB.out|apply yA|apply yB|apply yC)|exact HB.out))):w.heap.size≤gb621));clear HO613;clear HO618;clear HB;have HO613:=n0_;have HO618:=n1_;have HB:=n2_;have BK621:=n3_;have GW621:=n4_;have GE621:=n5_;clear n0_ n1_ n2_ n3_ n4_ n5_;clear hb hbox hg)|((with_reducible refine gate_dst (N:=4) rfl ?_);refine box_event ?hg (N:=4) ?hd (cs:=#[.slice none 0 0,.int .i64 0,.int .i64 0]) (t:=31) ?hr ?_;(case hd=>rfl);(case hg=>rfl);(case hr=>first|(go_simp;done)|(go_simp;rfl));intro gb622 hg w9 hbox hb;have n0_:=Aside0.mk (Kd.R_below (by (with_reducible repeat (first|apply yH|apply yI|apply yJ));exact HO613.out) hb);have n1_:=Aside0.mk (Kd.R_below (by (with_reducible repeat (first|apply yH|apply yI|apply yJ));exact HO618.out) hb);have n2_:=Aside0.mk (blk_below (g:=gb621) (o:=.cells #[.slice none 0 0,.int .i64 0,.int .i64 0] 31 (0,0)) (by (with_reducible repeat (first|refine yE ?_ _|refine yF ?_|refine yG ?_ _));exact BK621.out) hb);have n3_:=Aside0.mk (yP (by repeat (first|(with_reducible first|exact HB.out|apply yA|apply yB|apply yC|refine yD ?_ GE621.out)|exact HB.out)) hb);have n4_:=Aside0.mk (hbox);have n5_:=Aside0.mk ((by rw [hg];exact (yQ (by repeat (first|(with_reducible first|exact HB.out|apply yA|apply yB|apply yC|refine yD ?_ GE621.out)|exact HB.out))):w.heap.size≤gb622));have n6_:=Aside0.mk ((by rw [hg];exact (yQ (by repeat (first|(with_reducible first|exact HB.out|apply yA|apply yB|apply yC|refine yD ?_ GE621.out)|exact HB.out))):w.heap.size≤gb622));have n7_:=Aside0.mk ((by rw [hg];exact Nat.ne_of_lt (blk_lt (g:=gb621) (o:=.cells #[.slice none 0 0,.int .i64 0,.int .i64 0] 31 (0,0)) (by (with_reducible repeat (first|refine yE ?_ _|refine yF ?_|refine yG ?_ _));exact BK621.out)):gb621≠gb622));have n8_:=Aside0.mk ((by rw [hg];exact Nat.ne_of_gt (blk_lt (g:=gb621) (o:=.cells #[.slice none 0 0,.int .i64 0,.int .i64 0] 31 (0,0)) (by (with_reducible repeat (first|refine yE ?_ _|refine yF ?_|refine yG ?_ _));exact BK621.out)):gb622≠gb621));clear HO613;clear HO618;clear BK621;clear HB;have HO613:=n0_;have HO618:=n1_;have BK621:=n2_;have HB:=n3_;have BK622:=n4_;have GW622:=n5_;have GE622:=n6_;have NB621_622:=n7_;have NB622_621:=n8_;clear n0_ n1_ n2_ n3_ n4_ n5_ n6_ n7_ n8_;clear hb hbox hg;obtain ⟨Ao10,co10,eo10⟩:=Kd.R_slice HO613.out;subst eo10;have hnb11:=NB621_622.out;have hnc11:=NB622_621.out;have hcz12_0:w9.cell? ⟨gb621,0,none⟩=some (.slice none 0 0):=(blk_cell BK621.out 0).trans rfl;have hcz12_1:w9.cell? ⟨gb621,1,none⟩=some (.int .i64 0):=(blk_cell BK621.out 1).trans rfl;have hcz12_2:w9.cell? ⟨gb621,2,none⟩=some (.int .i64 0):=(blk_cell BK621.out 2).trans rfl;have hfz12_0:=blk_frozen BK621.out 0;have hfz12_1:=blk_frozen BK621.out 1;have hfz12_2:=blk_frozen BK621.out 2;obtain ⟨Ao13,co13,eo13⟩:=Kd.R_slice HO618.out;subst eo13;have hcz14_0:w9.cell? ⟨gb622,0,none⟩=some (.slice none 0 0):=(blk_cell BK622.out 0).trans rfl;have hcz14_1:w9.cell? ⟨gb622,1,none⟩=some (.int .i64 0):=(blk_cell BK622.out 1).trans rfl;have hcz14_2:w9.cell? ⟨gb622,2,none⟩=some (.int .i64 0):=(blk_cell BK622.out 2).trans rfl;have hfz14_0:=blk_frozen BK622.out 0;have hfz14_1:=blk_frozen BK622.out 1;have hfz14_2:=blk_frozen BK622.out 2)|((with_reducible refine gate_callee (f:=21) rfl ?_);refine goesL_ (some 28) rfl rfl Try.func21 (by kernel_rfl) rfl #[.agg #[.slice Ao10 t611.length co10,.int .i64 t614,.int .i64 t615],.agg #[.slice Ao13 t616.length co13,.int .i64 t619,.int .i64 t620]] rfl (by (try simp only [List.map_toArray,List.map_cons,List.map_nil]);first|done|rfl|(simp only [List.length_drop,List.length_take];rfl)) ?_;(with_reducible refine (impl_MachBoth.calls k _ _ t611 t614 t615 _ _ t616 t619 t620 t623 t626 t627 t628 _ ?side1 ?side2 ?side3 ?side4 A4.out).mono ?_);(case side1=>refine (Kd.R_reads' (e:=3) (base:=w.heap.size) (ok:=fun k_=>some k_≠(.slice Ao13 t616.length co13:Value).ownBlock) (n:=t611.length) (c:=co10) ?_).2.2;exact (by (with_reducible repeat (first|apply yH|apply yI|apply yJ));exact (Kd.R_mono (Kd.R_mono (Kd.R_far (p:=⟨gb622,2,none⟩) (Kd.R_far (p:=⟨gb622,1,none⟩) (Kd.R_far (p:=⟨gb622,0,none⟩) (Kd.R_far (p:=⟨gb621,2,none⟩) (Kd.R_far (p:=⟨gb621,1,none⟩) (Kd.R_far (p:=⟨gb621,0,none⟩) (Kd.R_types (Kd.R_types HO613.out BK621.out (by decide)) BK622.out (by decide)) (fun _ hk=>hk.1.2) (.slice Ao10 t611.length co10)) (fun _ hk=>hk.1.2) (.int .i64 t614)) (fun _ hk=>hk.1.2) (.int .i64 t615)) (fun _ hk=>hk.2) (.slice Ao13 t616.length co13)) (fun _ hk=>hk.2) (.int .i64 t619)) (fun _ hk=>hk.2) (.int .i64 t620)) (fun _ h_=>h_.1)) (fun _ h_=>h_.1))));(case side2=>exact (Kd.R_reads' HO613.out).2.1);(case side3=>refine (Kd.R_reads' (e:=3) (base:=w.heap.size) (ok:=fun k_=>some k_≠(.slice Ao10 t611.length co10:Value).ownBlock) (n:=t616.length) (c:=co13) ?_).2.2;exact (by (with_reducible repeat (first|apply yH|apply yI|apply yJ));exact (Kd.R_mono (Kd.R_mono (Kd.R_far (p:=⟨gb622,2,none⟩) (Kd.R_far (p:=⟨gb622,1,none⟩) (Kd.R_far (p:=⟨gb622,0,none⟩) (Kd.R_far (p:=⟨gb621,2,none⟩) (Kd.R_far (p:=⟨gb621,1,none⟩) (Kd.R_far (p:=⟨gb621,0,none⟩) (Kd.R_types (Kd.R_types HO618.out BK621.out (by decide)) BK622.out (by decide)) (fun _ hk=>hk.1.2) (.slice Ao10 t611.length co10)) (fun _ hk=>hk.1.2) (.int .i64 t614)) (fun _ hk=>hk.1.2) (.int .i64 t615)) (fun _ hk=>hk.2) (.slice Ao13 t616.length co13)) (fun _ hk=>hk.2) (.int .i64 t619)) (fun _ hk=>hk.2) (.int .i64 t620)) (fun _ h_=>h_.1)) (fun _ h_=>h_.1))));(case side4=>exact (Kd.R_reads' HO618.out).2.1);rintro e w15 ⟨v624,rfl,ho0,hb⟩;refine ⟨_,rfl,?_⟩;have n0_:=Aside0.mk (Kd.R_elder' (by (with_reducible repeat (first|apply yH|apply yI|apply yJ));exact (Kd.R_mono (Kd.R_mono (Kd.R_far (p:=⟨gb622,2,none⟩) (Kd.R_far (p:=⟨gb622,1,none⟩) (Kd.R_far (p:=⟨gb622,0,none⟩) (Kd.R_far (p:=⟨gb621,2,none⟩) (Kd.R_far (p:=⟨gb621,1,none⟩) (Kd.R_far (p:=⟨gb621,0,none⟩) (Kd.R_types (Kd.R_types HO613.out BK621.out (by decide)) BK622.out (by decide)) (fun _ hk=>hk.1.2) (.slice Ao10 t611.length co10)) (fun _ hk=>hk.1.2) (.int .i64 t614)) (fun _ hk=>hk.1.2) (.int .i64 t615)) (fun _ hk=>hk.2) (.slice Ao13 t616.length co13)) (fun _ hk=>hk.2) (.int .i64 t619)) (fun _ hk=>hk.2) (.int .i64 t620)) (fun _ h_=>h_.1)) (fun _ h_=>h_.1))) (Kd.R_base ho0) hb);have n1_:=Aside0.mk (Kd.R_elder' (by (with_reducible repeat (first|apply yH|apply yI|apply yJ));exact (Kd.R_mono (Kd.R_mono (Kd.R_far (p:=⟨gb622,2,none⟩) (Kd.R_far (p:=⟨gb622,1,none⟩) (Kd.R_far (p:=⟨gb622,0,none⟩) (Kd.R_far (p:=⟨gb621,2,none⟩) (Kd.R_far (p:=⟨gb621,1,none⟩) (Kd.R_far (p:=⟨gb621,0,none⟩) (Kd.R_types (Kd.R_types HO618.out BK621.out (by decide)) BK622.out (by decide)) (fun _ hk=>hk.1.2) (.slice Ao10 t611.length co10)) (fun _ hk=>hk.1.2) (.int .i64 t614)) (fun _ hk=>hk.1.2) (.int .i64 t615)) (fun _ hk=>hk.2) (.slice Ao13 t616.length co13)) (fun _ hk=>hk.2) (.int .i64 t619)) (fun _ hk=>hk.2) (.int .i64 t620)) (fun _ h_=>h_.1)) (fun _ h_=>h_.1))) (Kd.R_base ho0) hb);have n2_:=Aside0.mk (Kd.R_lower (Kd.R_new' (Kd.R_new' ho0 (Kd.R_lt (by (with_reducible repeat (first|apply yH|apply yI|apply yJ));exact (Kd.R_mono (Kd.R_mono (Kd.R_far (p:=⟨gb622,2,none⟩) (Kd.R_far (p:=⟨gb622,1,none⟩) (Kd.R_far (p:=⟨gb622,0,none⟩) (Kd.R_far (p:=⟨gb621,2,none⟩) (Kd.R_far (p:=⟨gb621,1,none⟩) (Kd.R_far (p:=⟨gb621,0,none⟩) (Kd.R_types (Kd.R_types HO613.out BK621.out (by decide)) BK622.out (by decide)) (fun _ hk=>hk.1.2) (.slice Ao10 t611.length co10)) (fun _ hk=>hk.1.2) (.int .i64 t614)) (fun _ hk=>hk.1.2) (.int .i64 t615)) (fun _ hk=>hk.2) (.slice Ao13 t616.length co13)) (fun _ hk=>hk.2) (.int .i64 t619)) (fun _ hk=>hk.2) (.int .i64 t620)) (fun _ h_=>h_.1)) (fun _ h_=>h_.1))))) (Kd.R_lt (by (with_reducible repeat (first|apply yH|apply yI|apply yJ));exact (Kd.R_mono (Kd.R_mono (Kd.R_far (p:=⟨gb622,2,none⟩) (Kd.R_far (p:=⟨gb622,1,none⟩) (Kd.R_far (p:=⟨gb622,0,none⟩) (Kd.R_far (p:=⟨gb621,2,none⟩) (Kd.R_far (p:=⟨gb621,1,none⟩) (Kd.R_far (p:=⟨gb621,0,none⟩) (Kd.R_types (Kd.R_types HO618.out BK621.out (by decide)) BK622.out (by decide)) (fun _ hk=>hk.1.2) (.slice Ao10 t611.length co10)) (fun _ hk=>hk.1.2) (.int .i64 t614)) (fun _ hk=>hk.1.2) (.int .i64 t615)) (fun _ hk=>hk.2) (.slice Ao13 t616.length co13)) (fun _ hk=>hk.2) (.int .i64 t619)) (fun _ hk=>hk.2) (.int .i64 t620)) (fun _ h_=>h_.1)) (fun _ h_=>h_.1))))) (yQ (by repeat (first|(with_reducible first|exact HB.out|apply yA|apply yB|apply yC|refine yD ?_ GE621.out|refine yD ?_ GE622.out)|exact HB.out))));have n3_:=Aside0.mk (blk_below (g:=gb621) (o:=.cells #[.slice Ao10 t611.length co10,.int .i64 t614,.int .i64 t615] 31 (0,0)) (by (with_reducible repeat (first|refine yE ?_ _|refine yF ?_|refine yG ?_ _));refine blk_far ?_ NB621_622.out _;(with_reducible repeat (first|refine yE ?_ _|refine yF ?_|refine yG ?_ _));refine blk_far ?_ NB621_622.out _;(with_reducible repeat (first|refine yE ?_ _|refine yF ?_|refine yG ?_ _));refine blk_far ?_ NB621_622.out _;(with_reducible repeat (first|refine yE ?_ _|refine yF ?_|refine yG ?_ _));refine blk_put (cs:=#[.slice Ao10 t611.length co10,.int .i64 t614,.int .i64 0]) ?_ 2 _ rfl;(with_reducible repeat (first|refine yE ?_ _|refine yF ?_|refine yG ?_ _));refine blk_put (cs:=#[.slice Ao10 t611.length co10,.int .i64 0,.int .i64 0]) ?_ 1 _ rfl;(with_reducible repeat (first|refine yE ?_ _|refine yF ?_|refine yG ?_ _));refine blk_put (cs:=#[.slice none 0 0,.int .i64 0,.int .i64 0]) ?_ 0 _ rfl;(with_reducible repeat (first|refine yE ?_ _|refine yF ?_|refine yG ?_ _));exact BK621.out) hb);have n4_:=Aside0.mk (blk_below (g:=gb622) (o:=.cells #[.slice Ao13 t616.length co13,.int .i64 t619,.int .i64 t620] 31 (0,0)) (by (with_reducible repeat (first|refine yE ?_ _|refine yF ?_|refine yG ?_ _));refine blk_put (cs:=#[.slice Ao13 t616.length co13,.int .i64 t619,.int .i64 0]) ?_ 2 _ rfl;(with_reducible repeat (first|refine yE ?_ _|refine yF ?_|refine yG ?_ _));refine blk_put (cs:=#[.slice Ao13 t616.length co13,.int .i64 0,.int .i64 0]) ?_ 1 _ rfl;(with_reducible repeat (first|refine yE ?_ _|refine yF ?_|refine yG ?_ _));refine blk_put (cs:=#[.slice none 0 0,.int .i64 0,.int .i64 0]) ?_ 0 _ rfl;(with_reducible repeat (first|refine yE ?_ _|refine yF ?_|refine yG ?_ _));refine blk_far ?_ NB622_621.out _;(with_reducible repeat (first|refine yE ?_ _|refine yF ?_|refine yG ?_ _));refine blk_far ?_ NB622_621.out _;(with_reducible repeat (first|refine yE ?_ _|refine yF ?_|refine yG ?_ _));refine blk_far ?_ NB622_621.out _;(with_reducible repeat (first|refine yE ?_ _|refine yF ?_|refine yG ?_ _));exact BK622.out) hb);have n5_:=Aside0.mk (yP (by repeat (first|(with_reducible first|exact HB.out|apply yA|apply yB|apply yC|refine yD ?_ GE621.out|refine yD ?_ GE622.out)|exact HB.out)) hb);clear HO613;clear HO618;clear BK621;clear BK622;clear HB;have HO613:=n0_;have HO618:=n1_;have HO625:=n2_;have BK621:=n3_;have BK622:=n4_;have HB:=n5_;clear n0_ n1_ n2_ n3_ n4_ n5_;(try clear hb);(try clear hb2);(try clear hk);(try clear hi);(try clear ho0))|((with_reducible refine gate_dst (N:=5) rfl ?_);refine box_event ?hg (N:=5) ?hd (cs:=#[.slice none 0 0,.int .i64 0,.int .i64 0]) (t:=31) ?hr ?_;(case hd=>rfl);(case hg=>rfl);(case hr=>first|(go_simp;done)|(go_simp;rfl));intro gb629 hg w16 hbox hb;have n0_:=Aside0.mk (Kd.R_below (by (with_reducible repeat (first|apply yH|apply yI|apply yJ));exact HO613.out) hb);have n1_:=Aside0.mk (Kd.R_below (by (with_reducible repeat (first|apply yH|apply yI|apply yJ));exact HO618.out) hb);have n2_:=Aside0.mk (Kd.R_below (by (with_reducible repeat (first|apply yH|apply yI|apply yJ));exact HO625.out) hb);have n3_:=Aside0.mk (blk_below (g:=gb621) (o:=.cells #[.slice Ao10 t611.length co10,.int .i64 t614,.int .i64 t615] 31 (0,0)) (by (with_reducible repeat (first|refine yE ?_ _|refine yF ?_|refine yG ?_ _));exact BK621.out) hb);have n4_:=Aside0.mk (blk_below (g:=gb622) (o:=.cells #[.slice Ao13 t616.length co13,.int .i64 t619,.int .i64 t620] 31 (0,0)) (by (with_reducible repeat (first|refine yE ?_ _|refine yF ?_|refine yG ?_ _));exact BK622.out) hb);have n5_:=Aside0.mk (yP (by repeat (first|(with_reducible first|exact HB.out|apply yA|apply yB|apply yC|refine yD ?_ GE621.out|refine yD ?_ GE622.out)|exact HB.out)) hb);have n6_:=Aside0.mk (hbox);have n7_:=Aside0.mk ((by rw [hg];exact (yQ (by repeat (first|(with_reducible first|exact HB.out|apply yA|apply yB|apply yC|refine yD ?_ GE621.out|refine yD ?_ GE622.out)|exact HB.out))):w.heap.size≤gb629));have n8_:=Aside0.mk ((by rw [hg];exact (yQ (by repeat (first|(with_reducible first|exact HB.out|apply yA|apply yB|apply yC|refine yD ?_ GE621.out|refine yD ?_ GE622.out)|exact HB.out))):w.heap.size≤gb629));have n9_:=Aside0.mk ((by rw [hg];exact Nat.ne_of_lt (blk_lt (g:=gb621) (o:=.cells #[.slice Ao10 t611.length co10,.int .i64 t614,.int .i64 t615] 31 (0,0)) (by (with_reducible repeat (first|refine yE ?_ _|refine yF ?_|refine yG ?_ _));exact BK621.out)):gb621≠gb629));have n10_:=Aside0.mk ((by rw [hg];exact Nat.ne_of_gt (blk_lt (g:=gb621) (o:=.cells #[.slice Ao10 t611.length co10,.int .i64 t614,.int .i64 t615] 31 (0,0)) (by (with_reducible repeat (first|refine yE ?_ _|refine yF ?_|refine yG ?_ _));exact BK621.out)):gb629≠gb621));have n11_:=Aside0.mk ((by rw [hg];exact Nat.ne_of_lt (blk_lt (g:=gb622) (o:=.cells #[.slice Ao13 t616.length co13,.int .i64 t619,.int .i64 t620] 31 (0,0)) (by (with_reducible repeat (first|refine yE ?_ _|refine yF ?_|refine yG ?_ _));exact BK622.out)):gb622≠gb629));have n12_:=Aside0.mk ((by rw [hg];exact Nat.ne_of_gt (blk_lt (g:=gb622) (o:=.cells #[.slice Ao13 t616.length co13,.int .i64 t619,.int .i64 t620] 31 (0,0)) (by (with_reducible repeat (first|refine yE ?_ _|refine yF ?_|refine yG ?_ _));exact BK622.out)):gb629≠gb622));clear HO613;clear HO618;clear HO625;clear BK621;clear BK622;clear HB;have HO613:=n0_;have HO618:=n1_;have HO625:=n2_;have BK621:=n3_;have BK622:=n4_;have HB:=n5_;have BK629:=n6_;have GW629:=n7_;have GE629:=n8_;have NB621_629:=n9_;have NB629_621:=n10_;have NB622_629:=n11_;have NB629_622:=n12_;clear n0_ n1_ n2_ n3_ n4_ n5_ n6_ n7_ n8_ n9_ n10_ n11_ n12_;clear hb hbox hg;obtain ⟨Ao17,co17,eo17⟩:=Kd.R_slice HO625.out;subst eo17;have hnb18:=NB629_621.out;have hnc18:=NB621_629.out;have hnb19:=NB629_622.out;have hnc19:=NB622_629.out;have hcz20_0:w16.cell? ⟨gb629,0,none⟩=some (.slice none 0 0):=(blk_cell BK629.out 0).trans rfl;have hcz20_1:w16.cell? ⟨gb629,1,none⟩=some (.int .i64 0):=(blk_cell BK629.out 1).trans rfl;have hcz20_2:w16.cell? ⟨gb629,2,none⟩=some (.int .i64 0):=(blk_cell BK629.out 2).trans rfl;have hfz20_0:=blk_frozen BK629.out 0;have hfz20_1:=blk_frozen BK629.out 1;have hfz20_2:=blk_frozen BK629.out 2;have hcz21_0:w16.cell? ⟨gb621,0,none⟩=some (.slice Ao10 t611.length co10):=(blk_cell BK621.out 0).trans rfl;have hcz21_1:w16.cell? ⟨gb621,1,none⟩=some (.int .i64 t614):=(blk_cell BK621.out 1).trans rfl;have hcz21_2:w16.cell? ⟨gb621,2,none⟩=some (.int .i64 t615):=(blk_cell BK621.out 2).trans rfl;have hfz21_0:=blk_frozen BK621.out 0;have hfz21_1:=blk_frozen BK621.out 1;have hfz21_2:=blk_frozen BK621.out 2;have hcz22_0:w16.cell? ⟨gb622,0,none⟩=some (.slice Ao13 t616.length co13):=(blk_cell BK622.out 0).trans rfl;have hcz22_1:w16.cell? ⟨gb622,1,none⟩=some (.int .i64 t619):=(blk_cell BK622.out 1).trans rfl;have hcz22_2:w16.cell? ⟨gb622,2,none⟩=some (.int .i64 t620):=(blk_cell BK622.out 2).trans rfl;have hfz22_0:=blk_frozen BK622.out 0;have hfz22_1:=blk_frozen BK622.out 1;have hfz22_2:=blk_frozen BK622.out 2)|((with_reducible refine gate_callee (f:=22) rfl ?_);refine goesL_ (some 34) rfl rfl Try.func22 (by kernel_rfl) rfl #[.agg #[.slice Ao10 t611.length co10,.int .i64 t614,.int .i64 t615],.agg #[.slice Ao13 t616.length co13,.int .i64 t619,.int .i64 t620]] rfl (by (try simp only [List.map_toArray,List.map_cons,List.map_nil]);first|done|rfl|(simp only [List.length_drop,List.length_take];rfl)) ?_;(with_reducible refine (spec_MachBoth.calls k _ _ t611 t614 t615 _ _ t616 t619 t620 t630 t633 t634 t635 _ ?side1 ?side2 ?side3 ?side4 A5.out).mono ?_);(case side1=>refine (Kd.R_reads' (e:=3) (base:=w.heap.size) (ok:=fun k_=>(some k_≠(.slice Ao13 t616.length co13:Value).ownBlock∧some k_≠(.slice Ao17 t623.length co17:Value).ownBlock)) (n:=t611.length) (c:=co10) ?_).2.2;exact (by (with_reducible repeat (first|apply yH|apply yI|apply yJ));exact (Kd.R_mono (Kd.R_far (p:=⟨gb629,2,none⟩) (Kd.R_far (p:=⟨gb629,1,none⟩) (Kd.R_far (p:=⟨gb629,0,none⟩) (Kd.R_types HO613.out BK629.out (by decide)) (fun _ hk=>hk.2) (.slice Ao17 t623.length co17)) (fun _ hk=>hk.2) (.int .i64 t626)) (fun _ hk=>hk.2) (.int .i64 t627)) (fun _ h_=>h_.1))));(case side2=>exact (Kd.R_reads' HO613.out).2.1);(case side3=>refine (Kd.R_reads' (e:=3) (base:=w.heap.size) (ok:=fun k_=>(some k_≠(.slice Ao10 t611.length co10:Value).ownBlock∧some k_≠(.slice Ao17 t623.length co17:Value).ownBlock)) (n:=t616.length) (c:=co13) ?_).2.2;exact (by (with_reducible repeat (first|apply yH|apply yI|apply yJ));exact (Kd.R_mono (Kd.R_far (p:=⟨gb629,2,none⟩) (Kd.R_far (p:=⟨gb629,1,none⟩) (Kd.R_far (p:=⟨gb629,0,none⟩) (Kd.R_types HO618.out BK629.out (by decide)) (fun _ hk=>hk.2) (.slice Ao17 t623.length co17)) (fun _ hk=>hk.2) (.int .i64 t626)) (fun _ hk=>hk.2) (.int .i64 t627)) (fun _ h_=>h_.1))));(case side4=>exact (Kd.R_reads' HO618.out).2.1);rintro e w23 ⟨v631,rfl,ho0,hb⟩;refine ⟨_,rfl,?_⟩;have n0_:=Aside0.mk (Kd.R_elder' (by (with_reducible repeat (first|apply yH|apply yI|apply yJ));exact (Kd.R_mono (Kd.R_far (p:=⟨gb629,2,none⟩) (Kd.R_far (p:=⟨gb629,1,none⟩) (Kd.R_far (p:=⟨gb629,0,none⟩) (Kd.R_types HO613.out BK629.out (by decide)) (fun _ hk=>hk.2) (.slice Ao17 t623.length co17)) (fun _ hk=>hk.2) (.int .i64 t626)) (fun _ hk=>hk.2) (.int .i64 t627)) (fun _ h_=>h_.1))) (Kd.R_base ho0) hb);have n1_:=Aside0.mk (Kd.R_elder' (by (with_reducible repeat (first|apply yH|apply yI|apply yJ));exact (Kd.R_mono (Kd.R_far (p:=⟨gb629,2,none⟩) (Kd.R_far (p:=⟨gb629,1,none⟩) (Kd.R_far (p:=⟨gb629,0,none⟩) (Kd.R_types HO618.out BK629.out (by decide)) (fun _ hk=>hk.2) (.slice Ao17 t623.length co17)) (fun _ hk=>hk.2) (.int .i64 t626)) (fun _ hk=>hk.2) (.int .i64 t627)) (fun _ h_=>h_.1))) (Kd.R_base ho0) hb);have n2_:=Aside0.mk (Kd.R_elder' (by (with_reducible repeat (first|apply yH|apply yI|apply yJ));exact (Kd.R_mono (Kd.R_far (p:=⟨gb629,2,none⟩) (Kd.R_far (p:=⟨gb629,1,none⟩) (Kd.R_far (p:=⟨gb629,0,none⟩) (Kd.R_types HO625.out BK629.out (by decide)) (fun _ hk=>hk.2) (.slice Ao17 t623.length co17)) (fun _ hk=>hk.2) (.int .i64 t626)) (fun _ hk=>hk.2) (.int .i64 t627)) (fun _ h_=>h_.1))) (Kd.R_base ho0) hb);have n3_:=Aside0.mk (Kd.R_lower (Kd.R_new' (Kd.R_new' (Kd.R_new' ho0 (Kd.R_lt (by (with_reducible repeat (first|apply yH|apply yI|apply yJ));exact (Kd.R_mono (Kd.R_far (p:=⟨gb629,2,none⟩) (Kd.R_far (p:=⟨gb629,1,none⟩) (Kd.R_far (p:=⟨gb629,0,none⟩) (Kd.R_types HO613.out BK629.out (by decide)) (fun _ hk=>hk.2) (.slice Ao17 t623.length co17)) (fun _ hk=>hk.2) (.int .i64 t626)) (fun _ hk=>hk.2) (.int .i64 t627)) (fun _ h_=>h_.1))))) (Kd.R_lt (by (with_reducible repeat (first|apply yH|apply yI|apply yJ));exact (Kd.R_mono (Kd.R_far (p:=⟨gb629,2,none⟩) (Kd.R_far (p:=⟨gb629,1,none⟩) (Kd.R_far (p:=⟨gb629,0,none⟩) (Kd.R_types HO618.out BK629.out (by decide)) (fun _ hk=>hk.2) (.slice Ao17 t623.length co17)) (fun _ hk=>hk.2) (.int .i64 t626)) (fun _ hk=>hk.2) (.int .i64 t627)) (fun _ h_=>h_.1))))) (Kd.R_lt (by (with_reducible repeat (first|apply yH|apply yI|apply yJ));exact (Kd.R_mono (Kd.R_far (p:=⟨gb629,2,none⟩) (Kd.R_far (p:=⟨gb629,1,none⟩) (Kd.R_far (p:=⟨gb629,0,none⟩) (Kd.R_types HO625.out BK629.out (by decide)) (fun _ hk=>hk.2) (.slice Ao17 t623.length co17)) (fun _ hk=>hk.2) (.int .i64 t626)) (fun _ hk=>hk.2) (.int .i64 t627)) (fun _ h_=>h_.1))))) (yQ (by repeat (first|(with_reducible first|exact HB.out|apply yA|apply yB|apply yC|refine yD ?_ GE621.out|refine yD ?_ GE622.out|refine yD ?_ GE629.out)|exact HB.out))));have n4_:=Aside0.mk (blk_below (g:=gb621) (o:=.cells #[.slice Ao10 t611.length co10,.int .i64 t614,.int .i64 t615] 31 (0,0)) (by (with_reducible repeat (first|refine yE ?_ _|refine yF ?_|refine yG ?_ _));refine blk_far ?_ NB621_629.out _;(with_reducible repeat (first|refine yE ?_ _|refine yF ?_|refine yG ?_ _));refine blk_far ?_ NB621_629.out _;(with_reducible repeat (first|refine yE ?_ _|refine yF ?_|refine yG ?_ _));refine blk_far ?_ NB621_629.out _;(with_reducible repeat (first|refine yE ?_ _|refine yF ?_|refine yG ?_ _));exact BK621.out) hb);have n5_:=Aside0.mk (blk_below (g:=gb622) (o:=.cells #[.slice Ao13 t616.length co13,.int .i64 t619,.int .i64 t620] 31 (0,0)) (by (with_reducible repeat (first|refine yE ?_ _|refine yF ?_|refine yG ?_ _));refine blk_far ?_ NB622_629.out _;(with_reducible repeat (first|refine yE ?_ _|refine yF ?_|refine yG ?_ _));refine blk_far ?_ NB622_629.out _;(with_reducible repeat (first|refine yE ?_ _|refine yF ?_|refine yG ?_ _));refine blk_far ?_ NB622_629.out _;(with_reducible repeat (first|refine yE ?_ _|refine yF ?_|refine yG ?_ _));exact BK622.out) hb);have n6_:=Aside0.mk (blk_below (g:=gb629) (o:=.cells #[.slice Ao17 t623.length co17,.int .i64 t626,.int .i64 t627] 31 (0,0)) (by (with_reducible repeat (first|refine yE ?_ _|refine yF ?_|refine yG ?_ _));refine blk_put (cs:=#[.slice Ao17 t623.length co17,.int .i64 t626,.int .i64 0]) ?_ 2 _ rfl;(with_reducible repeat (first|refine yE ?_ _|refine yF ?_|refine yG ?_ _));refine blk_put (cs:=#[.slice Ao17 t623.length co17,.int .i64 0,.int .i64 0]) ?_ 1 _ rfl;(with_reducible repeat (first|refine yE ?_ _|refine yF ?_|refine yG ?_ _));refine blk_put (cs:=#[.slice none 0 0,.int .i64 0,.int .i64 0]) ?_ 0 _ rfl;(with_reducible repeat (first|refine yE ?_ _|refine yF ?_|refine yG ?_ _));exact BK629.out) hb);have n7_:=Aside0.mk (yP (by repeat (first|(with_reducible first|exact HB.out|apply yA|apply yB|apply yC|refine yD ?_ GE621.out|refine yD ?_ GE622.out|refine yD ?_ GE629.out)|exact HB.out)) hb);clear HO613;clear HO618;clear HO625;clear BK621;clear BK622;clear BK629;clear HB;have HO613:=n0_;have HO618:=n1_;have HO625:=n2_;have HO632:=n3_;have BK621:=n4_;have BK622:=n5_;have BK629:=n6_;have HB:=n7_;clear n0_ n1_ n2_ n3_ n4_ n5_ n6_ n7_;(try clear hb);(try clear hb2);(try clear hk);(try clear hi);(try clear ho0))|((with_reducible refine gate_dst (N:=7) rfl ?_);refine box_event ?hg (N:=7) ?hd (cs:=#[.slice none 0 0,.int .i64 0,.int .i64 0]) (t:=31) ?hr ?_;(case hd=>rfl);(case hg=>rfl);(case hr=>first|(go_simp;done)|(go_simp;rfl));intro gb636 hg w24 hbox hb;have n0_:=Aside0.mk (Kd.R_below (by (with_reducible repeat (first|apply yH|apply yI|apply yJ));exact HO613.out) hb);have n1_:=Aside0.mk (Kd.R_below (by (with_reducible repeat (first|apply yH|apply yI|apply yJ));exact HO618.out) hb);have n2_:=Aside0.mk (Kd.R_below (by (with_reducible repeat (first|apply yH|apply yI|apply yJ));exact HO625.out) hb);have n3_:=Aside0.mk (Kd.R_below (by (with_reducible repeat (first|apply yH|apply yI|apply yJ));exact HO632.out) hb);have n4_:=Aside0.mk (blk_below (g:=gb621) (o:=.cells #[.slice Ao10 t611.length co10,.int .i64 t614,.int .i64 t615] 31 (0,0)) (by (with_reducible repeat (first|refine yE ?_ _|refine yF ?_|refine yG ?_ _));exact BK621.out) hb);have n5_:=Aside0.mk (blk_below (g:=gb622) (o:=.cells #[.slice Ao13 t616.length co13,.int .i64 t619,.int .i64 t620] 31 (0,0)) (by (with_reducible repeat (first|refine yE ?_ _|refine yF ?_|refine yG ?_ _));exact BK622.out) hb);have n6_:=Aside0.mk (blk_below (g:=gb629) (o:=.cells #[.slice Ao17 t623.length co17,.int .i64 t626,.int .i64 t627] 31 (0,0)) (by (with_reducible repeat (first|refine yE ?_ _|refine yF ?_|refine yG ?_ _));exact BK629.out) hb);have n7_:=Aside0.mk (yP (by repeat (first|(with_reducible first|exact HB.out|apply yA|apply yB|apply yC|refine yD ?_ GE621.out|refine yD ?_ GE622.out|refine yD ?_ GE629.out)|exact HB.out)) hb);have n8_:=Aside0.mk (hbox);have n9_:=Aside0.mk ((by rw [hg];exact (yQ (by repeat (first|(with_reducible first|exact HB.out|apply yA|apply yB|apply yC|refine yD ?_ GE621.out|refine yD ?_ GE622.out|refine yD ?_ GE629.out)|exact HB.out))):w.heap.size≤gb636));have n10_:=Aside0.mk ((by rw [hg];exact (yQ (by repeat (first|(with_reducible first|exact HB.out|apply yA|apply yB|apply yC|refine yD ?_ GE621.out|refine yD ?_ GE622.out|refine yD ?_ GE629.out)|exact HB.out))):w.heap.size≤gb636));have n11_:=Aside0.mk ((by rw [hg];exact Nat.ne_of_lt (blk_lt (g:=gb621) (o:=.cells #[.slice Ao10 t611.length co10,.int .i64 t614,.int .i64 t615] 31 (0,0)) (by (with_reducible repeat (first|refine yE ?_ _|refine yF ?_|refine yG ?_ _));exact BK621.out)):gb621≠gb636));have n12_:=Aside0.mk ((by rw [hg];exact Nat.ne_of_gt (blk_lt (g:=gb621) (o:=.cells #[.slice Ao10 t611.length co10,.int .i64 t614,.int .i64 t615] 31 (0,0)) (by (with_reducible repeat (first|refine yE ?_ _|refine yF ?_|refine yG ?_ _));exact BK621.out)):gb636≠gb621));have n13_:=Aside0.mk ((by rw [hg];exact Nat.ne_of_lt (blk_lt (g:=gb622) (o:=.cells #[.slice Ao13 t616.length co13,.int .i64 t619,.int .i64 t620] 31 (0,0)) (by (with_reducible repeat (first|refine yE ?_ _|refine yF ?_|refine yG ?_ _));exact BK622.out)):gb622≠gb636));have n14_:=Aside0.mk ((by rw [hg];exact Nat.ne_of_gt (blk_lt (g:=gb622) (o:=.cells #[.slice Ao13 t616.length co13,.int .i64 t619,.int .i64 t620] 31 (0,0)) (by (with_reducible repeat (first|refine yE ?_ _|refine yF ?_|refine yG ?_ _));exact BK622.out)):gb636≠gb622));have n15_:=Aside0.mk ((by rw [hg];exact Nat.ne_of_lt (blk_lt (g:=gb629) (o:=.cells #[.slice Ao17 t623.length co17,.int .i64 t626,.int .i64 t627] 31 (0,0)) (by (with_reducible repeat (first|refine yE ?_ _|refine yF ?_|refine yG ?_ _));exact BK629.out)):gb629≠gb636));have n16_:=Aside0.mk ((by rw [hg];exact Nat.ne_of_gt (blk_lt (g:=gb629) (o:=.cells #[.slice Ao17 t623.length co17,.int .i64 t626,.int .i64 t627] 31 (0,0)) (by (with_reducible repeat (first|refine yE ?_ _|refine yF ?_|refine yG ?_ _));exact BK629.out)):gb636≠gb629));clear HO613;clear HO618;clear HO625;clear HO632;clear BK621;clear BK622;clear BK629;clear HB;have HO613:=n0_;have HO618:=n1_;have HO625:=n2_;have HO632:=n3_;have BK621:=n4_;have BK622:=n5_;have BK629:=n6_;have HB:=n7_;have BK636:=n8_;have GW636:=n9_;have GE636:=n10_;have NB621_636:=n11_;have NB636_621:=n12_;have NB622_636:=n13_;have NB636_622:=n14_;have NB629_636:=n15_;have NB636_629:=n16_;clear n0_ n1_ n2_ n3_ n4_ n5_ n6_ n7_ n8_ n9_ n10_ n11_ n12_ n13_ n14_ n15_ n16_;clear hb hbox hg;obtain ⟨Ao25,co25,eo25⟩:=Kd.R_slice HO632.out;subst eo25;have hnb26:=NB636_621.out;have hnc26:=NB621_636.out;have hnb27:=NB636_622.out;have hnc27:=NB622_636.out;have hnb28:=NB636_629.out;have hnc28:=NB629_636.out;have hcz29_0:w24.cell? ⟨gb636,0,none⟩=some (.slice none 0 0):=(blk_cell BK636.out 0).trans rfl;have hcz29_1:w24.cell? ⟨gb636,1,none⟩=some (.int .i64 0):=(blk_cell BK636.out 1).trans rfl;have hcz29_2:w24.cell? ⟨gb636,2,none⟩=some (.int .i64 0):=(blk_cell BK636.out 2).trans rfl;have hfz29_0:=blk_frozen BK636.out 0;have hfz29_1:=blk_frozen BK636.out 1;have hfz29_2:=blk_frozen BK636.out 2))
  (try simp only [Act.put,yK,yL,yM])
  go_cut [49] (fun v49 wc=>∃ (kq:Nat) (x49_5:Bool),v49=.bool x49_5∧Aside0 (laws_FnMachSum.j0 kq t628 t635 x49_5 t611 t614 t615 t616 t619 t620 t623 t626 t627 t630 t633 t634=some r)∧Aside0 (kq≤k)∧Aside0 (Kd.R (Kd.int .i64) 3 wc w.heap.size (fun k_=>some k_≠((.slice Ao13 t616.length co13):Value).ownBlock∧some k_≠((.slice Ao17 t623.length co17):Value).ownBlock∧some k_≠((.slice Ao25 t630.length co25):Value).ownBlock) (.slice Ao10 t611.length co10) t611)∧Aside0 (Kd.R (Kd.int .i64) 3 wc w.heap.size (fun k_=>some k_≠((.slice Ao10 t611.length co10):Value).ownBlock∧some k_≠((.slice Ao17 t623.length co17):Value).ownBlock∧some k_≠((.slice Ao25 t630.length co25):Value).ownBlock) (.slice Ao13 t616.length co13) t616)∧Aside0 (Kd.R (Kd.int .i64) 3 wc w.heap.size (fun k_=>some k_≠((.slice Ao10 t611.length co10):Value).ownBlock∧some k_≠((.slice Ao13 t616.length co13):Value).ownBlock∧some k_≠((.slice Ao25 t630.length co25):Value).ownBlock) (.slice Ao17 t623.length co17) t623)∧Aside0 (Kd.R (Kd.int .i64) 3 wc w.heap.size (fun k_=>some k_≠((.slice Ao10 t611.length co10):Value).ownBlock∧some k_≠((.slice Ao13 t616.length co13):Value).ownBlock∧some k_≠((.slice Ao17 t623.length co17):Value).ownBlock) (.slice Ao25 t630.length co25) t630)∧Aside0 (wc.heap[gb621]?=some (.cells #[(.slice Ao10 t611.length co10),.int .i64 t614,.int .i64 t615] 31 (0,0)))∧Aside0 (wc.heap[gb622]?=some (.cells #[(.slice Ao13 t616.length co13),.int .i64 t619,.int .i64 t620] 31 (0,0)))∧Aside0 (wc.heap[gb629]?=some (.cells #[(.slice Ao17 t623.length co17),.int .i64 t626,.int .i64 t627] 31 (0,0)))∧Aside0 (wc.heap[gb636]?=some (.cells #[(.slice Ao25 t630.length co25),.int .i64 t633,.int .i64 t634] 31 (0,0)))∧Aside0 (Below w.heap.size w wc))
  case first =>
   have H:=HC6.out
   clear HC6
   replace H:=Option.bind_eq_some_iff.mp H
   obtain ⟨t637,A300,H⟩:=H
   replace H:(if t637=true then (if (t628 != t635)=true then (laws_FnMachSum.j0 k t628 t635 true t611 t614 t615 t616 t619 t620 t623 t626 t627 t630 t633 t634) else (laws_FnMachSum.j0 k t628 t635 (!t628) t611 t614 t615 t616 t619 t620 t623 t626 t627 t630 t633 t634)) else (laws_FnMachSum.j0 k t628 t635 true t611 t614 t615 t616 t619 t620 t623 t626 t627 t630 t633 t634))=some r:=H
   have A30:=Aside0.mk A300
   clear A300
   by_cases c31:t637=true
   ·subst c31
    have H1:(if (t628 != t635)=true then (laws_FnMachSum.j0 k t628 t635 true t611 t614 t615 t616 t619 t620 t623 t626 t627 t630 t633 t634) else (laws_FnMachSum.j0 k t628 t635 (!t628) t611 t614 t615 t616 t619 t620 t623 t626 t627 t630 t633 t634))=some r:=by rw [if_pos rfl] at H;exact H
    clear H
    have H:=H1
    clear H1
    by_cases c32:(t628 != t635)=true
    ·rw [if_pos c32] at H
     have c32b0:(t628 != t635)=true:=c32
     (try (have c32b1:decide (t628=t635)=false:=by simpa using c32))
     (try (have c32b2:(t628 == t635)=false:=by simpa using c32))
     (try (have c32b3:¬ (t628=t635):=by simpa using c32))
     clear c32
     (first|rw [c32b0]|(simp only [i64_w,i32_w];rw [c32b0])|skip)
     have H':=Aside0.mk H
     clear H
     have hnb33:=NB629_621.out
     have hnc33:=NB621_629.out
     have hnb34:=NB629_622.out
     have hnc34:=NB622_629.out
     have hnb35:=NB629_636.out
     have hnc35:=NB636_629.out
     have hcz36_0:w24.cell? ⟨gb629,0,none⟩=some (.slice Ao17 t623.length co17):=(blk_cell BK629.out 0).trans rfl
     have hcz36_1:w24.cell? ⟨gb629,1,none⟩=some (.int .i64 t626):=(blk_cell BK629.out 1).trans rfl
     have hcz36_2:w24.cell? ⟨gb629,2,none⟩=some (.int .i64 t627):=(blk_cell BK629.out 2).trans rfl
     have hfz36_0:=blk_frozen BK629.out 0
     have hfz36_1:=blk_frozen BK629.out 1
     have hfz36_2:=blk_frozen BK629.out 2
     have hnb37:=NB636_621.out
     have hnc37:=NB621_636.out
     have hnb38:=NB636_622.out
     have hnc38:=NB622_636.out
     have hcz39_0:w24.cell? ⟨gb636,0,none⟩=some (.slice none 0 0):=(blk_cell BK636.out 0).trans rfl
     have hcz39_1:w24.cell? ⟨gb636,1,none⟩=some (.int .i64 0):=(blk_cell BK636.out 1).trans rfl
     have hcz39_2:w24.cell? ⟨gb636,2,none⟩=some (.int .i64 0):=(blk_cell BK636.out 2).trans rfl
     have hfz39_0:=blk_frozen BK636.out 0
     have hfz39_1:=blk_frozen BK636.out 1
     have hfz39_2:=blk_frozen BK636.out 2
     go_wp2_with (first|((with_reducible refine gate_callee (f:=23) rfl ?_);refine goesL_ (some 39) rfl rfl Try.func23 (by kernel_rfl) rfl #[.agg #[.slice Ao17 t623.length co17,.int .i64 t626,.int .i64 t627],.agg #[.slice Ao25 t630.length co25,.int .i64 t633,.int .i64 t634]] rfl (by (try simp only [List.map_toArray,List.map_cons,List.map_nil]);first|done|rfl|(simp only [List.length_drop,List.length_take];rfl)) ?_;(with_reducible refine (laws_sameMachine.calls k _ _ t623 t626 t627 _ _ t630 t633 t634 true _ ?side1 ?side2 ?side3 ?side4 A30.out).mono ?_);(case side1=>refine (Kd.R_reads' (e:=3) (base:=w.heap.size) (ok:=fun k_=>(((True∧some k_≠(.slice Ao10 t611.length co10:Value).ownBlock)∧some k_≠(.slice Ao13 t616.length co13:Value).ownBlock)∧some k_≠(.slice Ao25 t630.length co25:Value).ownBlock)) (n:=t623.length) (c:=co17) ?_).2.2;exact (by (with_reducible repeat (first|apply yH|apply yI|apply yJ));exact (Kd.R_mono (Kd.R_far (p:=⟨gb636,2,none⟩) (Kd.R_far (p:=⟨gb636,1,none⟩) (Kd.R_far (p:=⟨gb636,0,none⟩) (Kd.R_types HO625.out BK636.out (by decide)) (fun _ hk=>hk.2) (.slice Ao25 t630.length co25)) (fun _ hk=>hk.2) (.int .i64 t633)) (fun _ hk=>hk.2) (.int .i64 t634)) (fun _ h_=>h_.1))));(case side2=>exact (Kd.R_reads' HO625.out).2.1);(case side3=>refine (Kd.R_reads' (e:=3) (base:=w.heap.size) (ok:=fun k_=>(((True∧some k_≠(.slice Ao10 t611.length co10:Value).ownBlock)∧some k_≠(.slice Ao13 t616.length co13:Value).ownBlock)∧some k_≠(.slice Ao17 t623.length co17:Value).ownBlock)) (n:=t630.length) (c:=co25) ?_).2.2;exact (by (with_reducible repeat (first|apply yH|apply yI|apply yJ));exact (Kd.R_mono (Kd.R_far (p:=⟨gb636,2,none⟩) (Kd.R_far (p:=⟨gb636,1,none⟩) (Kd.R_far (p:=⟨gb636,0,none⟩) (Kd.R_types HO632.out BK636.out (by decide)) (fun _ hk=>hk.2) (.slice Ao25 t630.length co25)) (fun _ hk=>hk.2) (.int .i64 t633)) (fun _ hk=>hk.2) (.int .i64 t634)) (fun _ h_=>h_.1))));(case side4=>exact (Kd.R_reads' HO632.out).2.1);rintro e w40 ⟨rfl,hb⟩;refine ⟨_,rfl,?_⟩;have n0_:=Aside0.mk (Kd.R_below (by (with_reducible repeat (first|apply yH|apply yI|apply yJ));exact (Kd.R_mono (Kd.R_far (p:=⟨gb636,2,none⟩) (Kd.R_far (p:=⟨gb636,1,none⟩) (Kd.R_far (p:=⟨gb636,0,none⟩) (Kd.R_types HO613.out BK636.out (by decide)) (fun _ hk=>hk.2) (.slice Ao25 t630.length co25)) (fun _ hk=>hk.2) (.int .i64 t633)) (fun _ hk=>hk.2) (.int .i64 t634)) (fun _ h_=>h_.1))) hb);have n1_:=Aside0.mk (Kd.R_below (by (with_reducible repeat (first|apply yH|apply yI|apply yJ));exact (Kd.R_mono (Kd.R_far (p:=⟨gb636,2,none⟩) (Kd.R_far (p:=⟨gb636,1,none⟩) (Kd.R_far (p:=⟨gb636,0,none⟩) (Kd.R_types HO618.out BK636.out (by decide)) (fun _ hk=>hk.2) (.slice Ao25 t630.length co25)) (fun _ hk=>hk.2) (.int .i64 t633)) (fun _ hk=>hk.2) (.int .i64 t634)) (fun _ h_=>h_.1))) hb);have n2_:=Aside0.mk (Kd.R_below (by (with_reducible repeat (first|apply yH|apply yI|apply yJ));exact (Kd.R_mono (Kd.R_far (p:=⟨gb636,2,none⟩) (Kd.R_far (p:=⟨gb636,1,none⟩) (Kd.R_far (p:=⟨gb636,0,none⟩) (Kd.R_types HO625.out BK636.out (by decide)) (fun _ hk=>hk.2) (.slice Ao25 t630.length co25)) (fun _ hk=>hk.2) (.int .i64 t633)) (fun _ hk=>hk.2) (.int .i64 t634)) (fun _ h_=>h_.1))) hb);have n3_:=Aside0.mk (Kd.R_below (by (with_reducible repeat (first|apply yH|apply yI|apply yJ));exact (Kd.R_mono (Kd.R_far (p:=⟨gb636,2,none⟩) (Kd.R_far (p:=⟨gb636,1,none⟩) (Kd.R_far (p:=⟨gb636,0,none⟩) (Kd.R_types HO632.out BK636.out (by decide)) (fun _ hk=>hk.2) (.slice Ao25 t630.length co25)) (fun _ hk=>hk.2) (.int .i64 t633)) (fun _ hk=>hk.2) (.int .i64 t634)) (fun _ h_=>h_.1))) hb);have n4_:=Aside0.mk (blk_below (g:=gb621) (o:=.cells #[.slice Ao10 t611.length co10,.int .i64 t614,.int .i64 t615] 31 (0,0)) (by (with_reducible repeat (first|refine yE ?_ _|refine yF ?_|refine yG ?_ _));refine blk_far ?_ NB621_636.out _;(with_reducible repeat (first|refine yE ?_ _|refine yF ?_|refine yG ?_ _));refine blk_far ?_ NB621_636.out _;(with_reducible repeat (first|refine yE ?_ _|refine yF ?_|refine yG ?_ _));refine blk_far ?_ NB621_636.out _;(with_reducible repeat (first|refine yE ?_ _|refine yF ?_|refine yG ?_ _));exact BK621.out) hb);have n5_:=Aside0.mk (blk_below (g:=gb622) (o:=.cells #[.slice Ao13 t616.length co13,.int .i64 t619,.int .i64 t620] 31 (0,0)) (by (with_reducible repeat (first|refine yE ?_ _|refine yF ?_|refine yG ?_ _));refine blk_far ?_ NB622_636.out _;(with_reducible repeat (first|refine yE ?_ _|refine yF ?_|refine yG ?_ _));refine blk_far ?_ NB622_636.out _;(with_reducible repeat (first|refine yE ?_ _|refine yF ?_|refine yG ?_ _));refine blk_far ?_ NB622_636.out _;(with_reducible repeat (first|refine yE ?_ _|refine yF ?_|refine yG ?_ _));exact BK622.out) hb);have n6_:=Aside0.mk (blk_below (g:=gb629) (o:=.cells #[.slice Ao17 t623.length co17,.int .i64 t626,.int .i64 t627] 31 (0,0)) (by (with_reducible repeat (first|refine yE ?_ _|refine yF ?_|refine yG ?_ _));refine blk_far ?_ NB629_636.out _;(with_reducible repeat (first|refine yE ?_ _|refine yF ?_|refine yG ?_ _));refine blk_far ?_ NB629_636.out _;(with_reducible repeat (first|refine yE ?_ _|refine yF ?_|refine yG ?_ _));refine blk_far ?_ NB629_636.out _;(with_reducible repeat (first|refine yE ?_ _|refine yF ?_|refine yG ?_ _));exact BK629.out) hb);have n7_:=Aside0.mk (blk_below (g:=gb636) (o:=.cells #[.slice Ao25 t630.length co25,.int .i64 t633,.int .i64 t634] 31 (0,0)) (by (with_reducible repeat (first|refine yE ?_ _|refine yF ?_|refine yG ?_ _));refine blk_put (cs:=#[.slice Ao25 t630.length co25,.int .i64 t633,.int .i64 0]) ?_ 2 _ rfl;(with_reducible repeat (first|refine yE ?_ _|refine yF ?_|refine yG ?_ _));refine blk_put (cs:=#[.slice Ao25 t630.length co25,.int .i64 0,.int .i64 0]) ?_ 1 _ rfl;(with_reducible repeat (first|refine yE ?_ _|refine yF ?_|refine yG ?_ _));refine blk_put (cs:=#[.slice none 0 0,.int .i64 0,.int .i64 0]) ?_ 0 _ rfl;(with_reducible repeat (first|refine yE ?_ _|refine yF ?_|refine yG ?_ _));exact BK636.out) hb);have n8_:=Aside0.mk (yP (by repeat (first|(with_reducible first|exact HB.out|apply yA|apply yB|apply yC|refine yD ?_ GE621.out|refine yD ?_ GE622.out|refine yD ?_ GE629.out|refine yD ?_ GE636.out)|exact HB.out)) hb);clear HO613;clear HO618;clear HO625;clear HO632;clear BK621;clear BK622;clear BK629;clear BK636;clear HB;have HO613:=n0_;have HO618:=n1_;have HO625:=n2_;have HO632:=n3_;have BK621:=n4_;have BK622:=n5_;have BK629:=n6_;have BK636:=n7_;have HB:=n8_;clear n0_ n1_ n2_ n3_ n4_ n5_ n6_ n7_ n8_;(try clear hb);(try clear hb2);(try clear hk);(try clear hi)))
     go_meet
     case rel=>exact ⟨_,(true),(by first|rfl|(simp;done)|(simp [*];done)|(simp [Int.tmod_eq_emod_of_nonneg];done)),H',⟨by first|omega|exact Nat.le_refl _⟩,⟨by (with_reducible repeat (first|apply yH|apply yI|apply yJ));exact Kd.R_mono HO613.out (fun _ hk=>⟨hk.1.1,⟨hk.1.2,hk.2⟩⟩)⟩,⟨by (with_reducible repeat (first|apply yH|apply yI|apply yJ));exact Kd.R_mono HO618.out (fun _ hk=>⟨hk.1.1,⟨hk.1.2,hk.2⟩⟩)⟩,⟨by (with_reducible repeat (first|apply yH|apply yI|apply yJ));exact Kd.R_mono HO625.out (fun _ hk=>⟨hk.1.1.2,⟨hk.1.2,hk.2⟩⟩)⟩,⟨by (with_reducible repeat (first|apply yH|apply yI|apply yJ));exact Kd.R_mono HO632.out (fun _ hk=>⟨hk.1.1.2,⟨hk.1.2,hk.2⟩⟩)⟩,⟨by (with_reducible repeat (first|refine yE ?_ _|refine yF ?_|refine yG ?_ _));exact BK621.out⟩,⟨by (with_reducible repeat (first|refine yE ?_ _|refine yF ?_|refine yG ?_ _));exact BK622.out⟩,⟨by (with_reducible repeat (first|refine yE ?_ _|refine yF ?_|refine yG ?_ _));exact BK629.out⟩,⟨by (with_reducible repeat (first|refine yE ?_ _|refine yF ?_|refine yG ?_ _));exact BK636.out⟩,⟨by repeat (first|(with_reducible first|exact HB.out|apply yA|apply yB|apply yC|refine yD ?_ GE621.out|refine yD ?_ GE622.out|refine yD ?_ GE629.out|refine yD ?_ GE636.out)|exact HB.out)⟩⟩
    ·rw [if_neg c32] at H
     have c32b0:(t628 != t635)=false:=by simpa using c32
     (try (have c32b1:decide (t628=t635)=true:=by simpa using c32))
     (try (have c32b2:(t628 == t635)=true:=by simpa using c32))
     clear c32
     (first|rw [c32b0]|(simp only [i64_w,i32_w];rw [c32b0])|skip)
     have H':=Aside0.mk H
     clear H
     have hnb41:=NB629_621.out
     have hnc41:=NB621_629.out
     have hnb42:=NB629_622.out
     have hnc42:=NB622_629.out
     have hnb43:=NB629_636.out
     have hnc43:=NB636_629.out
     have hcz44_0:w24.cell? ⟨gb629,0,none⟩=some (.slice Ao17 t623.length co17):=(blk_cell BK629.out 0).trans rfl
     have hcz44_1:w24.cell? ⟨gb629,1,none⟩=some (.int .i64 t626):=(blk_cell BK629.out 1).trans rfl
     have hcz44_2:w24.cell? ⟨gb629,2,none⟩=some (.int .i64 t627):=(blk_cell BK629.out 2).trans rfl
     have hfz44_0:=blk_frozen BK629.out 0
     have hfz44_1:=blk_frozen BK629.out 1
     have hfz44_2:=blk_frozen BK629.out 2
     have hnb45:=NB636_621.out
     have hnc45:=NB621_636.out
     have hnb46:=NB636_622.out
     have hnc46:=NB622_636.out
     have hcz47_0:w24.cell? ⟨gb636,0,none⟩=some (.slice none 0 0):=(blk_cell BK636.out 0).trans rfl
     have hcz47_1:w24.cell? ⟨gb636,1,none⟩=some (.int .i64 0):=(blk_cell BK636.out 1).trans rfl
     have hcz47_2:w24.cell? ⟨gb636,2,none⟩=some (.int .i64 0):=(blk_cell BK636.out 2).trans rfl
     have hfz47_0:=blk_frozen BK636.out 0
     have hfz47_1:=blk_frozen BK636.out 1
     have hfz47_2:=blk_frozen BK636.out 2
     go_wp2_with (first|((with_reducible refine gate_callee (f:=23) rfl ?_);refine goesL_ (some 39) rfl rfl Try.func23 (by kernel_rfl) rfl #[.agg #[.slice Ao17 t623.length co17,.int .i64 t626,.int .i64 t627],.agg #[.slice Ao25 t630.length co25,.int .i64 t633,.int .i64 t634]] rfl (by (try simp only [List.map_toArray,List.map_cons,List.map_nil]);first|done|rfl|(simp only [List.length_drop,List.length_take];rfl)) ?_;(with_reducible refine (laws_sameMachine.calls k _ _ t623 t626 t627 _ _ t630 t633 t634 true _ ?side1 ?side2 ?side3 ?side4 A30.out).mono ?_);(case side1=>refine (Kd.R_reads' (e:=3) (base:=w.heap.size) (ok:=fun k_=>(((True∧some k_≠(.slice Ao10 t611.length co10:Value).ownBlock)∧some k_≠(.slice Ao13 t616.length co13:Value).ownBlock)∧some k_≠(.slice Ao25 t630.length co25:Value).ownBlock)) (n:=t623.length) (c:=co17) ?_).2.2;exact (by (with_reducible repeat (first|apply yH|apply yI|apply yJ));exact (Kd.R_mono (Kd.R_far (p:=⟨gb636,2,none⟩) (Kd.R_far (p:=⟨gb636,1,none⟩) (Kd.R_far (p:=⟨gb636,0,none⟩) (Kd.R_types HO625.out BK636.out (by decide)) (fun _ hk=>hk.2) (.slice Ao25 t630.length co25)) (fun _ hk=>hk.2) (.int .i64 t633)) (fun _ hk=>hk.2) (.int .i64 t634)) (fun _ h_=>h_.1))));(case side2=>exact (Kd.R_reads' HO625.out).2.1);(case side3=>refine (Kd.R_reads' (e:=3) (base:=w.heap.size) (ok:=fun k_=>(((True∧some k_≠(.slice Ao10 t611.length co10:Value).ownBlock)∧some k_≠(.slice Ao13 t616.length co13:Value).ownBlock)∧some k_≠(.slice Ao17 t623.length co17:Value).ownBlock)) (n:=t630.length) (c:=co25) ?_).2.2;exact (by (with_reducible repeat (first|apply yH|apply yI|apply yJ));exact (Kd.R_mono (Kd.R_far (p:=⟨gb636,2,none⟩) (Kd.R_far (p:=⟨gb636,1,none⟩) (Kd.R_far (p:=⟨gb636,0,none⟩) (Kd.R_types HO632.out BK636.out (by decide)) (fun _ hk=>hk.2) (.slice Ao25 t630.length co25)) (fun _ hk=>hk.2) (.int .i64 t633)) (fun _ hk=>hk.2) (.int .i64 t634)) (fun _ h_=>h_.1))));(case side4=>exact (Kd.R_reads' HO632.out).2.1);rintro e w48 ⟨rfl,hb⟩;refine ⟨_,rfl,?_⟩;have n0_:=Aside0.mk (Kd.R_below (by (with_reducible repeat (first|apply yH|apply yI|apply yJ));exact (Kd.R_mono (Kd.R_far (p:=⟨gb636,2,none⟩) (Kd.R_far (p:=⟨gb636,1,none⟩) (Kd.R_far (p:=⟨gb636,0,none⟩) (Kd.R_types HO613.out BK636.out (by decide)) (fun _ hk=>hk.2) (.slice Ao25 t630.length co25)) (fun _ hk=>hk.2) (.int .i64 t633)) (fun _ hk=>hk.2) (.int .i64 t634)) (fun _ h_=>h_.1))) hb);have n1_:=Aside0.mk (Kd.R_below (by (with_reducible repeat (first|apply yH|apply yI|apply yJ));exact (Kd.R_mono (Kd.R_far (p:=⟨gb636,2,none⟩) (Kd.R_far (p:=⟨gb636,1,none⟩) (Kd.R_far (p:=⟨gb636,0,none⟩) (Kd.R_types HO618.out BK636.out (by decide)) (fun _ hk=>hk.2) (.slice Ao25 t630.length co25)) (fun _ hk=>hk.2) (.int .i64 t633)) (fun _ hk=>hk.2) (.int .i64 t634)) (fun _ h_=>h_.1))) hb);have n2_:=Aside0.mk (Kd.R_below (by (with_reducible repeat (first|apply yH|apply yI|apply yJ));exact (Kd.R_mono (Kd.R_far (p:=⟨gb636,2,none⟩) (Kd.R_far (p:=⟨gb636,1,none⟩) (Kd.R_far (p:=⟨gb636,0,none⟩) (Kd.R_types HO625.out BK636.out (by decide)) (fun _ hk=>hk.2) (.slice Ao25 t630.length co25)) (fun _ hk=>hk.2) (.int .i64 t633)) (fun _ hk=>hk.2) (.int .i64 t634)) (fun _ h_=>h_.1))) hb);have n3_:=Aside0.mk (Kd.R_below (by (with_reducible repeat (first|apply yH|apply yI|apply yJ));exact (Kd.R_mono (Kd.R_far (p:=⟨gb636,2,none⟩) (Kd.R_far (p:=⟨gb636,1,none⟩) (Kd.R_far (p:=⟨gb636,0,none⟩) (Kd.R_types HO632.out BK636.out (by decide)) (fun _ hk=>hk.2) (.slice Ao25 t630.length co25)) (fun _ hk=>hk.2) (.int .i64 t633)) (fun _ hk=>hk.2) (.int .i64 t634)) (fun _ h_=>h_.1))) hb);have n4_:=Aside0.mk (blk_below (g:=gb621) (o:=.cells #[.slice Ao10 t611.length co10,.int .i64 t614,.int .i64 t615] 31 (0,0)) (by (with_reducible repeat (first|refine yE ?_ _|refine yF ?_|refine yG ?_ _));refine blk_far ?_ NB621_636.out _;(with_reducible repeat (first|refine yE ?_ _|refine yF ?_|refine yG ?_ _));refine blk_far ?_ NB621_636.out _;(with_reducible repeat (first|refine yE ?_ _|refine yF ?_|refine yG ?_ _));refine blk_far ?_ NB621_636.out _;(with_reducible repeat (first|refine yE ?_ _|refine yF ?_|refine yG ?_ _));exact BK621.out) hb);have n5_:=Aside0.mk (blk_below (g:=gb622) (o:=.cells #[.slice Ao13 t616.length co13,.int .i64 t619,.int .i64 t620] 31 (0,0)) (by (with_reducible repeat (first|refine yE ?_ _|refine yF ?_|refine yG ?_ _));refine blk_far ?_ NB622_636.out _;(with_reducible repeat (first|refine yE ?_ _|refine yF ?_|refine yG ?_ _));refine blk_far ?_ NB622_636.out _;(with_reducible repeat (first|refine yE ?_ _|refine yF ?_|refine yG ?_ _));refine blk_far ?_ NB622_636.out _;(with_reducible repeat (first|refine yE ?_ _|refine yF ?_|refine yG ?_ _));exact BK622.out) hb);have n6_:=Aside0.mk (blk_below (g:=gb629) (o:=.cells #[.slice Ao17 t623.length co17,.int .i64 t626,.int .i64 t627] 31 (0,0)) (by (with_reducible repeat (first|refine yE ?_ _|refine yF ?_|refine yG ?_ _));refine blk_far ?_ NB629_636.out _;(with_reducible repeat (first|refine yE ?_ _|refine yF ?_|refine yG ?_ _));refine blk_far ?_ NB629_636.out _;(with_reducible repeat (first|refine yE ?_ _|refine yF ?_|refine yG ?_ _));refine blk_far ?_ NB629_636.out _;(with_reducible repeat (first|refine yE ?_ _|refine yF ?_|refine yG ?_ _));exact BK629.out) hb);have n7_:=Aside0.mk (blk_below (g:=gb636) (o:=.cells #[.slice Ao25 t630.length co25,.int .i64 t633,.int .i64 t634] 31 (0,0)) (by (with_reducible repeat (first|refine yE ?_ _|refine yF ?_|refine yG ?_ _));refine blk_put (cs:=#[.slice Ao25 t630.length co25,.int .i64 t633,.int .i64 0]) ?_ 2 _ rfl;(with_reducible repeat (first|refine yE ?_ _|refine yF ?_|refine yG ?_ _));refine blk_put (cs:=#[.slice Ao25 t630.length co25,.int .i64 0,.int .i64 0]) ?_ 1 _ rfl;(with_reducible repeat (first|refine yE ?_ _|refine yF ?_|refine yG ?_ _));refine blk_put (cs:=#[.slice none 0 0,.int .i64 0,.int .i64 0]) ?_ 0 _ rfl;(with_reducible repeat (first|refine yE ?_ _|refine yF ?_|refine yG ?_ _));exact BK636.out) hb);have n8_:=Aside0.mk (yP (by repeat (first|(with_reducible first|exact HB.out|apply yA|apply yB|apply yC|refine yD ?_ GE621.out|refine yD ?_ GE622.out|refine yD ?_ GE629.out|refine yD ?_ GE636.out)|exact HB.out)) hb);clear HO613;clear HO618;clear HO625;clear HO632;clear BK621;clear BK622;clear BK629;clear BK636;clear HB;have HO613:=n0_;have HO618:=n1_;have HO625:=n2_;have HO632:=n3_;have BK621:=n4_;have BK622:=n5_;have BK629:=n6_;have BK636:=n7_;have HB:=n8_;clear n0_ n1_ n2_ n3_ n4_ n5_ n6_ n7_ n8_;(try clear hb);(try clear hb2);(try clear hk);(try clear hi)))
     go_meet
     case rel=>exact ⟨_,(!t628),(by first|rfl|(simp;done)|(simp [*];done)|(simp [Int.tmod_eq_emod_of_nonneg];done)),H',⟨by first|omega|exact Nat.le_refl _⟩,⟨by (with_reducible repeat (first|apply yH|apply yI|apply yJ));exact Kd.R_mono HO613.out (fun _ hk=>⟨hk.1.1,⟨hk.1.2,hk.2⟩⟩)⟩,⟨by (with_reducible repeat (first|apply yH|apply yI|apply yJ));exact Kd.R_mono HO618.out (fun _ hk=>⟨hk.1.1,⟨hk.1.2,hk.2⟩⟩)⟩,⟨by (with_reducible repeat (first|apply yH|apply yI|apply yJ));exact Kd.R_mono HO625.out (fun _ hk=>⟨hk.1.1.2,⟨hk.1.2,hk.2⟩⟩)⟩,⟨by (with_reducible repeat (first|apply yH|apply yI|apply yJ));exact Kd.R_mono HO632.out (fun _ hk=>⟨hk.1.1.2,⟨hk.1.2,hk.2⟩⟩)⟩,⟨by (with_reducible repeat (first|refine yE ?_ _|refine yF ?_|refine yG ?_ _));exact BK621.out⟩,⟨by (with_reducible repeat (first|refine yE ?_ _|refine yF ?_|refine yG ?_ _));exact BK622.out⟩,⟨by (with_reducible repeat (first|refine yE ?_ _|refine yF ?_|refine yG ?_ _));exact BK629.out⟩,⟨by (with_reducible repeat (first|refine yE ?_ _|refine yF ?_|refine yG ?_ _));exact BK636.out⟩,⟨by repeat (first|(with_reducible first|exact HB.out|apply yA|apply yB|apply yC|refine yD ?_ GE621.out|refine yD ?_ GE622.out|refine yD ?_ GE629.out|refine yD ?_ GE636.out)|exact HB.out)⟩⟩
   ·replace c31:=Bool.eq_false_iff.mpr c31
    subst c31
    have H1:(laws_FnMachSum.j0 k t628 t635 true t611 t614 t615 t616 t619 t620 t623 t626 t627 t630 t633 t634)=some r:=by rw [if_neg (show ¬ (false=true) by decide)] at H;exact H
    clear H
    have H:=H1
    clear H1
    have H':=Aside0.mk H
    clear H
    have hnb49:=NB629_621.out
    have hnc49:=NB621_629.out
    have hnb50:=NB629_622.out
    have hnc50:=NB622_629.out
    have hnb51:=NB629_636.out
    have hnc51:=NB636_629.out
    have hcz52_0:w24.cell? ⟨gb629,0,none⟩=some (.slice Ao17 t623.length co17):=(blk_cell BK629.out 0).trans rfl
    have hcz52_1:w24.cell? ⟨gb629,1,none⟩=some (.int .i64 t626):=(blk_cell BK629.out 1).trans rfl
    have hcz52_2:w24.cell? ⟨gb629,2,none⟩=some (.int .i64 t627):=(blk_cell BK629.out 2).trans rfl
    have hfz52_0:=blk_frozen BK629.out 0
    have hfz52_1:=blk_frozen BK629.out 1
    have hfz52_2:=blk_frozen BK629.out 2
    have hnb53:=NB636_621.out
    have hnc53:=NB621_636.out
    have hnb54:=NB636_622.out
    have hnc54:=NB622_636.out
    have hcz55_0:w24.cell? ⟨gb636,0,none⟩=some (.slice none 0 0):=(blk_cell BK636.out 0).trans rfl
    have hcz55_1:w24.cell? ⟨gb636,1,none⟩=some (.int .i64 0):=(blk_cell BK636.out 1).trans rfl
    have hcz55_2:w24.cell? ⟨gb636,2,none⟩=some (.int .i64 0):=(blk_cell BK636.out 2).trans rfl
    have hfz55_0:=blk_frozen BK636.out 0
    have hfz55_1:=blk_frozen BK636.out 1
    have hfz55_2:=blk_frozen BK636.out 2
    go_wp2_with (first|((with_reducible refine gate_callee (f:=23) rfl ?_);refine goesL_ (some 39) rfl rfl Try.func23 (by kernel_rfl) rfl #[.agg #[.slice Ao17 t623.length co17,.int .i64 t626,.int .i64 t627],.agg #[.slice Ao25 t630.length co25,.int .i64 t633,.int .i64 t634]] rfl (by (try simp only [List.map_toArray,List.map_cons,List.map_nil]);first|done|rfl|(simp only [List.length_drop,List.length_take];rfl)) ?_;(with_reducible refine (laws_sameMachine.calls k _ _ t623 t626 t627 _ _ t630 t633 t634 false _ ?side1 ?side2 ?side3 ?side4 A30.out).mono ?_);(case side1=>refine (Kd.R_reads' (e:=3) (base:=w.heap.size) (ok:=fun k_=>(((True∧some k_≠(.slice Ao10 t611.length co10:Value).ownBlock)∧some k_≠(.slice Ao13 t616.length co13:Value).ownBlock)∧some k_≠(.slice Ao25 t630.length co25:Value).ownBlock)) (n:=t623.length) (c:=co17) ?_).2.2;exact (by (with_reducible repeat (first|apply yH|apply yI|apply yJ));exact (Kd.R_mono (Kd.R_far (p:=⟨gb636,2,none⟩) (Kd.R_far (p:=⟨gb636,1,none⟩) (Kd.R_far (p:=⟨gb636,0,none⟩) (Kd.R_types HO625.out BK636.out (by decide)) (fun _ hk=>hk.2) (.slice Ao25 t630.length co25)) (fun _ hk=>hk.2) (.int .i64 t633)) (fun _ hk=>hk.2) (.int .i64 t634)) (fun _ h_=>h_.1))));(case side2=>exact (Kd.R_reads' HO625.out).2.1);(case side3=>refine (Kd.R_reads' (e:=3) (base:=w.heap.size) (ok:=fun k_=>(((True∧some k_≠(.slice Ao10 t611.length co10:Value).ownBlock)∧some k_≠(.slice Ao13 t616.length co13:Value).ownBlock)∧some k_≠(.slice Ao17 t623.length co17:Value).ownBlock)) (n:=t630.length) (c:=co25) ?_).2.2;exact (by (with_reducible repeat (first|apply yH|apply yI|apply yJ));exact (Kd.R_mono (Kd.R_far (p:=⟨gb636,2,none⟩) (Kd.R_far (p:=⟨gb636,1,none⟩) (Kd.R_far (p:=⟨gb636,0,none⟩) (Kd.R_types HO632.out BK636.out (by decide)) (fun _ hk=>hk.2) (.slice Ao25 t630.length co25)) (fun _ hk=>hk.2) (.int .i64 t633)) (fun _ hk=>hk.2) (.int .i64 t634)) (fun _ h_=>h_.1))));(case side4=>exact (Kd.R_reads' HO632.out).2.1);rintro e w56 ⟨rfl,hb⟩;refine ⟨_,rfl,?_⟩;have n0_:=Aside0.mk (Kd.R_below (by (with_reducible repeat (first|apply yH|apply yI|apply yJ));exact (Kd.R_mono (Kd.R_far (p:=⟨gb636,2,none⟩) (Kd.R_far (p:=⟨gb636,1,none⟩) (Kd.R_far (p:=⟨gb636,0,none⟩) (Kd.R_types HO613.out BK636.out (by decide)) (fun _ hk=>hk.2) (.slice Ao25 t630.length co25)) (fun _ hk=>hk.2) (.int .i64 t633)) (fun _ hk=>hk.2) (.int .i64 t634)) (fun _ h_=>h_.1))) hb);have n1_:=Aside0.mk (Kd.R_below (by (with_reducible repeat (first|apply yH|apply yI|apply yJ));exact (Kd.R_mono (Kd.R_far (p:=⟨gb636,2,none⟩) (Kd.R_far (p:=⟨gb636,1,none⟩) (Kd.R_far (p:=⟨gb636,0,none⟩) (Kd.R_types HO618.out BK636.out (by decide)) (fun _ hk=>hk.2) (.slice Ao25 t630.length co25)) (fun _ hk=>hk.2) (.int .i64 t633)) (fun _ hk=>hk.2) (.int .i64 t634)) (fun _ h_=>h_.1))) hb);have n2_:=Aside0.mk (Kd.R_below (by (with_reducible repeat (first|apply yH|apply yI|apply yJ));exact (Kd.R_mono (Kd.R_far (p:=⟨gb636,2,none⟩) (Kd.R_far (p:=⟨gb636,1,none⟩) (Kd.R_far (p:=⟨gb636,0,none⟩) (Kd.R_types HO625.out BK636.out (by decide)) (fun _ hk=>hk.2) (.slice Ao25 t630.length co25)) (fun _ hk=>hk.2) (.int .i64 t633)) (fun _ hk=>hk.2) (.int .i64 t634)) (fun _ h_=>h_.1))) hb);have n3_:=Aside0.mk (Kd.R_below (by (with_reducible repeat (first|apply yH|apply yI|apply yJ));exact (Kd.R_mono (Kd.R_far (p:=⟨gb636,2,none⟩) (Kd.R_far (p:=⟨gb636,1,none⟩) (Kd.R_far (p:=⟨gb636,0,none⟩) (Kd.R_types HO632.out BK636.out (by decide)) (fun _ hk=>hk.2) (.slice Ao25 t630.length co25)) (fun _ hk=>hk.2) (.int .i64 t633)) (fun _ hk=>hk.2) (.int .i64 t634)) (fun _ h_=>h_.1))) hb);have n4_:=Aside0.mk (blk_below (g:=gb621) (o:=.cells #[.slice Ao10 t611.length co10,.int .i64 t614,.int .i64 t615] 31 (0,0)) (by (with_reducible repeat (first|refine yE ?_ _|refine yF ?_|refine yG ?_ _));refine blk_far ?_ NB621_636.out _;(with_reducible repeat (first|refine yE ?_ _|refine yF ?_|refine yG ?_ _));refine blk_far ?_ NB621_636.out _;(with_reducible repeat (first|refine yE ?_ _|refine yF ?_|refine yG ?_ _));refine blk_far ?_ NB621_636.out _;(with_reducible repeat (first|refine yE ?_ _|refine yF ?_|refine yG ?_ _));exact BK621.out) hb);have n5_:=Aside0.mk (blk_below (g:=gb622) (o:=.cells #[.slice Ao13 t616.length co13,.int .i64 t619,.int .i64 t620] 31 (0,0)) (by (with_reducible repeat (first|refine yE ?_ _|refine yF ?_|refine yG ?_ _));refine blk_far ?_ NB622_636.out _;(with_reducible repeat (first|refine yE ?_ _|refine yF ?_|refine yG ?_ _));refine blk_far ?_ NB622_636.out _;(with_reducible repeat (first|refine yE ?_ _|refine yF ?_|refine yG ?_ _));refine blk_far ?_ NB622_636.out _;(with_reducible repeat (first|refine yE ?_ _|refine yF ?_|refine yG ?_ _));exact BK622.out) hb);have n6_:=Aside0.mk (blk_below (g:=gb629) (o:=.cells #[.slice Ao17 t623.length co17,.int .i64 t626,.int .i64 t627] 31 (0,0)) (by (with_reducible repeat (first|refine yE ?_ _|refine yF ?_|refine yG ?_ _));refine blk_far ?_ NB629_636.out _;(with_reducible repeat (first|refine yE ?_ _|refine yF ?_|refine yG ?_ _));refine blk_far ?_ NB629_636.out _;(with_reducible repeat (first|refine yE ?_ _|refine yF ?_|refine yG ?_ _));refine blk_far ?_ NB629_636.out _;(with_reducible repeat (first|refine yE ?_ _|refine yF ?_|refine yG ?_ _));exact BK629.out) hb);have n7_:=Aside0.mk (blk_below (g:=gb636) (o:=.cells #[.slice Ao25 t630.length co25,.int .i64 t633,.int .i64 t634] 31 (0,0)) (by (with_reducible repeat (first|refine yE ?_ _|refine yF ?_|refine yG ?_ _));refine blk_put (cs:=#[.slice Ao25 t630.length co25,.int .i64 t633,.int .i64 0]) ?_ 2 _ rfl;(with_reducible repeat (first|refine yE ?_ _|refine yF ?_|refine yG ?_ _));refine blk_put (cs:=#[.slice Ao25 t630.length co25,.int .i64 0,.int .i64 0]) ?_ 1 _ rfl;(with_reducible repeat (first|refine yE ?_ _|refine yF ?_|refine yG ?_ _));refine blk_put (cs:=#[.slice none 0 0,.int .i64 0,.int .i64 0]) ?_ 0 _ rfl;(with_reducible repeat (first|refine yE ?_ _|refine yF ?_|refine yG ?_ _));exact BK636.out) hb);have n8_:=Aside0.mk (yP (by repeat (first|(with_reducible first|exact HB.out|apply yA|apply yB|apply yC|refine yD ?_ GE621.out|refine yD ?_ GE622.out|refine yD ?_ GE629.out|refine yD ?_ GE636.out)|exact HB.out)) hb);clear HO613;clear HO618;clear HO625;clear HO632;clear BK621;clear BK622;clear BK629;clear BK636;clear HB;have HO613:=n0_;have HO618:=n1_;have HO625:=n2_;have HO632:=n3_;have BK621:=n4_;have BK622:=n5_;have BK629:=n6_;have BK636:=n7_;have HB:=n8_;clear n0_ n1_ n2_ n3_ n4_ n5_ n6_ n7_ n8_;(try clear hb);(try clear hb2);(try clear hk);(try clear hi)))
    go_meet
    case rel=>exact ⟨_,(true),(by first|rfl|(simp;done)|(simp [*];done)|(simp [Int.tmod_eq_emod_of_nonneg];done)),H',⟨by first|omega|exact Nat.le_refl _⟩,⟨by (with_reducible repeat (first|apply yH|apply yI|apply yJ));exact Kd.R_mono HO613.out (fun _ hk=>⟨hk.1.1,⟨hk.1.2,hk.2⟩⟩)⟩,⟨by (with_reducible repeat (first|apply yH|apply yI|apply yJ));exact Kd.R_mono HO618.out (fun _ hk=>⟨hk.1.1,⟨hk.1.2,hk.2⟩⟩)⟩,⟨by (with_reducible repeat (first|apply yH|apply yI|apply yJ));exact Kd.R_mono HO625.out (fun _ hk=>⟨hk.1.1.2,⟨hk.1.2,hk.2⟩⟩)⟩,⟨by (with_reducible repeat (first|apply yH|apply yI|apply yJ));exact Kd.R_mono HO632.out (fun _ hk=>⟨hk.1.1.2,⟨hk.1.2,hk.2⟩⟩)⟩,⟨by (with_reducible repeat (first|refine yE ?_ _|refine yF ?_|refine yG ?_ _));exact BK621.out⟩,⟨by (with_reducible repeat (first|refine yE ?_ _|refine yF ?_|refine yG ?_ _));exact BK622.out⟩,⟨by (with_reducible repeat (first|refine yE ?_ _|refine yF ?_|refine yG ?_ _));exact BK629.out⟩,⟨by (with_reducible repeat (first|refine yE ?_ _|refine yF ?_|refine yG ?_ _));exact BK636.out⟩,⟨by repeat (first|(with_reducible first|exact HB.out|apply yA|apply yB|apply yC|refine yD ?_ GE621.out|refine yD ?_ GE622.out|refine yD ?_ GE629.out|refine yD ?_ GE636.out)|exact HB.out)⟩⟩
  case rest =>
   clear HC6
   try clear c1
   try clear c2
   try clear c2b0
   try clear c2b1
   try clear p2
   try clear c3
   try clear c4
   try clear c5
   try clear c6
   try clear c11
   try clear c18
   try clear c19
   try clear c20
   try clear c21
   try clear c22
   try clear c23
   try clear c26
   try clear c27
   try clear c28
   try clear c31
   try clear c32
   try clear c32b0
   try clear c32b1
   try clear c32b2
   try clear c33
   try clear c34
   try clear c35
   try clear c37
   try clear c38
   try clear c41
   try clear c42
   try clear c43
   try clear c45
   try clear c46
   try clear c49
   try clear c50
   try clear c51
   try clear c53
   try clear c54
   try clear hcz12_0
   try clear hcz12_1
   try clear hcz12_2
   try clear hcz14_0
   try clear hcz14_1
   try clear hcz14_2
   try clear hcz20_0
   try clear hcz20_1
   try clear hcz20_2
   try clear hcz21_0
   try clear hcz21_1
   try clear hcz21_2
   try clear hcz22_0
   try clear hcz22_1
   try clear hcz22_2
   try clear hcz29_0
   try clear hcz29_1
   try clear hcz29_2
   try clear hcz36_0
   try clear hcz36_1
   try clear hcz36_2
   try clear hcz39_0
   try clear hcz39_1
   try clear hcz39_2
   try clear hcz44_0
   try clear hcz44_1
   try clear hcz44_2
   try clear hcz47_0
   try clear hcz47_1
   try clear hcz47_2
   try clear hcz52_0
   try clear hcz52_1
   try clear hcz52_2
   try clear hcz55_0
   try clear hcz55_1
   try clear hcz55_2
   try clear hfz12_0
   try clear hfz12_1
   try clear hfz12_2
   try clear hfz14_0
   try clear hfz14_1
   try clear hfz14_2
   try clear hfz20_0
   try clear hfz20_1
   try clear hfz20_2
   try clear hfz21_0
   try clear hfz21_1
   try clear hfz21_2
   try clear hfz22_0
   try clear hfz22_1
   try clear hfz22_2
   try clear hfz29_0
   try clear hfz29_1
   try clear hfz29_2
   try clear hfz36_0
   try clear hfz36_1
   try clear hfz36_2
   try clear hfz39_0
   try clear hfz39_1
   try clear hfz39_2
   try clear hfz44_0
   try clear hfz44_1
   try clear hfz44_2
   try clear hfz47_0
   try clear hfz47_1
   try clear hfz47_2
   try clear hfz52_0
   try clear hfz52_1
   try clear hfz52_2
   try clear hfz55_0
   try clear hfz55_1
   try clear hfz55_2
   obtain ⟨kq,x49_5,rfl,HA,HJ5,HO_622000,HO_623000,HO_630000,HO_637000,BK621,BK622,BK629,BK636,HB⟩:=hcut
   cases kq with
   | zero=>exact absurd HA.out (by simp [laws_FnMachSum.j0])
   | succ kj5 =>
    have H:=HA.out
    clear HA
    simp only [laws_FnMachSum.j0] at H
    by_cases c57:x49_5=true
    ·subst c57
     have H1:((laws_sameMachine.f kj5 t623 t626 t627 t630 t633 t634).bind fun t638=>(if t638=true then (some (t628 == t635)) else (some false)))=some r:=by rw [if_pos rfl] at H;exact H
     clear H
     have H:=H1
     clear H1
     replace H:=Option.bind_eq_some_iff.mp H
     obtain ⟨t638,A580,H⟩:=H
     replace H:(if t638=true then (some (t628 == t635)) else (some false))=some r:=H
     have A58:=Aside0.mk A580
     clear A580
     by_cases c59:t638=true
     ·subst c59
      have H1:(some (t628 == t635))=some r:=by rw [if_pos rfl] at H;exact H
      clear H
      have H:=H1
      clear H1
      obtain rfl:=Option.some.inj H
      have hnb60:=NB629_621.out
      have hnc60:=NB621_629.out
      have hnb61:=NB629_622.out
      have hnc61:=NB622_629.out
      have hnb62:=NB629_636.out
      have hnc62:=NB636_629.out
      have hcz63_0:wc.cell? ⟨gb629,0,none⟩=some (.slice Ao17 t623.length co17):=(blk_cell BK629.out 0).trans rfl
      have hcz63_1:wc.cell? ⟨gb629,1,none⟩=some (.int .i64 t626):=(blk_cell BK629.out 1).trans rfl
      have hcz63_2:wc.cell? ⟨gb629,2,none⟩=some (.int .i64 t627):=(blk_cell BK629.out 2).trans rfl
      have hfz63_0:=blk_frozen BK629.out 0
      have hfz63_1:=blk_frozen BK629.out 1
      have hfz63_2:=blk_frozen BK629.out 2
      have hnb64:=NB636_621.out
      have hnc64:=NB621_636.out
      have hnb65:=NB636_622.out
      have hnc65:=NB622_636.out
      have hcz66_0:wc.cell? ⟨gb636,0,none⟩=some (.slice Ao25 t630.length co25):=(blk_cell BK636.out 0).trans rfl
      have hcz66_1:wc.cell? ⟨gb636,1,none⟩=some (.int .i64 t633):=(blk_cell BK636.out 1).trans rfl
      have hcz66_2:wc.cell? ⟨gb636,2,none⟩=some (.int .i64 t634):=(blk_cell BK636.out 2).trans rfl
      have hfz66_0:=blk_frozen BK636.out 0
      have hfz66_1:=blk_frozen BK636.out 1
      have hfz66_2:=blk_frozen BK636.out 2
      go_wp2_with (first|((with_reducible refine gate_callee (f:=23) rfl ?_);refine goesL_ (some 52) rfl rfl Try.func23 (by kernel_rfl) rfl #[.agg #[.slice Ao17 t623.length co17,.int .i64 t626,.int .i64 t627],.agg #[.slice Ao25 t630.length co25,.int .i64 t633,.int .i64 t634]] rfl (by (try simp only [List.map_toArray,List.map_cons,List.map_nil]);first|done|rfl|(simp only [List.length_drop,List.length_take];rfl)) ?_;(with_reducible refine (laws_sameMachine.calls kj5 _ _ t623 t626 t627 _ _ t630 t633 t634 true _ ?side1 ?side2 ?side3 ?side4 A58.out).mono ?_);(case side1=>repeat (first|exact (Kd.R_reads' HO_630000.out).2.2|(with_reducible refine Kd.C_alloc ?_ _)|(with_reducible refine Kd.C_drewN ?_ _)|(with_reducible refine Kd.C_drew ?_)));(case side2=>exact (Kd.R_reads' HO_630000.out).2.1);(case side3=>repeat (first|exact (Kd.R_reads' HO_637000.out).2.2|(with_reducible refine Kd.C_alloc ?_ _)|(with_reducible refine Kd.C_drewN ?_ _)|(with_reducible refine Kd.C_drew ?_)));(case side4=>exact (Kd.R_reads' HO_637000.out).2.1);rintro e w67 ⟨rfl,hb⟩;refine ⟨_,rfl,?_⟩;have n0_:=Aside0.mk (Kd.R_below (by (with_reducible repeat (first|apply yH|apply yI|apply yJ));exact HO_622000.out) hb);have n1_:=Aside0.mk (Kd.R_below (by (with_reducible repeat (first|apply yH|apply yI|apply yJ));exact HO_623000.out) hb);have n2_:=Aside0.mk (Kd.R_below (by (with_reducible repeat (first|apply yH|apply yI|apply yJ));exact HO_630000.out) hb);have n3_:=Aside0.mk (Kd.R_below (by (with_reducible repeat (first|apply yH|apply yI|apply yJ));exact HO_637000.out) hb);have n4_:=Aside0.mk (blk_below (g:=gb621) (o:=.cells #[.slice Ao10 t611.length co10,.int .i64 t614,.int .i64 t615] 31 (0,0)) (by (with_reducible repeat (first|refine yE ?_ _|refine yF ?_|refine yG ?_ _));exact BK621.out) hb);have n5_:=Aside0.mk (blk_below (g:=gb622) (o:=.cells #[.slice Ao13 t616.length co13,.int .i64 t619,.int .i64 t620] 31 (0,0)) (by (with_reducible repeat (first|refine yE ?_ _|refine yF ?_|refine yG ?_ _));exact BK622.out) hb);have n6_:=Aside0.mk (blk_below (g:=gb629) (o:=.cells #[.slice Ao17 t623.length co17,.int .i64 t626,.int .i64 t627] 31 (0,0)) (by (with_reducible repeat (first|refine yE ?_ _|refine yF ?_|refine yG ?_ _));exact BK629.out) hb);have n7_:=Aside0.mk (blk_below (g:=gb636) (o:=.cells #[.slice Ao25 t630.length co25,.int .i64 t633,.int .i64 t634] 31 (0,0)) (by (with_reducible repeat (first|refine yE ?_ _|refine yF ?_|refine yG ?_ _));exact BK636.out) hb);have n8_:=Aside0.mk (yP (by repeat (first|(with_reducible first|exact HB.out|apply yA|apply yB|apply yC|refine yD ?_ GE621.out|refine yD ?_ GE622.out|refine yD ?_ GE629.out|refine yD ?_ GE636.out)|exact HB.out)) hb);clear HO_622000;clear HO_623000;clear HO_630000;clear HO_637000;clear BK621;clear BK622;clear BK629;clear BK636;clear HB;have HO_622000:=n0_;have HO_623000:=n1_;have HO_630000:=n2_;have HO_637000:=n3_;have BK621:=n4_;have BK622:=n5_;have BK629:=n6_;have BK636:=n7_;have HB:=n8_;clear n0_ n1_ n2_ n3_ n4_ n5_ n6_ n7_ n8_;(try clear hb);(try clear hb2);(try clear hk);(try clear hi)))
      go_ret
      exact ⟨by first|rfl|(simp [errW_none,errW_some]<;>rfl)|(simp [*,errW_none,errW_some]<;>rfl)|(simp [errW_none,errW_some];exact ⟨rfl,rfl⟩),by repeat (first|(with_reducible first|exact HB.out|apply yA|apply yB|apply yC|refine yD ?_ GE621.out|refine yD ?_ GE622.out|refine yD ?_ GE629.out|refine yD ?_ GE636.out)|exact HB.out)⟩
     ·replace c59:=Bool.eq_false_iff.mpr c59
      subst c59
      have H1:(some false)=some r:=by rw [if_neg (show ¬ (false=true) by decide)] at H;exact H
      clear H
      have H:=H1
      clear H1
      obtain rfl:=Option.some.inj H
      have hnb68:=NB629_621.out
      have hnc68:=NB621_629.out
      have hnb69:=NB629_622.out
      have hnc69:=NB622_629.out
      have hnb70:=NB629_636.out
      have hnc70:=NB636_629.out
      have hcz71_0:wc.cell? ⟨gb629,0,none⟩=some (.slice Ao17 t623.length co17):=(blk_cell BK629.out 0).trans rfl
      have hcz71_1:wc.cell? ⟨gb629,1,none⟩=some (.int .i64 t626):=(blk_cell BK629.out 1).trans rfl
      have hcz71_2:wc.cell? ⟨gb629,2,none⟩=some (.int .i64 t627):=(blk_cell BK629.out 2).trans rfl
      have hfz71_0:=blk_frozen BK629.out 0
      have hfz71_1:=blk_frozen BK629.out 1
      have hfz71_2:=blk_frozen BK629.out 2
      have hnb72:=NB636_621.out
      have hnc72:=NB621_636.out
      have hnb73:=NB636_622.out
      have hnc73:=NB622_636.out
      have hcz74_0:wc.cell? ⟨gb636,0,none⟩=some (.slice Ao25 t630.length co25):=(blk_cell BK636.out 0).trans rfl
      have hcz74_1:wc.cell? ⟨gb636,1,none⟩=some (.int .i64 t633):=(blk_cell BK636.out 1).trans rfl
      have hcz74_2:wc.cell? ⟨gb636,2,none⟩=some (.int .i64 t634):=(blk_cell BK636.out 2).trans rfl
      have hfz74_0:=blk_frozen BK636.out 0
      have hfz74_1:=blk_frozen BK636.out 1
      have hfz74_2:=blk_frozen BK636.out 2
      go_wp2_with (first|((with_reducible refine gate_callee (f:=23) rfl ?_);refine goesL_ (some 52) rfl rfl Try.func23 (by kernel_rfl) rfl #[.agg #[.slice Ao17 t623.length co17,.int .i64 t626,.int .i64 t627],.agg #[.slice Ao25 t630.length co25,.int .i64 t633,.int .i64 t634]] rfl (by (try simp only [List.map_toArray,List.map_cons,List.map_nil]);first|done|rfl|(simp only [List.length_drop,List.length_take];rfl)) ?_;(with_reducible refine (laws_sameMachine.calls kj5 _ _ t623 t626 t627 _ _ t630 t633 t634 false _ ?side1 ?side2 ?side3 ?side4 A58.out).mono ?_);(case side1=>repeat (first|exact (Kd.R_reads' HO_630000.out).2.2|(with_reducible refine Kd.C_alloc ?_ _)|(with_reducible refine Kd.C_drewN ?_ _)|(with_reducible refine Kd.C_drew ?_)));(case side2=>exact (Kd.R_reads' HO_630000.out).2.1);(case side3=>repeat (first|exact (Kd.R_reads' HO_637000.out).2.2|(with_reducible refine Kd.C_alloc ?_ _)|(with_reducible refine Kd.C_drewN ?_ _)|(with_reducible refine Kd.C_drew ?_)));(case side4=>exact (Kd.R_reads' HO_637000.out).2.1);rintro e w75 ⟨rfl,hb⟩;refine ⟨_,rfl,?_⟩;have n0_:=Aside0.mk (Kd.R_below (by (with_reducible repeat (first|apply yH|apply yI|apply yJ));exact HO_622000.out) hb);have n1_:=Aside0.mk (Kd.R_below (by (with_reducible repeat (first|apply yH|apply yI|apply yJ));exact HO_623000.out) hb);have n2_:=Aside0.mk (Kd.R_below (by (with_reducible repeat (first|apply yH|apply yI|apply yJ));exact HO_630000.out) hb);have n3_:=Aside0.mk (Kd.R_below (by (with_reducible repeat (first|apply yH|apply yI|apply yJ));exact HO_637000.out) hb);have n4_:=Aside0.mk (blk_below (g:=gb621) (o:=.cells #[.slice Ao10 t611.length co10,.int .i64 t614,.int .i64 t615] 31 (0,0)) (by (with_reducible repeat (first|refine yE ?_ _|refine yF ?_|refine yG ?_ _));exact BK621.out) hb);have n5_:=Aside0.mk (blk_below (g:=gb622) (o:=.cells #[.slice Ao13 t616.length co13,.int .i64 t619,.int .i64 t620] 31 (0,0)) (by (with_reducible repeat (first|refine yE ?_ _|refine yF ?_|refine yG ?_ _));exact BK622.out) hb);have n6_:=Aside0.mk (blk_below (g:=gb629) (o:=.cells #[.slice Ao17 t623.length co17,.int .i64 t626,.int .i64 t627] 31 (0,0)) (by (with_reducible repeat (first|refine yE ?_ _|refine yF ?_|refine yG ?_ _));exact BK629.out) hb);have n7_:=Aside0.mk (blk_below (g:=gb636) (o:=.cells #[.slice Ao25 t630.length co25,.int .i64 t633,.int .i64 t634] 31 (0,0)) (by (with_reducible repeat (first|refine yE ?_ _|refine yF ?_|refine yG ?_ _));exact BK636.out) hb);have n8_:=Aside0.mk (yP (by repeat (first|(with_reducible first|exact HB.out|apply yA|apply yB|apply yC|refine yD ?_ GE621.out|refine yD ?_ GE622.out|refine yD ?_ GE629.out|refine yD ?_ GE636.out)|exact HB.out)) hb);clear HO_622000;clear HO_623000;clear HO_630000;clear HO_637000;clear BK621;clear BK622;clear BK629;clear BK636;clear HB;have HO_622000:=n0_;have HO_623000:=n1_;have HO_630000:=n2_;have HO_637000:=n3_;have BK621:=n4_;have BK622:=n5_;have BK629:=n6_;have BK636:=n7_;have HB:=n8_;clear n0_ n1_ n2_ n3_ n4_ n5_ n6_ n7_ n8_;(try clear hb);(try clear hb2);(try clear hk);(try clear hi)))
      go_ret
      exact ⟨by first|rfl|(simp [errW_none,errW_some]<;>rfl)|(simp [*,errW_none,errW_some]<;>rfl)|(simp [errW_none,errW_some];exact ⟨rfl,rfl⟩),by repeat (first|(with_reducible first|exact HB.out|apply yA|apply yB|apply yC|refine yD ?_ GE621.out|refine yD ?_ GE622.out|refine yD ?_ GE629.out|refine yD ?_ GE636.out)|exact HB.out)⟩
    ·replace c57:=Bool.eq_false_iff.mpr c57
     subst c57
     have H1:((impl_MachSet.f t623 t626 t627).bind fun bt639=>((impl_MachSet.f t611 t614 t615).bind fun bt641=>((impl_MachSet.f t616 t619 t620).bind fun bt643=>((impl_MakeBoth.f bt641.1 bt643.1).bind fun bt645=>(if bt639.2=true then (if bt641.2=true then (if bt643.2=true then (if bt645.2=true then (some (bt639.1.toList == bt645.1.toList)) else (some true)) else (some true)) else (some true)) else (some true))))))=some r:=by rw [if_neg (show ¬ (false=true) by decide)] at H;exact H
     clear H
     have H:=H1
     clear H1
     replace H:=Option.bind_eq_some_iff.mp H
     obtain ⟨⟨t639,t640⟩,A760,H⟩:=H
     replace H:((impl_MachSet.f t611 t614 t615).bind fun bt641=>((impl_MachSet.f t616 t619 t620).bind fun bt643=>((impl_MakeBoth.f bt641.1 bt643.1).bind fun bt645=>(if t640=true then (if bt641.2=true then (if bt643.2=true then (if bt645.2=true then (some (t639.toList == bt645.1.toList)) else (some true)) else (some true)) else (some true)) else (some true)))))=some r:=H
     have A76:=Aside0.mk A760
     clear A760
     replace H:=Option.bind_eq_some_iff.mp H
     obtain ⟨⟨t641,t642⟩,A770,H⟩:=H
     replace H:((impl_MachSet.f t616 t619 t620).bind fun bt643=>((impl_MakeBoth.f t641 bt643.1).bind fun bt645=>(if t640=true then (if t642=true then (if bt643.2=true then (if bt645.2=true then (some (t639.toList == bt645.1.toList)) else (some true)) else (some true)) else (some true)) else (some true))))=some r:=H
     have A77:=Aside0.mk A770
     clear A770
     replace H:=Option.bind_eq_some_iff.mp H
     obtain ⟨⟨t643,t644⟩,A780,H⟩:=H
     replace H:((impl_MakeBoth.f t641 t643).bind fun bt645=>(if t640=true then (if t642=true then (if t644=true then (if bt645.2=true then (some (t639.toList == bt645.1.toList)) else (some true)) else (some true)) else (some true)) else (some true)))=some r:=H
     have A78:=Aside0.mk A780
     clear A780
     replace H:=Option.bind_eq_some_iff.mp H
     obtain ⟨⟨t645,t646⟩,A790,H⟩:=H
     replace H:(if t640=true then (if t642=true then (if t644=true then (if t646=true then (some (t639.toList == t645.toList)) else (some true)) else (some true)) else (some true)) else (some true))=some r:=H
     have A79:=Aside0.mk A790
     clear A790
     by_cases c80:t640=true
     ·subst c80
      have H1:(if t642=true then (if t644=true then (if t646=true then (some (t639.toList == t645.toList)) else (some true)) else (some true)) else (some true))=some r:=by rw [if_pos rfl] at H;exact H
      clear H
      have H:=H1
      clear H1
      by_cases c81:t642=true
      ·subst c81
       have H1:(if t644=true then (if t646=true then (some (t639.toList == t645.toList)) else (some true)) else (some true))=some r:=by rw [if_pos rfl] at H;exact H
       clear H
       have H:=H1
       clear H1
       by_cases c82:t644=true
       ·subst c82
        have H1:(if t646=true then (some (t639.toList == t645.toList)) else (some true))=some r:=by rw [if_pos rfl] at H;exact H
        clear H
        have H:=H1
        clear H1
        by_cases c83:t646=true
        ·subst c83
         have H1:(some (t639.toList == t645.toList))=some r:=by rw [if_pos rfl] at H;exact H
         clear H
         have H:=H1
         clear H1
         obtain rfl:=Option.some.inj H
         have hnb84:=NB629_621.out
         have hnc84:=NB621_629.out
         have hnb85:=NB629_622.out
         have hnc85:=NB622_629.out
         have hnb86:=NB629_636.out
         have hnc86:=NB636_629.out
         have hcz87_0:wc.cell? ⟨gb629,0,none⟩=some (.slice Ao17 t623.length co17):=(blk_cell BK629.out 0).trans rfl
         have hcz87_1:wc.cell? ⟨gb629,1,none⟩=some (.int .i64 t626):=(blk_cell BK629.out 1).trans rfl
         have hcz87_2:wc.cell? ⟨gb629,2,none⟩=some (.int .i64 t627):=(blk_cell BK629.out 2).trans rfl
         have hfz87_0:=blk_frozen BK629.out 0
         have hfz87_1:=blk_frozen BK629.out 1
         have hfz87_2:=blk_frozen BK629.out 2
         go_wp2_with (first|((with_reducible refine gate_callee (f:=18) rfl ?_);refine goesL_ (some 60) rfl rfl Try.func18 (by kernel_rfl) rfl #[.agg #[.slice Ao17 t623.length co17,.int .i64 t626,.int .i64 t627]] rfl (by (try simp only [List.map_toArray,List.map_cons,List.map_nil]);first|done|rfl|(simp only [List.length_drop,List.length_take];rfl)) ?_;(with_reducible refine (impl_MachSet.calls _ _ t623 t626 t627 t639 true _ ?side1 ?side2 A76.out).mono ?_);(case side1=>repeat (first|exact (Kd.R_reads' HO_630000.out).2.2|(with_reducible refine Kd.C_alloc ?_ _)|(with_reducible refine Kd.C_drewN ?_ _)|(with_reducible refine Kd.C_drew ?_)));(case side2=>exact (Kd.R_reads' HO_630000.out).2.1);rintro e w88 ⟨rfl,hb⟩;refine ⟨_,rfl,?_⟩;have n0_:=Aside0.mk (Kd.R_below (by (with_reducible repeat (first|apply yH|apply yI|apply yJ));exact HO_622000.out) hb);have n1_:=Aside0.mk (Kd.R_below (by (with_reducible repeat (first|apply yH|apply yI|apply yJ));exact HO_623000.out) hb);have n2_:=Aside0.mk (Kd.R_below (by (with_reducible repeat (first|apply yH|apply yI|apply yJ));exact HO_630000.out) hb);have n3_:=Aside0.mk (Kd.R_below (by (with_reducible repeat (first|apply yH|apply yI|apply yJ));exact HO_637000.out) hb);have n4_:=Aside0.mk (blk_below (g:=gb621) (o:=.cells #[.slice Ao10 t611.length co10,.int .i64 t614,.int .i64 t615] 31 (0,0)) (by (with_reducible repeat (first|refine yE ?_ _|refine yF ?_|refine yG ?_ _));exact BK621.out) hb);have n5_:=Aside0.mk (blk_below (g:=gb622) (o:=.cells #[.slice Ao13 t616.length co13,.int .i64 t619,.int .i64 t620] 31 (0,0)) (by (with_reducible repeat (first|refine yE ?_ _|refine yF ?_|refine yG ?_ _));exact BK622.out) hb);have n6_:=Aside0.mk (blk_below (g:=gb629) (o:=.cells #[.slice Ao17 t623.length co17,.int .i64 t626,.int .i64 t627] 31 (0,0)) (by (with_reducible repeat (first|refine yE ?_ _|refine yF ?_|refine yG ?_ _));exact BK629.out) hb);have n7_:=Aside0.mk (blk_below (g:=gb636) (o:=.cells #[.slice Ao25 t630.length co25,.int .i64 t633,.int .i64 t634] 31 (0,0)) (by (with_reducible repeat (first|refine yE ?_ _|refine yF ?_|refine yG ?_ _));exact BK636.out) hb);have n8_:=Aside0.mk (yP (by repeat (first|(with_reducible first|exact HB.out|apply yA|apply yB|apply yC|refine yD ?_ GE621.out|refine yD ?_ GE622.out|refine yD ?_ GE629.out|refine yD ?_ GE636.out)|exact HB.out)) hb);clear HO_622000;clear HO_623000;clear HO_630000;clear HO_637000;clear BK621;clear BK622;clear BK629;clear BK636;clear HB;have HO_622000:=n0_;have HO_623000:=n1_;have HO_630000:=n2_;have HO_637000:=n3_;have BK621:=n4_;have BK622:=n5_;have BK629:=n6_;have BK636:=n7_;have HB:=n8_;clear n0_ n1_ n2_ n3_ n4_ n5_ n6_ n7_ n8_;(try clear hb);(try clear hb2);(try clear hk);(try clear hi);have hnb89:=NB621_622.out;have hnc89:=NB622_621.out;have hnb90:=NB621_636.out;have hnc90:=NB636_621.out;have hcz91_0:w88.cell? ⟨gb621,0,none⟩=some (.slice Ao10 t611.length co10):=(blk_cell BK621.out 0).trans rfl;have hcz91_1:w88.cell? ⟨gb621,1,none⟩=some (.int .i64 t614):=(blk_cell BK621.out 1).trans rfl;have hcz91_2:w88.cell? ⟨gb621,2,none⟩=some (.int .i64 t615):=(blk_cell BK621.out 2).trans rfl;have hfz91_0:=blk_frozen BK621.out 0;have hfz91_1:=blk_frozen BK621.out 1;have hfz91_2:=blk_frozen BK621.out 2)|((with_reducible refine gate_callee (f:=18) rfl ?_);refine goesL_ (some 65) rfl rfl Try.func18 (by kernel_rfl) rfl #[.agg #[.slice Ao10 t611.length co10,.int .i64 t614,.int .i64 t615]] rfl (by (try simp only [List.map_toArray,List.map_cons,List.map_nil]);first|done|rfl|(simp only [List.length_drop,List.length_take];rfl)) ?_;(with_reducible refine (impl_MachSet.calls _ _ t611 t614 t615 t641 true _ ?side1 ?side2 A77.out).mono ?_);(case side1=>repeat (first|exact (Kd.R_reads' HO_622000.out).2.2|(with_reducible refine Kd.C_alloc ?_ _)|(with_reducible refine Kd.C_drewN ?_ _)|(with_reducible refine Kd.C_drew ?_)));(case side2=>exact (Kd.R_reads' HO_622000.out).2.1);rintro e w92 ⟨rfl,hb⟩;refine ⟨_,rfl,?_⟩;have n0_:=Aside0.mk (Kd.R_below (by (with_reducible repeat (first|apply yH|apply yI|apply yJ));exact HO_622000.out) hb);have n1_:=Aside0.mk (Kd.R_below (by (with_reducible repeat (first|apply yH|apply yI|apply yJ));exact HO_623000.out) hb);have n2_:=Aside0.mk (Kd.R_below (by (with_reducible repeat (first|apply yH|apply yI|apply yJ));exact HO_630000.out) hb);have n3_:=Aside0.mk (Kd.R_below (by (with_reducible repeat (first|apply yH|apply yI|apply yJ));exact HO_637000.out) hb);have n4_:=Aside0.mk (blk_below (g:=gb621) (o:=.cells #[.slice Ao10 t611.length co10,.int .i64 t614,.int .i64 t615] 31 (0,0)) (by (with_reducible repeat (first|refine yE ?_ _|refine yF ?_|refine yG ?_ _));exact BK621.out) hb);have n5_:=Aside0.mk (blk_below (g:=gb622) (o:=.cells #[.slice Ao13 t616.length co13,.int .i64 t619,.int .i64 t620] 31 (0,0)) (by (with_reducible repeat (first|refine yE ?_ _|refine yF ?_|refine yG ?_ _));exact BK622.out) hb);have n6_:=Aside0.mk (blk_below (g:=gb629) (o:=.cells #[.slice Ao17 t623.length co17,.int .i64 t626,.int .i64 t627] 31 (0,0)) (by (with_reducible repeat (first|refine yE ?_ _|refine yF ?_|refine yG ?_ _));exact BK629.out) hb);have n7_:=Aside0.mk (blk_below (g:=gb636) (o:=.cells #[.slice Ao25 t630.length co25,.int .i64 t633,.int .i64 t634] 31 (0,0)) (by (with_reducible repeat (first|refine yE ?_ _|refine yF ?_|refine yG ?_ _));exact BK636.out) hb);have n8_:=Aside0.mk (yP (by repeat (first|(with_reducible first|exact HB.out|apply yA|apply yB|apply yC|refine yD ?_ GE621.out|refine yD ?_ GE622.out|refine yD ?_ GE629.out|refine yD ?_ GE636.out)|exact HB.out)) hb);clear HO_622000;clear HO_623000;clear HO_630000;clear HO_637000;clear BK621;clear BK622;clear BK629;clear BK636;clear HB;have HO_622000:=n0_;have HO_623000:=n1_;have HO_630000:=n2_;have HO_637000:=n3_;have BK621:=n4_;have BK622:=n5_;have BK629:=n6_;have BK636:=n7_;have HB:=n8_;clear n0_ n1_ n2_ n3_ n4_ n5_ n6_ n7_ n8_;(try clear hb);(try clear hb2);(try clear hk);(try clear hi);have hnb93:=NB622_636.out;have hnc93:=NB636_622.out;have hcz94_0:w92.cell? ⟨gb622,0,none⟩=some (.slice Ao13 t616.length co13):=(blk_cell BK622.out 0).trans rfl;have hcz94_1:w92.cell? ⟨gb622,1,none⟩=some (.int .i64 t619):=(blk_cell BK622.out 1).trans rfl;have hcz94_2:w92.cell? ⟨gb622,2,none⟩=some (.int .i64 t620):=(blk_cell BK622.out 2).trans rfl;have hfz94_0:=blk_frozen BK622.out 0;have hfz94_1:=blk_frozen BK622.out 1;have hfz94_2:=blk_frozen BK622.out 2)|((with_reducible refine gate_callee (f:=18) rfl ?_);refine goesL_ (some 70) rfl rfl Try.func18 (by kernel_rfl) rfl #[.agg #[.slice Ao13 t616.length co13,.int .i64 t619,.int .i64 t620]] rfl (by (try simp only [List.map_toArray,List.map_cons,List.map_nil]);first|done|rfl|(simp only [List.length_drop,List.length_take];rfl)) ?_;(with_reducible refine (impl_MachSet.calls _ _ t616 t619 t620 t643 true _ ?side1 ?side2 A78.out).mono ?_);(case side1=>repeat (first|exact (Kd.R_reads' HO_623000.out).2.2|(with_reducible refine Kd.C_alloc ?_ _)|(with_reducible refine Kd.C_drewN ?_ _)|(with_reducible refine Kd.C_drew ?_)));(case side2=>exact (Kd.R_reads' HO_623000.out).2.1);rintro e w95 ⟨rfl,hb⟩;refine ⟨_,rfl,?_⟩;have n0_:=Aside0.mk (Kd.R_below (by (with_reducible repeat (first|apply yH|apply yI|apply yJ));exact HO_622000.out) hb);have n1_:=Aside0.mk (Kd.R_below (by (with_reducible repeat (first|apply yH|apply yI|apply yJ));exact HO_623000.out) hb);have n2_:=Aside0.mk (Kd.R_below (by (with_reducible repeat (first|apply yH|apply yI|apply yJ));exact HO_630000.out) hb);have n3_:=Aside0.mk (Kd.R_below (by (with_reducible repeat (first|apply yH|apply yI|apply yJ));exact HO_637000.out) hb);have n4_:=Aside0.mk (blk_below (g:=gb621) (o:=.cells #[.slice Ao10 t611.length co10,.int .i64 t614,.int .i64 t615] 31 (0,0)) (by (with_reducible repeat (first|refine yE ?_ _|refine yF ?_|refine yG ?_ _));exact BK621.out) hb);have n5_:=Aside0.mk (blk_below (g:=gb622) (o:=.cells #[.slice Ao13 t616.length co13,.int .i64 t619,.int .i64 t620] 31 (0,0)) (by (with_reducible repeat (first|refine yE ?_ _|refine yF ?_|refine yG ?_ _));exact BK622.out) hb);have n6_:=Aside0.mk (blk_below (g:=gb629) (o:=.cells #[.slice Ao17 t623.length co17,.int .i64 t626,.int .i64 t627] 31 (0,0)) (by (with_reducible repeat (first|refine yE ?_ _|refine yF ?_|refine yG ?_ _));exact BK629.out) hb);have n7_:=Aside0.mk (blk_below (g:=gb636) (o:=.cells #[.slice Ao25 t630.length co25,.int .i64 t633,.int .i64 t634] 31 (0,0)) (by (with_reducible repeat (first|refine yE ?_ _|refine yF ?_|refine yG ?_ _));exact BK636.out) hb);have n8_:=Aside0.mk (yP (by repeat (first|(with_reducible first|exact HB.out|apply yA|apply yB|apply yC|refine yD ?_ GE621.out|refine yD ?_ GE622.out|refine yD ?_ GE629.out|refine yD ?_ GE636.out)|exact HB.out)) hb);clear HO_622000;clear HO_623000;clear HO_630000;clear HO_637000;clear BK621;clear BK622;clear BK629;clear BK636;clear HB;have HO_622000:=n0_;have HO_623000:=n1_;have HO_630000:=n2_;have HO_637000:=n3_;have BK621:=n4_;have BK622:=n5_;have BK629:=n6_;have BK636:=n7_;have HB:=n8_;clear n0_ n1_ n2_ n3_ n4_ n5_ n6_ n7_ n8_;(try clear hb);(try clear hb2);(try clear hk);(try clear hi))|((with_reducible refine gate_callee (f:=24) rfl ?_);refine goesL_ (some 76) rfl rfl Try.func24 (by kernel_rfl) rfl #[.string t641,.string t643] rfl (by (try simp only [List.map_toArray,List.map_cons,List.map_nil]);first|done|rfl|(simp only [List.length_drop,List.length_take];rfl)) ?_;(with_reducible refine (impl_MakeBoth.calls t641 t643 t645 true _ A79.out).mono ?_);rintro e w96 ⟨rfl,hb⟩;refine ⟨_,rfl,?_⟩;have n0_:=Aside0.mk (Kd.R_below (by (with_reducible repeat (first|apply yH|apply yI|apply yJ));exact HO_622000.out) hb);have n1_:=Aside0.mk (Kd.R_below (by (with_reducible repeat (first|apply yH|apply yI|apply yJ));exact HO_623000.out) hb);have n2_:=Aside0.mk (Kd.R_below (by (with_reducible repeat (first|apply yH|apply yI|apply yJ));exact HO_630000.out) hb);have n3_:=Aside0.mk (Kd.R_below (by (with_reducible repeat (first|apply yH|apply yI|apply yJ));exact HO_637000.out) hb);have n4_:=Aside0.mk (blk_below (g:=gb621) (o:=.cells #[.slice Ao10 t611.length co10,.int .i64 t614,.int .i64 t615] 31 (0,0)) (by (with_reducible repeat (first|refine yE ?_ _|refine yF ?_|refine yG ?_ _));exact BK621.out) hb);have n5_:=Aside0.mk (blk_below (g:=gb622) (o:=.cells #[.slice Ao13 t616.length co13,.int .i64 t619,.int .i64 t620] 31 (0,0)) (by (with_reducible repeat (first|refine yE ?_ _|refine yF ?_|refine yG ?_ _));exact BK622.out) hb);have n6_:=Aside0.mk (blk_below (g:=gb629) (o:=.cells #[.slice Ao17 t623.length co17,.int .i64 t626,.int .i64 t627] 31 (0,0)) (by (with_reducible repeat (first|refine yE ?_ _|refine yF ?_|refine yG ?_ _));exact BK629.out) hb);have n7_:=Aside0.mk (blk_below (g:=gb636) (o:=.cells #[.slice Ao25 t630.length co25,.int .i64 t633,.int .i64 t634] 31 (0,0)) (by (with_reducible repeat (first|refine yE ?_ _|refine yF ?_|refine yG ?_ _));exact BK636.out) hb);have n8_:=Aside0.mk (yP (by repeat (first|(with_reducible first|exact HB.out|apply yA|apply yB|apply yC|refine yD ?_ GE621.out|refine yD ?_ GE622.out|refine yD ?_ GE629.out|refine yD ?_ GE636.out)|exact HB.out)) hb);clear HO_622000;clear HO_623000;clear HO_630000;clear HO_637000;clear BK621;clear BK622;clear BK629;clear BK636;clear HB;have HO_622000:=n0_;have HO_623000:=n1_;have HO_630000:=n2_;have HO_637000:=n3_;have BK621:=n4_;have BK622:=n5_;have BK629:=n6_;have BK636:=n7_;have HB:=n8_;clear n0_ n1_ n2_ n3_ n4_ n5_ n6_ n7_ n8_;(try clear hb);(try clear hb2);(try clear hk);(try clear hi)))
         go_ret
         exact ⟨by first|rfl|(simp [errW_none,errW_some]<;>rfl)|(simp [*,errW_none,errW_some]<;>rfl)|(simp [errW_none,errW_some];exact ⟨rfl,rfl⟩),by repeat (first|(with_reducible first|exact HB.out|apply yA|apply yB|apply yC|refine yD ?_ GE621.out|refine yD ?_ GE622.out|refine yD ?_ GE629.out|refine yD ?_ GE636.out)|exact HB.out)⟩
        ·replace c83:=Bool.eq_false_iff.mpr c83
         subst c83
         have H1:(some true)=some r:=by rw [if_neg (show ¬ (false=true) by decide)] at H;exact H
         clear H
         have H:=H1
         clear H1
         obtain rfl:=Option.some.inj H
         have hnb97:=NB629_621.out
         have hnc97:=NB621_629.out
         have hnb98:=NB629_622.out
         have hnc98:=NB622_629.out
         have hnb99:=NB629_636.out
         have hnc99:=NB636_629.out
         have hcz100_0:wc.cell? ⟨gb629,0,none⟩=some (.slice Ao17 t623.length co17):=(blk_cell BK629.out 0).trans rfl
         have hcz100_1:wc.cell? ⟨gb629,1,none⟩=some (.int .i64 t626):=(blk_cell BK629.out 1).trans rfl
         have hcz100_2:wc.cell? ⟨gb629,2,none⟩=some (.int .i64 t627):=(blk_cell BK629.out 2).trans rfl
         have hfz100_0:=blk_frozen BK629.out 0
         have hfz100_1:=blk_frozen BK629.out 1
         have hfz100_2:=blk_frozen BK629.out 2
         go_wp2_with (first|((with_reducible refine gate_callee (f:=18) rfl ?_);refine goesL_ (some 60) rfl rfl Try.func18 (by kernel_rfl) rfl #[.agg #[.slice Ao17 t623.length co17,.int .i64 t626,.int .i64 t627]] rfl (by (try simp only [List.map_toArray,List.map_cons,List.map_nil]);first|done|rfl|(simp only [List.length_drop,List.length_take];rfl)) ?_;(with_reducible refine (impl_MachSet.calls _ _ t623 t626 t627 t639 true _ ?side1 ?side2 A76.out).mono ?_);(case side1=>repeat (first|exact (Kd.R_reads' HO_630000.out).2.2|(with_reducible refine Kd.C_alloc ?_ _)|(with_reducible refine Kd.C_drewN ?_ _)|(with_reducible refine Kd.C_drew ?_)));(case side2=>exact (Kd.R_reads' HO_630000.out).2.1);rintro e w101 ⟨rfl,hb⟩;refine ⟨_,rfl,?_⟩;have n0_:=Aside0.mk (Kd.R_below (by (with_reducible repeat (first|apply yH|apply yI|apply yJ));exact HO_622000.out) hb);have n1_:=Aside0.mk (Kd.R_below (by (with_reducible repeat (first|apply yH|apply yI|apply yJ));exact HO_623000.out) hb);have n2_:=Aside0.mk (Kd.R_below (by (with_reducible repeat (first|apply yH|apply yI|apply yJ));exact HO_630000.out) hb);have n3_:=Aside0.mk (Kd.R_below (by (with_reducible repeat (first|apply yH|apply yI|apply yJ));exact HO_637000.out) hb);have n4_:=Aside0.mk (blk_below (g:=gb621) (o:=.cells #[.slice Ao10 t611.length co10,.int .i64 t614,.int .i64 t615] 31 (0,0)) (by (with_reducible repeat (first|refine yE ?_ _|refine yF ?_|refine yG ?_ _));exact BK621.out) hb);have n5_:=Aside0.mk (blk_below (g:=gb622) (o:=.cells #[.slice Ao13 t616.length co13,.int .i64 t619,.int .i64 t620] 31 (0,0)) (by (with_reducible repeat (first|refine yE ?_ _|refine yF ?_|refine yG ?_ _));exact BK622.out) hb);have n6_:=Aside0.mk (blk_below (g:=gb629) (o:=.cells #[.slice Ao17 t623.length co17,.int .i64 t626,.int .i64 t627] 31 (0,0)) (by (with_reducible repeat (first|refine yE ?_ _|refine yF ?_|refine yG ?_ _));exact BK629.out) hb);have n7_:=Aside0.mk (blk_below (g:=gb636) (o:=.cells #[.slice Ao25 t630.length co25,.int .i64 t633,.int .i64 t634] 31 (0,0)) (by (with_reducible repeat (first|refine yE ?_ _|refine yF ?_|refine yG ?_ _));exact BK636.out) hb);have n8_:=Aside0.mk (yP (by repeat (first|(with_reducible first|exact HB.out|apply yA|apply yB|apply yC|refine yD ?_ GE621.out|refine yD ?_ GE622.out|refine yD ?_ GE629.out|refine yD ?_ GE636.out)|exact HB.out)) hb);clear HO_622000;clear HO_623000;clear HO_630000;clear HO_637000;clear BK621;clear BK622;clear BK629;clear BK636;clear HB;have HO_622000:=n0_;have HO_623000:=n1_;have HO_630000:=n2_;have HO_637000:=n3_;have BK621:=n4_;have BK622:=n5_;have BK629:=n6_;have BK636:=n7_;have HB:=n8_;clear n0_ n1_ n2_ n3_ n4_ n5_ n6_ n7_ n8_;(try clear hb);(try clear hb2);(try clear hk);(try clear hi);have hnb102:=NB621_622.out;have hnc102:=NB622_621.out;have hnb103:=NB621_636.out;have hnc103:=NB636_621.out;have hcz104_0:w101.cell? ⟨gb621,0,none⟩=some (.slice Ao10 t611.length co10):=(blk_cell BK621.out 0).trans rfl;have hcz104_1:w101.cell? ⟨gb621,1,none⟩=some (.int .i64 t614):=(blk_cell BK621.out 1).trans rfl;have hcz104_2:w101.cell? ⟨gb621,2,none⟩=some (.int .i64 t615):=(blk_cell BK621.out 2).trans rfl;have hfz104_0:=blk_frozen BK621.out 0;have hfz104_1:=blk_frozen BK621.out 1;have hfz104_2:=blk_frozen BK621.out 2)|((with_reducible refine gate_callee (f:=18) rfl ?_);refine goesL_ (some 65) rfl rfl Try.func18 (by kernel_rfl) rfl #[.agg #[.slice Ao10 t611.length co10,.int .i64 t614,.int .i64 t615]] rfl (by (try simp only [List.map_toArray,List.map_cons,List.map_nil]);first|done|rfl|(simp only [List.length_drop,List.length_take];rfl)) ?_;(with_reducible refine (impl_MachSet.calls _ _ t611 t614 t615 t641 true _ ?side1 ?side2 A77.out).mono ?_);(case side1=>repeat (first|exact (Kd.R_reads' HO_622000.out).2.2|(with_reducible refine Kd.C_alloc ?_ _)|(with_reducible refine Kd.C_drewN ?_ _)|(with_reducible refine Kd.C_drew ?_)));(case side2=>exact (Kd.R_reads' HO_622000.out).2.1);rintro e w105 ⟨rfl,hb⟩;refine ⟨_,rfl,?_⟩;have n0_:=Aside0.mk (Kd.R_below (by (with_reducible repeat (first|apply yH|apply yI|apply yJ));exact HO_622000.out) hb);have n1_:=Aside0.mk (Kd.R_below (by (with_reducible repeat (first|apply yH|apply yI|apply yJ));exact HO_623000.out) hb);have n2_:=Aside0.mk (Kd.R_below (by (with_reducible repeat (first|apply yH|apply yI|apply yJ));exact HO_630000.out) hb);have n3_:=Aside0.mk (Kd.R_below (by (with_reducible repeat (first|apply yH|apply yI|apply yJ));exact HO_637000.out) hb);have n4_:=Aside0.mk (blk_below (g:=gb621) (o:=.cells #[.slice Ao10 t611.length co10,.int .i64 t614,.int .i64 t615] 31 (0,0)) (by (with_reducible repeat (first|refine yE ?_ _|refine yF ?_|refine yG ?_ _));exact BK621.out) hb);have n5_:=Aside0.mk (blk_below (g:=gb622) (o:=.cells #[.slice Ao13 t616.length co13,.int .i64 t619,.int .i64 t620] 31 (0,0)) (by (with_reducible repeat (first|refine yE ?_ _|refine yF ?_|refine yG ?_ _));exact BK622.out) hb);have n6_:=Aside0.mk (blk_below (g:=gb629) (o:=.cells #[.slice Ao17 t623.length co17,.int .i64 t626,.int .i64 t627] 31 (0,0)) (by (with_reducible repeat (first|refine yE ?_ _|refine yF ?_|refine yG ?_ _));exact BK629.out) hb);have n7_:=Aside0.mk (blk_below (g:=gb636) (o:=.cells #[.slice Ao25 t630.length co25,.int .i64 t633,.int .i64 t634] 31 (0,0)) (by (with_reducible repeat (first|refine yE ?_ _|refine yF ?_|refine yG ?_ _));exact BK636.out) hb);have n8_:=Aside0.mk (yP (by repeat (first|(with_reducible first|exact HB.out|apply yA|apply yB|apply yC|refine yD ?_ GE621.out|refine yD ?_ GE622.out|refine yD ?_ GE629.out|refine yD ?_ GE636.out)|exact HB.out)) hb);clear HO_622000;clear HO_623000;clear HO_630000;clear HO_637000;clear BK621;clear BK622;clear BK629;clear BK636;clear HB;have HO_622000:=n0_;have HO_623000:=n1_;have HO_630000:=n2_;have HO_637000:=n3_;have BK621:=n4_;have BK622:=n5_;have BK629:=n6_;have BK636:=n7_;have HB:=n8_;clear n0_ n1_ n2_ n3_ n4_ n5_ n6_ n7_ n8_;(try clear hb);(try clear hb2);(try clear hk);(try clear hi);have hnb106:=NB622_636.out;have hnc106:=NB636_622.out;have hcz107_0:w105.cell? ⟨gb622,0,none⟩=some (.slice Ao13 t616.length co13):=(blk_cell BK622.out 0).trans rfl;have hcz107_1:w105.cell? ⟨gb622,1,none⟩=some (.int .i64 t619):=(blk_cell BK622.out 1).trans rfl;have hcz107_2:w105.cell? ⟨gb622,2,none⟩=some (.int .i64 t620):=(blk_cell BK622.out 2).trans rfl;have hfz107_0:=blk_frozen BK622.out 0;have hfz107_1:=blk_frozen BK622.out 1;have hfz107_2:=blk_frozen BK622.out 2)|((with_reducible refine gate_callee (f:=18) rfl ?_);refine goesL_ (some 70) rfl rfl Try.func18 (by kernel_rfl) rfl #[.agg #[.slice Ao13 t616.length co13,.int .i64 t619,.int .i64 t620]] rfl (by (try simp only [List.map_toArray,List.map_cons,List.map_nil]);first|done|rfl|(simp only [List.length_drop,List.length_take];rfl)) ?_;(with_reducible refine (impl_MachSet.calls _ _ t616 t619 t620 t643 true _ ?side1 ?side2 A78.out).mono ?_);(case side1=>repeat (first|exact (Kd.R_reads' HO_623000.out).2.2|(with_reducible refine Kd.C_alloc ?_ _)|(with_reducible refine Kd.C_drewN ?_ _)|(with_reducible refine Kd.C_drew ?_)));(case side2=>exact (Kd.R_reads' HO_623000.out).2.1);rintro e w108 ⟨rfl,hb⟩;refine ⟨_,rfl,?_⟩;have n0_:=Aside0.mk (Kd.R_below (by (with_reducible repeat (first|apply yH|apply yI|apply yJ));exact HO_622000.out) hb);have n1_:=Aside0.mk (Kd.R_below (by (with_reducible repeat (first|apply yH|apply yI|apply yJ));exact HO_623000.out) hb);have n2_:=Aside0.mk (Kd.R_below (by (with_reducible repeat (first|apply yH|apply yI|apply yJ));exact HO_630000.out) hb);have n3_:=Aside0.mk (Kd.R_below (by (with_reducible repeat (first|apply yH|apply yI|apply yJ));exact HO_637000.out) hb);have n4_:=Aside0.mk (blk_below (g:=gb621) (o:=.cells #[.slice Ao10 t611.length co10,.int .i64 t614,.int .i64 t615] 31 (0,0)) (by (with_reducible repeat (first|refine yE ?_ _|refine yF ?_|refine yG ?_ _));exact BK621.out) hb);have n5_:=Aside0.mk (blk_below (g:=gb622) (o:=.cells #[.slice Ao13 t616.length co13,.int .i64 t619,.int .i64 t620] 31 (0,0)) (by (with_reducible repeat (first|refine yE ?_ _|refine yF ?_|refine yG ?_ _));exact BK622.out) hb);have n6_:=Aside0.mk (blk_below (g:=gb629) (o:=.cells #[.slice Ao17 t623.length co17,.int .i64 t626,.int .i64 t627] 31 (0,0)) (by (with_reducible repeat (first|refine yE ?_ _|refine yF ?_|refine yG ?_ _));exact BK629.out) hb);have n7_:=Aside0.mk (blk_below (g:=gb636) (o:=.cells #[.slice Ao25 t630.length co25,.int .i64 t633,.int .i64 t634] 31 (0,0)) (by (with_reducible repeat (first|refine yE ?_ _|refine yF ?_|refine yG ?_ _));exact BK636.out) hb);have n8_:=Aside0.mk (yP (by repeat (first|(with_reducible first|exact HB.out|apply yA|apply yB|apply yC|refine yD ?_ GE621.out|refine yD ?_ GE622.out|refine yD ?_ GE629.out|refine yD ?_ GE636.out)|exact HB.out)) hb);clear HO_622000;clear HO_623000;clear HO_630000;clear HO_637000;clear BK621;clear BK622;clear BK629;clear BK636;clear HB;have HO_622000:=n0_;have HO_623000:=n1_;have HO_630000:=n2_;have HO_637000:=n3_;have BK621:=n4_;have BK622:=n5_;have BK629:=n6_;have BK636:=n7_;have HB:=n8_;clear n0_ n1_ n2_ n3_ n4_ n5_ n6_ n7_ n8_;(try clear hb);(try clear hb2);(try clear hk);(try clear hi))|((with_reducible refine gate_callee (f:=24) rfl ?_);refine goesL_ (some 76) rfl rfl Try.func24 (by kernel_rfl) rfl #[.string t641,.string t643] rfl (by (try simp only [List.map_toArray,List.map_cons,List.map_nil]);first|done|rfl|(simp only [List.length_drop,List.length_take];rfl)) ?_;(with_reducible refine (impl_MakeBoth.calls t641 t643 t645 false _ A79.out).mono ?_);rintro e w109 ⟨rfl,hb⟩;refine ⟨_,rfl,?_⟩;have n0_:=Aside0.mk (Kd.R_below (by (with_reducible repeat (first|apply yH|apply yI|apply yJ));exact HO_622000.out) hb);have n1_:=Aside0.mk (Kd.R_below (by (with_reducible repeat (first|apply yH|apply yI|apply yJ));exact HO_623000.out) hb);have n2_:=Aside0.mk (Kd.R_below (by (with_reducible repeat (first|apply yH|apply yI|apply yJ));exact HO_630000.out) hb);have n3_:=Aside0.mk (Kd.R_below (by (with_reducible repeat (first|apply yH|apply yI|apply yJ));exact HO_637000.out) hb);have n4_:=Aside0.mk (blk_below (g:=gb621) (o:=.cells #[.slice Ao10 t611.length co10,.int .i64 t614,.int .i64 t615] 31 (0,0)) (by (with_reducible repeat (first|refine yE ?_ _|refine yF ?_|refine yG ?_ _));exact BK621.out) hb);have n5_:=Aside0.mk (blk_below (g:=gb622) (o:=.cells #[.slice Ao13 t616.length co13,.int .i64 t619,.int .i64 t620] 31 (0,0)) (by (with_reducible repeat (first|refine yE ?_ _|refine yF ?_|refine yG ?_ _));exact BK622.out) hb);have n6_:=Aside0.mk (blk_below (g:=gb629) (o:=.cells #[.slice Ao17 t623.length co17,.int .i64 t626,.int .i64 t627] 31 (0,0)) (by (with_reducible repeat (first|refine yE ?_ _|refine yF ?_|refine yG ?_ _));exact BK629.out) hb);have n7_:=Aside0.mk (blk_below (g:=gb636) (o:=.cells #[.slice Ao25 t630.length co25,.int .i64 t633,.int .i64 t634] 31 (0,0)) (by (with_reducible repeat (first|refine yE ?_ _|refine yF ?_|refine yG ?_ _));exact BK636.out) hb);have n8_:=Aside0.mk (yP (by repeat (first|(with_reducible first|exact HB.out|apply yA|apply yB|apply yC|refine yD ?_ GE621.out|refine yD ?_ GE622.out|refine yD ?_ GE629.out|refine yD ?_ GE636.out)|exact HB.out)) hb);clear HO_622000;clear HO_623000;clear HO_630000;clear HO_637000;clear BK621;clear BK622;clear BK629;clear BK636;clear HB;have HO_622000:=n0_;have HO_623000:=n1_;have HO_630000:=n2_;have HO_637000:=n3_;have BK621:=n4_;have BK622:=n5_;have BK629:=n6_;have BK636:=n7_;have HB:=n8_;clear n0_ n1_ n2_ n3_ n4_ n5_ n6_ n7_ n8_;(try clear hb);(try clear hb2);(try clear hk);(try clear hi)))
         go_ret
         exact ⟨by first|rfl|(simp [errW_none,errW_some]<;>rfl)|(simp [*,errW_none,errW_some]<;>rfl)|(simp [errW_none,errW_some];exact ⟨rfl,rfl⟩),by repeat (first|(with_reducible first|exact HB.out|apply yA|apply yB|apply yC|refine yD ?_ GE621.out|refine yD ?_ GE622.out|refine yD ?_ GE629.out|refine yD ?_ GE636.out)|exact HB.out)⟩
       ·replace c82:=Bool.eq_false_iff.mpr c82
        subst c82
        have H1:(some true)=some r:=by rw [if_neg (show ¬ (false=true) by decide)] at H;exact H
        clear H
        have H:=H1
        clear H1
        obtain rfl:=Option.some.inj H
        have hnb110:=NB629_621.out
        have hnc110:=NB621_629.out
        have hnb111:=NB629_622.out
        have hnc111:=NB622_629.out
        have hnb112:=NB629_636.out
        have hnc112:=NB636_629.out
        have hcz113_0:wc.cell? ⟨gb629,0,none⟩=some (.slice Ao17 t623.length co17):=(blk_cell BK629.out 0).trans rfl
        have hcz113_1:wc.cell? ⟨gb629,1,none⟩=some (.int .i64 t626):=(blk_cell BK629.out 1).trans rfl
        have hcz113_2:wc.cell? ⟨gb629,2,none⟩=some (.int .i64 t627):=(blk_cell BK629.out 2).trans rfl
        have hfz113_0:=blk_frozen BK629.out 0
        have hfz113_1:=blk_frozen BK629.out 1
        have hfz113_2:=blk_frozen BK629.out 2
        go_wp2_with (first|((with_reducible refine gate_callee (f:=18) rfl ?_);refine goesL_ (some 60) rfl rfl Try.func18 (by kernel_rfl) rfl #[.agg #[.slice Ao17 t623.length co17,.int .i64 t626,.int .i64 t627]] rfl (by (try simp only [List.map_toArray,List.map_cons,List.map_nil]);first|done|rfl|(simp only [List.length_drop,List.length_take];rfl)) ?_;(with_reducible refine (impl_MachSet.calls _ _ t623 t626 t627 t639 true _ ?side1 ?side2 A76.out).mono ?_);(case side1=>repeat (first|exact (Kd.R_reads' HO_630000.out).2.2|(with_reducible refine Kd.C_alloc ?_ _)|(with_reducible refine Kd.C_drewN ?_ _)|(with_reducible refine Kd.C_drew ?_)));(case side2=>exact (Kd.R_reads' HO_630000.out).2.1);rintro e w114 ⟨rfl,hb⟩;refine ⟨_,rfl,?_⟩;have n0_:=Aside0.mk (Kd.R_below (by (with_reducible repeat (first|apply yH|apply yI|apply yJ));exact HO_622000.out) hb);have n1_:=Aside0.mk (Kd.R_below (by (with_reducible repeat (first|apply yH|apply yI|apply yJ));exact HO_623000.out) hb);have n2_:=Aside0.mk (Kd.R_below (by (with_reducible repeat (first|apply yH|apply yI|apply yJ));exact HO_630000.out) hb);have n3_:=Aside0.mk (Kd.R_below (by (with_reducible repeat (first|apply yH|apply yI|apply yJ));exact HO_637000.out) hb);have n4_:=Aside0.mk (blk_below (g:=gb621) (o:=.cells #[.slice Ao10 t611.length co10,.int .i64 t614,.int .i64 t615] 31 (0,0)) (by (with_reducible repeat (first|refine yE ?_ _|refine yF ?_|refine yG ?_ _));exact BK621.out) hb);have n5_:=Aside0.mk (blk_below (g:=gb622) (o:=.cells #[.slice Ao13 t616.length co13,.int .i64 t619,.int .i64 t620] 31 (0,0)) (by (with_reducible repeat (first|refine yE ?_ _|refine yF ?_|refine yG ?_ _));exact BK622.out) hb);have n6_:=Aside0.mk (blk_below (g:=gb629) (o:=.cells #[.slice Ao17 t623.length co17,.int .i64 t626,.int .i64 t627] 31 (0,0)) (by (with_reducible repeat (first|refine yE ?_ _|refine yF ?_|refine yG ?_ _));exact BK629.out) hb);have n7_:=Aside0.mk (blk_below (g:=gb636) (o:=.cells #[.slice Ao25 t630.length co25,.int .i64 t633,.int .i64 t634] 31 (0,0)) (by (with_reducible repeat (first|refine yE ?_ _|refine yF ?_|refine yG ?_ _));exact BK636.out) hb);have n8_:=Aside0.mk (yP (by repeat (first|(with_reducible first|exact HB.out|apply yA|apply yB|apply yC|refine yD ?_ GE621.out|refine yD ?_ GE622.out|refine yD ?_ GE629.out|refine yD ?_ GE636.out)|exact HB.out)) hb);clear HO_622000;clear HO_623000;clear HO_630000;clear HO_637000;clear BK621;clear BK622;clear BK629;clear BK636;clear HB;have HO_622000:=n0_;have HO_623000:=n1_;have HO_630000:=n2_;have HO_637000:=n3_;have BK621:=n4_;have BK622:=n5_;have BK629:=n6_;have BK636:=n7_;have HB:=n8_;clear n0_ n1_ n2_ n3_ n4_ n5_ n6_ n7_ n8_;(try clear hb);(try clear hb2);(try clear hk);(try clear hi);have hnb115:=NB621_622.out;have hnc115:=NB622_621.out;have hnb116:=NB621_636.out;have hnc116:=NB636_621.out;have hcz117_0:w114.cell? ⟨gb621,0,none⟩=some (.slice Ao10 t611.length co10):=(blk_cell BK621.out 0).trans rfl;have hcz117_1:w114.cell? ⟨gb621,1,none⟩=some (.int .i64 t614):=(blk_cell BK621.out 1).trans rfl;have hcz117_2:w114.cell? ⟨gb621,2,none⟩=some (.int .i64 t615):=(blk_cell BK621.out 2).trans rfl;have hfz117_0:=blk_frozen BK621.out 0;have hfz117_1:=blk_frozen BK621.out 1;have hfz117_2:=blk_frozen BK621.out 2)|((with_reducible refine gate_callee (f:=18) rfl ?_);refine goesL_ (some 65) rfl rfl Try.func18 (by kernel_rfl) rfl #[.agg #[.slice Ao10 t611.length co10,.int .i64 t614,.int .i64 t615]] rfl (by (try simp only [List.map_toArray,List.map_cons,List.map_nil]);first|done|rfl|(simp only [List.length_drop,List.length_take];rfl)) ?_;(with_reducible refine (impl_MachSet.calls _ _ t611 t614 t615 t641 true _ ?side1 ?side2 A77.out).mono ?_);(case side1=>repeat (first|exact (Kd.R_reads' HO_622000.out).2.2|(with_reducible refine Kd.C_alloc ?_ _)|(with_reducible refine Kd.C_drewN ?_ _)|(with_reducible refine Kd.C_drew ?_)));(case side2=>exact (Kd.R_reads' HO_622000.out).2.1);rintro e w118 ⟨rfl,hb⟩;refine ⟨_,rfl,?_⟩;have n0_:=Aside0.mk (Kd.R_below (by (with_reducible repeat (first|apply yH|apply yI|apply yJ));exact HO_622000.out) hb);have n1_:=Aside0.mk (Kd.R_below (by (with_reducible repeat (first|apply yH|apply yI|apply yJ));exact HO_623000.out) hb);have n2_:=Aside0.mk (Kd.R_below (by (with_reducible repeat (first|apply yH|apply yI|apply yJ));exact HO_630000.out) hb);have n3_:=Aside0.mk (Kd.R_below (by (with_reducible repeat (first|apply yH|apply yI|apply yJ));exact HO_637000.out) hb);have n4_:=Aside0.mk (blk_below (g:=gb621) (o:=.cells #[.slice Ao10 t611.length co10,.int .i64 t614,.int .i64 t615] 31 (0,0)) (by (with_reducible repeat (first|refine yE ?_ _|refine yF ?_|refine yG ?_ _));exact BK621.out) hb);have n5_:=Aside0.mk (blk_below (g:=gb622) (o:=.cells #[.slice Ao13 t616.length co13,.int .i64 t619,.int .i64 t620] 31 (0,0)) (by (with_reducible repeat (first|refine yE ?_ _|refine yF ?_|refine yG ?_ _));exact BK622.out) hb);have n6_:=Aside0.mk (blk_below (g:=gb629) (o:=.cells #[.slice Ao17 t623.length co17,.int .i64 t626,.int .i64 t627] 31 (0,0)) (by (with_reducible repeat (first|refine yE ?_ _|refine yF ?_|refine yG ?_ _));exact BK629.out) hb);have n7_:=Aside0.mk (blk_below (g:=gb636) (o:=.cells #[.slice Ao25 t630.length co25,.int .i64 t633,.int .i64 t634] 31 (0,0)) (by (with_reducible repeat (first|refine yE ?_ _|refine yF ?_|refine yG ?_ _));exact BK636.out) hb);have n8_:=Aside0.mk (yP (by repeat (first|(with_reducible first|exact HB.out|apply yA|apply yB|apply yC|refine yD ?_ GE621.out|refine yD ?_ GE622.out|refine yD ?_ GE629.out|refine yD ?_ GE636.out)|exact HB.out)) hb);clear HO_622000;clear HO_623000;clear HO_630000;clear HO_637000;clear BK621;clear BK622;clear BK629;clear BK636;clear HB;have HO_622000:=n0_;have HO_623000:=n1_;have HO_630000:=n2_;have HO_637000:=n3_;have BK621:=n4_;have BK622:=n5_;have BK629:=n6_;have BK636:=n7_;have HB:=n8_;clear n0_ n1_ n2_ n3_ n4_ n5_ n6_ n7_ n8_;(try clear hb);(try clear hb2);(try clear hk);(try clear hi);have hnb119:=NB622_636.out;have hnc119:=NB636_622.out;have hcz120_0:w118.cell? ⟨gb622,0,none⟩=some (.slice Ao13 t616.length co13):=(blk_cell BK622.out 0).trans rfl;have hcz120_1:w118.cell? ⟨gb622,1,none⟩=some (.int .i64 t619):=(blk_cell BK622.out 1).trans rfl;have hcz120_2:w118.cell? ⟨gb622,2,none⟩=some (.int .i64 t620):=(blk_cell BK622.out 2).trans rfl;have hfz120_0:=blk_frozen BK622.out 0;have hfz120_1:=blk_frozen BK622.out 1;have hfz120_2:=blk_frozen BK622.out 2)|((with_reducible refine gate_callee (f:=18) rfl ?_);refine goesL_ (some 70) rfl rfl Try.func18 (by kernel_rfl) rfl #[.agg #[.slice Ao13 t616.length co13,.int .i64 t619,.int .i64 t620]] rfl (by (try simp only [List.map_toArray,List.map_cons,List.map_nil]);first|done|rfl|(simp only [List.length_drop,List.length_take];rfl)) ?_;(with_reducible refine (impl_MachSet.calls _ _ t616 t619 t620 t643 false _ ?side1 ?side2 A78.out).mono ?_);(case side1=>repeat (first|exact (Kd.R_reads' HO_623000.out).2.2|(with_reducible refine Kd.C_alloc ?_ _)|(with_reducible refine Kd.C_drewN ?_ _)|(with_reducible refine Kd.C_drew ?_)));(case side2=>exact (Kd.R_reads' HO_623000.out).2.1);rintro e w121 ⟨rfl,hb⟩;refine ⟨_,rfl,?_⟩;have n0_:=Aside0.mk (Kd.R_below (by (with_reducible repeat (first|apply yH|apply yI|apply yJ));exact HO_622000.out) hb);have n1_:=Aside0.mk (Kd.R_below (by (with_reducible repeat (first|apply yH|apply yI|apply yJ));exact HO_623000.out) hb);have n2_:=Aside0.mk (Kd.R_below (by (with_reducible repeat (first|apply yH|apply yI|apply yJ));exact HO_630000.out) hb);have n3_:=Aside0.mk (Kd.R_below (by (with_reducible repeat (first|apply yH|apply yI|apply yJ));exact HO_637000.out) hb);have n4_:=Aside0.mk (blk_below (g:=gb621) (o:=.cells #[.slice Ao10 t611.length co10,.int .i64 t614,.int .i64 t615] 31 (0,0)) (by (with_reducible repeat (first|refine yE ?_ _|refine yF ?_|refine yG ?_ _));exact BK621.out) hb);have n5_:=Aside0.mk (blk_below (g:=gb622) (o:=.cells #[.slice Ao13 t616.length co13,.int .i64 t619,.int .i64 t620] 31 (0,0)) (by (with_reducible repeat (first|refine yE ?_ _|refine yF ?_|refine yG ?_ _));exact BK622.out) hb);have n6_:=Aside0.mk (blk_below (g:=gb629) (o:=.cells #[.slice Ao17 t623.length co17,.int .i64 t626,.int .i64 t627] 31 (0,0)) (by (with_reducible repeat (first|refine yE ?_ _|refine yF ?_|refine yG ?_ _));exact BK629.out) hb);have n7_:=Aside0.mk (blk_below (g:=gb636) (o:=.cells #[.slice Ao25 t630.length co25,.int .i64 t633,.int .i64 t634] 31 (0,0)) (by (with_reducible repeat (first|refine yE ?_ _|refine yF ?_|refine yG ?_ _));exact BK636.out) hb);have n8_:=Aside0.mk (yP (by repeat (first|(with_reducible first|exact HB.out|apply yA|apply yB|apply yC|refine yD ?_ GE621.out|refine yD ?_ GE622.out|refine yD ?_ GE629.out|refine yD ?_ GE636.out)|exact HB.out)) hb);clear HO_622000;clear HO_623000;clear HO_630000;clear HO_637000;clear BK621;clear BK622;clear BK629;clear BK636;clear HB;have HO_622000:=n0_;have HO_623000:=n1_;have HO_630000:=n2_;have HO_637000:=n3_;have BK621:=n4_;have BK622:=n5_;have BK629:=n6_;have BK636:=n7_;have HB:=n8_;clear n0_ n1_ n2_ n3_ n4_ n5_ n6_ n7_ n8_;(try clear hb);(try clear hb2);(try clear hk);(try clear hi))|((with_reducible refine gate_callee (f:=24) rfl ?_);refine goesL_ (some 76) rfl rfl Try.func24 (by kernel_rfl) rfl #[.string t641,.string t643] rfl (by (try simp only [List.map_toArray,List.map_cons,List.map_nil]);first|done|rfl|(simp only [List.length_drop,List.length_take];rfl)) ?_;(with_reducible refine (impl_MakeBoth.calls t641 t643 t645 t646 _ A79.out).mono ?_);rintro e w122 ⟨rfl,hb⟩;refine ⟨_,rfl,?_⟩;have n0_:=Aside0.mk (Kd.R_below (by (with_reducible repeat (first|apply yH|apply yI|apply yJ));exact HO_622000.out) hb);have n1_:=Aside0.mk (Kd.R_below (by (with_reducible repeat (first|apply yH|apply yI|apply yJ));exact HO_623000.out) hb);have n2_:=Aside0.mk (Kd.R_below (by (with_reducible repeat (first|apply yH|apply yI|apply yJ));exact HO_630000.out) hb);have n3_:=Aside0.mk (Kd.R_below (by (with_reducible repeat (first|apply yH|apply yI|apply yJ));exact HO_637000.out) hb);have n4_:=Aside0.mk (blk_below (g:=gb621) (o:=.cells #[.slice Ao10 t611.length co10,.int .i64 t614,.int .i64 t615] 31 (0,0)) (by (with_reducible repeat (first|refine yE ?_ _|refine yF ?_|refine yG ?_ _));exact BK621.out) hb);have n5_:=Aside0.mk (blk_below (g:=gb622) (o:=.cells #[.slice Ao13 t616.length co13,.int .i64 t619,.int .i64 t620] 31 (0,0)) (by (with_reducible repeat (first|refine yE ?_ _|refine yF ?_|refine yG ?_ _));exact BK622.out) hb);have n6_:=Aside0.mk (blk_below (g:=gb629) (o:=.cells #[.slice Ao17 t623.length co17,.int .i64 t626,.int .i64 t627] 31 (0,0)) (by (with_reducible repeat (first|refine yE ?_ _|refine yF ?_|refine yG ?_ _));exact BK629.out) hb);have n7_:=Aside0.mk (blk_below (g:=gb636) (o:=.cells #[.slice Ao25 t630.length co25,.int .i64 t633,.int .i64 t634] 31 (0,0)) (by (with_reducible repeat (first|refine yE ?_ _|refine yF ?_|refine yG ?_ _));exact BK636.out) hb);have n8_:=Aside0.mk (yP (by repeat (first|(with_reducible first|exact HB.out|apply yA|apply yB|apply yC|refine yD ?_ GE621.out|refine yD ?_ GE622.out|refine yD ?_ GE629.out|refine yD ?_ GE636.out)|exact HB.out)) hb);clear HO_622000;clear HO_623000;clear HO_630000;clear HO_637000;clear BK621;clear BK622;clear BK629;clear BK636;clear HB;have HO_622000:=n0_;have HO_623000:=n1_;have HO_630000:=n2_;have HO_637000:=n3_;have BK621:=n4_;have BK622:=n5_;have BK629:=n6_;have BK636:=n7_;have HB:=n8_;clear n0_ n1_ n2_ n3_ n4_ n5_ n6_ n7_ n8_;(try clear hb);(try clear hb2);(try clear hk);(try clear hi)))
        go_ret
        exact ⟨by first|rfl|(simp [errW_none,errW_some]<;>rfl)|(simp [*,errW_none,errW_some]<;>rfl)|(simp [errW_none,errW_some];exact ⟨rfl,rfl⟩),by repeat (first|(with_reducible first|exact HB.out|apply yA|apply yB|apply yC|refine yD ?_ GE621.out|refine yD ?_ GE622.out|refine yD ?_ GE629.out|refine yD ?_ GE636.out)|exact HB.out)⟩
      ·replace c81:=Bool.eq_false_iff.mpr c81
       subst c81
       have H1:(some true)=some r:=by rw [if_neg (show ¬ (false=true) by decide)] at H;exact H
       clear H
       have H:=H1
       clear H1
       obtain rfl:=Option.some.inj H
       have hnb123:=NB629_621.out
       have hnc123:=NB621_629.out
       have hnb124:=NB629_622.out
       have hnc124:=NB622_629.out
       have hnb125:=NB629_636.out
       have hnc125:=NB636_629.out
       have hcz126_0:wc.cell? ⟨gb629,0,none⟩=some (.slice Ao17 t623.length co17):=(blk_cell BK629.out 0).trans rfl
       have hcz126_1:wc.cell? ⟨gb629,1,none⟩=some (.int .i64 t626):=(blk_cell BK629.out 1).trans rfl
       have hcz126_2:wc.cell? ⟨gb629,2,none⟩=some (.int .i64 t627):=(blk_cell BK629.out 2).trans rfl
       have hfz126_0:=blk_frozen BK629.out 0
       have hfz126_1:=blk_frozen BK629.out 1
       have hfz126_2:=blk_frozen BK629.out 2
       go_wp2_with (first|((with_reducible refine gate_callee (f:=18) rfl ?_);refine goesL_ (some 60) rfl rfl Try.func18 (by kernel_rfl) rfl #[.agg #[.slice Ao17 t623.length co17,.int .i64 t626,.int .i64 t627]] rfl (by (try simp only [List.map_toArray,List.map_cons,List.map_nil]);first|done|rfl|(simp only [List.length_drop,List.length_take];rfl)) ?_;(with_reducible refine (impl_MachSet.calls _ _ t623 t626 t627 t639 true _ ?side1 ?side2 A76.out).mono ?_);(case side1=>repeat (first|exact (Kd.R_reads' HO_630000.out).2.2|(with_reducible refine Kd.C_alloc ?_ _)|(with_reducible refine Kd.C_drewN ?_ _)|(with_reducible refine Kd.C_drew ?_)));(case side2=>exact (Kd.R_reads' HO_630000.out).2.1);rintro e w127 ⟨rfl,hb⟩;refine ⟨_,rfl,?_⟩;have n0_:=Aside0.mk (Kd.R_below (by (with_reducible repeat (first|apply yH|apply yI|apply yJ));exact HO_622000.out) hb);have n1_:=Aside0.mk (Kd.R_below (by (with_reducible repeat (first|apply yH|apply yI|apply yJ));exact HO_623000.out) hb);have n2_:=Aside0.mk (Kd.R_below (by (with_reducible repeat (first|apply yH|apply yI|apply yJ));exact HO_630000.out) hb);have n3_:=Aside0.mk (Kd.R_below (by (with_reducible repeat (first|apply yH|apply yI|apply yJ));exact HO_637000.out) hb);have n4_:=Aside0.mk (blk_below (g:=gb621) (o:=.cells #[.slice Ao10 t611.length co10,.int .i64 t614,.int .i64 t615] 31 (0,0)) (by (with_reducible repeat (first|refine yE ?_ _|refine yF ?_|refine yG ?_ _));exact BK621.out) hb);have n5_:=Aside0.mk (blk_below (g:=gb622) (o:=.cells #[.slice Ao13 t616.length co13,.int .i64 t619,.int .i64 t620] 31 (0,0)) (by (with_reducible repeat (first|refine yE ?_ _|refine yF ?_|refine yG ?_ _));exact BK622.out) hb);have n6_:=Aside0.mk (blk_below (g:=gb629) (o:=.cells #[.slice Ao17 t623.length co17,.int .i64 t626,.int .i64 t627] 31 (0,0)) (by (with_reducible repeat (first|refine yE ?_ _|refine yF ?_|refine yG ?_ _));exact BK629.out) hb);have n7_:=Aside0.mk (blk_below (g:=gb636) (o:=.cells #[.slice Ao25 t630.length co25,.int .i64 t633,.int .i64 t634] 31 (0,0)) (by (with_reducible repeat (first|refine yE ?_ _|refine yF ?_|refine yG ?_ _));exact BK636.out) hb);have n8_:=Aside0.mk (yP (by repeat (first|(with_reducible first|exact HB.out|apply yA|apply yB|apply yC|refine yD ?_ GE621.out|refine yD ?_ GE622.out|refine yD ?_ GE629.out|refine yD ?_ GE636.out)|exact HB.out)) hb);clear HO_622000;clear HO_623000;clear HO_630000;clear HO_637000;clear BK621;clear BK622;clear BK629;clear BK636;clear HB;have HO_622000:=n0_;have HO_623000:=n1_;have HO_630000:=n2_;have HO_637000:=n3_;have BK621:=n4_;have BK622:=n5_;have BK629:=n6_;have BK636:=n7_;have HB:=n8_;clear n0_ n1_ n2_ n3_ n4_ n5_ n6_ n7_ n8_;(try clear hb);(try clear hb2);(try clear hk);(try clear hi);have hnb128:=NB621_622.out;have hnc128:=NB622_621.out;have hnb129:=NB621_636.out;have hnc129:=NB636_621.out;have hcz130_0:w127.cell? ⟨gb621,0,none⟩=some (.slice Ao10 t611.length co10):=(blk_cell BK621.out 0).trans rfl;have hcz130_1:w127.cell? ⟨gb621,1,none⟩=some (.int .i64 t614):=(blk_cell BK621.out 1).trans rfl;have hcz130_2:w127.cell? ⟨gb621,2,none⟩=some (.int .i64 t615):=(blk_cell BK621.out 2).trans rfl;have hfz130_0:=blk_frozen BK621.out 0;have hfz130_1:=blk_frozen BK621.out 1;have hfz130_2:=blk_frozen BK621.out 2)|((with_reducible refine gate_callee (f:=18) rfl ?_);refine goesL_ (some 65) rfl rfl Try.func18 (by kernel_rfl) rfl #[.agg #[.slice Ao10 t611.length co10,.int .i64 t614,.int .i64 t615]] rfl (by (try simp only [List.map_toArray,List.map_cons,List.map_nil]);first|done|rfl|(simp only [List.length_drop,List.length_take];rfl)) ?_;(with_reducible refine (impl_MachSet.calls _ _ t611 t614 t615 t641 false _ ?side1 ?side2 A77.out).mono ?_);(case side1=>repeat (first|exact (Kd.R_reads' HO_622000.out).2.2|(with_reducible refine Kd.C_alloc ?_ _)|(with_reducible refine Kd.C_drewN ?_ _)|(with_reducible refine Kd.C_drew ?_)));(case side2=>exact (Kd.R_reads' HO_622000.out).2.1);rintro e w131 ⟨rfl,hb⟩;refine ⟨_,rfl,?_⟩;have n0_:=Aside0.mk (Kd.R_below (by (with_reducible repeat (first|apply yH|apply yI|apply yJ));exact HO_622000.out) hb);have n1_:=Aside0.mk (Kd.R_below (by (with_reducible repeat (first|apply yH|apply yI|apply yJ));exact HO_623000.out) hb);have n2_:=Aside0.mk (Kd.R_below (by (with_reducible repeat (first|apply yH|apply yI|apply yJ));exact HO_630000.out) hb);have n3_:=Aside0.mk (Kd.R_below (by (with_reducible repeat (first|apply yH|apply yI|apply yJ));exact HO_637000.out) hb);have n4_:=Aside0.mk (blk_below (g:=gb621) (o:=.cells #[.slice Ao10 t611.length co10,.int .i64 t614,.int .i64 t615] 31 (0,0)) (by (with_reducible repeat (first|refine yE ?_ _|refine yF ?_|refine yG ?_ _));exact BK621.out) hb);have n5_:=Aside0.mk (blk_below (g:=gb622) (o:=.cells #[.slice Ao13 t616.length co13,.int .i64 t619,.int .i64 t620] 31 (0,0)) (by (with_reducible repeat (first|refine yE ?_ _|refine yF ?_|refine yG ?_ _));exact BK622.out) hb);have n6_:=Aside0.mk (blk_below (g:=gb629) (o:=.cells #[.slice Ao17 t623.length co17,.int .i64 t626,.int .i64 t627] 31 (0,0)) (by (with_reducible repeat (first|refine yE ?_ _|refine yF ?_|refine yG ?_ _));exact BK629.out) hb);have n7_:=Aside0.mk (blk_below (g:=gb636) (o:=.cells #[.slice Ao25 t630.length co25,.int .i64 t633,.int .i64 t634] 31 (0,0)) (by (with_reducible repeat (first|refine yE ?_ _|refine yF ?_|refine yG ?_ _));exact BK636.out) hb);have n8_:=Aside0.mk (yP (by repeat (first|(with_reducible first|exact HB.out|apply yA|apply yB|apply yC|refine yD ?_ GE621.out|refine yD ?_ GE622.out|refine yD ?_ GE629.out|refine yD ?_ GE636.out)|exact HB.out)) hb);clear HO_622000;clear HO_623000;clear HO_630000;clear HO_637000;clear BK621;clear BK622;clear BK629;clear BK636;clear HB;have HO_622000:=n0_;have HO_623000:=n1_;have HO_630000:=n2_;have HO_637000:=n3_;have BK621:=n4_;have BK622:=n5_;have BK629:=n6_;have BK636:=n7_;have HB:=n8_;clear n0_ n1_ n2_ n3_ n4_ n5_ n6_ n7_ n8_;(try clear hb);(try clear hb2);(try clear hk);(try clear hi);have hnb132:=NB622_636.out;have hnc132:=NB636_622.out;have hcz133_0:w131.cell? ⟨gb622,0,none⟩=some (.slice Ao13 t616.length co13):=(blk_cell BK622.out 0).trans rfl;have hcz133_1:w131.cell? ⟨gb622,1,none⟩=some (.int .i64 t619):=(blk_cell BK622.out 1).trans rfl;have hcz133_2:w131.cell? ⟨gb622,2,none⟩=some (.int .i64 t620):=(blk_cell BK622.out 2).trans rfl;have hfz133_0:=blk_frozen BK622.out 0;have hfz133_1:=blk_frozen BK622.out 1;have hfz133_2:=blk_frozen BK622.out 2)|((with_reducible refine gate_callee (f:=18) rfl ?_);refine goesL_ (some 70) rfl rfl Try.func18 (by kernel_rfl) rfl #[.agg #[.slice Ao13 t616.length co13,.int .i64 t619,.int .i64 t620]] rfl (by (try simp only [List.map_toArray,List.map_cons,List.map_nil]);first|done|rfl|(simp only [List.length_drop,List.length_take];rfl)) ?_;(with_reducible refine (impl_MachSet.calls _ _ t616 t619 t620 t643 t644 _ ?side1 ?side2 A78.out).mono ?_);(case side1=>repeat (first|exact (Kd.R_reads' HO_623000.out).2.2|(with_reducible refine Kd.C_alloc ?_ _)|(with_reducible refine Kd.C_drewN ?_ _)|(with_reducible refine Kd.C_drew ?_)));(case side2=>exact (Kd.R_reads' HO_623000.out).2.1);rintro e w134 ⟨rfl,hb⟩;refine ⟨_,rfl,?_⟩;have n0_:=Aside0.mk (Kd.R_below (by (with_reducible repeat (first|apply yH|apply yI|apply yJ));exact HO_622000.out) hb);have n1_:=Aside0.mk (Kd.R_below (by (with_reducible repeat (first|apply yH|apply yI|apply yJ));exact HO_623000.out) hb);have n2_:=Aside0.mk (Kd.R_below (by (with_reducible repeat (first|apply yH|apply yI|apply yJ));exact HO_630000.out) hb);have n3_:=Aside0.mk (Kd.R_below (by (with_reducible repeat (first|apply yH|apply yI|apply yJ));exact HO_637000.out) hb);have n4_:=Aside0.mk (blk_below (g:=gb621) (o:=.cells #[.slice Ao10 t611.length co10,.int .i64 t614,.int .i64 t615] 31 (0,0)) (by (with_reducible repeat (first|refine yE ?_ _|refine yF ?_|refine yG ?_ _));exact BK621.out) hb);have n5_:=Aside0.mk (blk_below (g:=gb622) (o:=.cells #[.slice Ao13 t616.length co13,.int .i64 t619,.int .i64 t620] 31 (0,0)) (by (with_reducible repeat (first|refine yE ?_ _|refine yF ?_|refine yG ?_ _));exact BK622.out) hb);have n6_:=Aside0.mk (blk_below (g:=gb629) (o:=.cells #[.slice Ao17 t623.length co17,.int .i64 t626,.int .i64 t627] 31 (0,0)) (by (with_reducible repeat (first|refine yE ?_ _|refine yF ?_|refine yG ?_ _));exact BK629.out) hb);have n7_:=Aside0.mk (blk_below (g:=gb636) (o:=.cells #[.slice Ao25 t630.length co25,.int .i64 t633,.int .i64 t634] 31 (0,0)) (by (with_reducible repeat (first|refine yE ?_ _|refine yF ?_|refine yG ?_ _));exact BK636.out) hb);have n8_:=Aside0.mk (yP (by repeat (first|(with_reducible first|exact HB.out|apply yA|apply yB|apply yC|refine yD ?_ GE621.out|refine yD ?_ GE622.out|refine yD ?_ GE629.out|refine yD ?_ GE636.out)|exact HB.out)) hb);clear HO_622000;clear HO_623000;clear HO_630000;clear HO_637000;clear BK621;clear BK622;clear BK629;clear BK636;clear HB;have HO_622000:=n0_;have HO_623000:=n1_;have HO_630000:=n2_;have HO_637000:=n3_;have BK621:=n4_;have BK622:=n5_;have BK629:=n6_;have BK636:=n7_;have HB:=n8_;clear n0_ n1_ n2_ n3_ n4_ n5_ n6_ n7_ n8_;(try clear hb);(try clear hb2);(try clear hk);(try clear hi))|((with_reducible refine gate_callee (f:=24) rfl ?_);refine goesL_ (some 76) rfl rfl Try.func24 (by kernel_rfl) rfl #[.string t641,.string t643] rfl (by (try simp only [List.map_toArray,List.map_cons,List.map_nil]);first|done|rfl|(simp only [List.length_drop,List.length_take];rfl)) ?_;(with_reducible refine (impl_MakeBoth.calls t641 t643 t645 t646 _ A79.out).mono ?_);rintro e w135 ⟨rfl,hb⟩;refine ⟨_,rfl,?_⟩;have n0_:=Aside0.mk (Kd.R_below (by (with_reducible repeat (first|apply yH|apply yI|apply yJ));exact HO_622000.out) hb);have n1_:=Aside0.mk (Kd.R_below (by (with_reducible repeat (first|apply yH|apply yI|apply yJ));exact HO_623000.out) hb);have n2_:=Aside0.mk (Kd.R_below (by (with_reducible repeat (first|apply yH|apply yI|apply yJ));exact HO_630000.out) hb);have n3_:=Aside0.mk (Kd.R_below (by (with_reducible repeat (first|apply yH|apply yI|apply yJ));exact HO_637000.out) hb);have n4_:=Aside0.mk (blk_below (g:=gb621) (o:=.cells #[.slice Ao10 t611.length co10,.int .i64 t614,.int .i64 t615] 31 (0,0)) (by (with_reducible repeat (first|refine yE ?_ _|refine yF ?_|refine yG ?_ _));exact BK621.out) hb);have n5_:=Aside0.mk (blk_below (g:=gb622) (o:=.cells #[.slice Ao13 t616.length co13,.int .i64 t619,.int .i64 t620] 31 (0,0)) (by (with_reducible repeat (first|refine yE ?_ _|refine yF ?_|refine yG ?_ _));exact BK622.out) hb);have n6_:=Aside0.mk (blk_below (g:=gb629) (o:=.cells #[.slice Ao17 t623.length co17,.int .i64 t626,.int .i64 t627] 31 (0,0)) (by (with_reducible repeat (first|refine yE ?_ _|refine yF ?_|refine yG ?_ _));exact BK629.out) hb);have n7_:=Aside0.mk (blk_below (g:=gb636) (o:=.cells #[.slice Ao25 t630.length co25,.int .i64 t633,.int .i64 t634] 31 (0,0)) (by (with_reducible repeat (first|refine yE ?_ _|refine yF ?_|refine yG ?_ _));exact BK636.out) hb);have n8_:=Aside0.mk (yP (by repeat (first|(with_reducible first|exact HB.out|apply yA|apply yB|apply yC|refine yD ?_ GE621.out|refine yD ?_ GE622.out|refine yD ?_ GE629.out|refine yD ?_ GE636.out)|exact HB.out)) hb);clear HO_622000;clear HO_623000;clear HO_630000;clear HO_637000;clear BK621;clear BK622;clear BK629;clear BK636;clear HB;have HO_622000:=n0_;have HO_623000:=n1_;have HO_630000:=n2_;have HO_637000:=n3_;have BK621:=n4_;have BK622:=n5_;have BK629:=n6_;have BK636:=n7_;have HB:=n8_;clear n0_ n1_ n2_ n3_ n4_ n5_ n6_ n7_ n8_;(try clear hb);(try clear hb2);(try clear hk);(try clear hi)))
       go_ret
       exact ⟨by first|rfl|(simp [errW_none,errW_some]<;>rfl)|(simp [*,errW_none,errW_some]<;>rfl)|(simp [errW_none,errW_some];exact ⟨rfl,rfl⟩),by repeat (first|(with_reducible first|exact HB.out|apply yA|apply yB|apply yC|refine yD ?_ GE621.out|refine yD ?_ GE622.out|refine yD ?_ GE629.out|refine yD ?_ GE636.out)|exact HB.out)⟩
     ·replace c80:=Bool.eq_false_iff.mpr c80
      subst c80
      have H1:(some true)=some r:=by rw [if_neg (show ¬ (false=true) by decide)] at H;exact H
      clear H
      have H:=H1
      clear H1
      obtain rfl:=Option.some.inj H
      have hnb136:=NB629_621.out
      have hnc136:=NB621_629.out
      have hnb137:=NB629_622.out
      have hnc137:=NB622_629.out
      have hnb138:=NB629_636.out
      have hnc138:=NB636_629.out
      have hcz139_0:wc.cell? ⟨gb629,0,none⟩=some (.slice Ao17 t623.length co17):=(blk_cell BK629.out 0).trans rfl
      have hcz139_1:wc.cell? ⟨gb629,1,none⟩=some (.int .i64 t626):=(blk_cell BK629.out 1).trans rfl
      have hcz139_2:wc.cell? ⟨gb629,2,none⟩=some (.int .i64 t627):=(blk_cell BK629.out 2).trans rfl
      have hfz139_0:=blk_frozen BK629.out 0
      have hfz139_1:=blk_frozen BK629.out 1
      have hfz139_2:=blk_frozen BK629.out 2
      go_wp2_with (first|((with_reducible refine gate_callee (f:=18) rfl ?_);refine goesL_ (some 60) rfl rfl Try.func18 (by kernel_rfl) rfl #[.agg #[.slice Ao17 t623.length co17,.int .i64 t626,.int .i64 t627]] rfl (by (try simp only [List.map_toArray,List.map_cons,List.map_nil]);first|done|rfl|(simp only [List.length_drop,List.length_take];rfl)) ?_;(with_reducible refine (impl_MachSet.calls _ _ t623 t626 t627 t639 false _ ?side1 ?side2 A76.out).mono ?_);(case side1=>repeat (first|exact (Kd.R_reads' HO_630000.out).2.2|(with_reducible refine Kd.C_alloc ?_ _)|(with_reducible refine Kd.C_drewN ?_ _)|(with_reducible refine Kd.C_drew ?_)));(case side2=>exact (Kd.R_reads' HO_630000.out).2.1);rintro e w140 ⟨rfl,hb⟩;refine ⟨_,rfl,?_⟩;have n0_:=Aside0.mk (Kd.R_below (by (with_reducible repeat (first|apply yH|apply yI|apply yJ));exact HO_622000.out) hb);have n1_:=Aside0.mk (Kd.R_below (by (with_reducible repeat (first|apply yH|apply yI|apply yJ));exact HO_623000.out) hb);have n2_:=Aside0.mk (Kd.R_below (by (with_reducible repeat (first|apply yH|apply yI|apply yJ));exact HO_630000.out) hb);have n3_:=Aside0.mk (Kd.R_below (by (with_reducible repeat (first|apply yH|apply yI|apply yJ));exact HO_637000.out) hb);have n4_:=Aside0.mk (blk_below (g:=gb621) (o:=.cells #[.slice Ao10 t611.length co10,.int .i64 t614,.int .i64 t615] 31 (0,0)) (by (with_reducible repeat (first|refine yE ?_ _|refine yF ?_|refine yG ?_ _));exact BK621.out) hb);have n5_:=Aside0.mk (blk_below (g:=gb622) (o:=.cells #[.slice Ao13 t616.length co13,.int .i64 t619,.int .i64 t620] 31 (0,0)) (by (with_reducible repeat (first|refine yE ?_ _|refine yF ?_|refine yG ?_ _));exact BK622.out) hb);have n6_:=Aside0.mk (blk_below (g:=gb629) (o:=.cells #[.slice Ao17 t623.length co17,.int .i64 t626,.int .i64 t627] 31 (0,0)) (by (with_reducible repeat (first|refine yE ?_ _|refine yF ?_|refine yG ?_ _));exact BK629.out) hb);have n7_:=Aside0.mk (blk_below (g:=gb636) (o:=.cells #[.slice Ao25 t630.length co25,.int .i64 t633,.int .i64 t634] 31 (0,0)) (by (with_reducible repeat (first|refine yE ?_ _|refine yF ?_|refine yG ?_ _));exact BK636.out) hb);have n8_:=Aside0.mk (yP (by repeat (first|(with_reducible first|exact HB.out|apply yA|apply yB|apply yC|refine yD ?_ GE621.out|refine yD ?_ GE622.out|refine yD ?_ GE629.out|refine yD ?_ GE636.out)|exact HB.out)) hb);clear HO_622000;clear HO_623000;clear HO_630000;clear HO_637000;clear BK621;clear BK622;clear BK629;clear BK636;clear HB;have HO_622000:=n0_;have HO_623000:=n1_;have HO_630000:=n2_;have HO_637000:=n3_;have BK621:=n4_;have BK622:=n5_;have BK629:=n6_;have BK636:=n7_;have HB:=n8_;clear n0_ n1_ n2_ n3_ n4_ n5_ n6_ n7_ n8_;(try clear hb);(try clear hb2);(try clear hk);(try clear hi);have hnb141:=NB621_622.out;have hnc141:=NB622_621.out;have hnb142:=NB621_636.out;have hnc142:=NB636_621.out;have hcz143_0:w140.cell? ⟨gb621,0,none⟩=some (.slice Ao10 t611.length co10):=(blk_cell BK621.out 0).trans rfl;have hcz143_1:w140.cell? ⟨gb621,1,none⟩=some (.int .i64 t614):=(blk_cell BK621.out 1).trans rfl;have hcz143_2:w140.cell? ⟨gb621,2,none⟩=some (.int .i64 t615):=(blk_cell BK621.out 2).trans rfl;have hfz143_0:=blk_frozen BK621.out 0;have hfz143_1:=blk_frozen BK621.out 1;have hfz143_2:=blk_frozen BK621.out 2)|((with_reducible refine gate_callee (f:=18) rfl ?_);refine goesL_ (some 65) rfl rfl Try.func18 (by kernel_rfl) rfl #[.agg #[.slice Ao10 t611.length co10,.int .i64 t614,.int .i64 t615]] rfl (by (try simp only [List.map_toArray,List.map_cons,List.map_nil]);first|done|rfl|(simp only [List.length_drop,List.length_take];rfl)) ?_;(with_reducible refine (impl_MachSet.calls _ _ t611 t614 t615 t641 t642 _ ?side1 ?side2 A77.out).mono ?_);(case side1=>repeat (first|exact (Kd.R_reads' HO_622000.out).2.2|(with_reducible refine Kd.C_alloc ?_ _)|(with_reducible refine Kd.C_drewN ?_ _)|(with_reducible refine Kd.C_drew ?_)));(case side2=>exact (Kd.R_reads' HO_622000.out).2.1);rintro e w144 ⟨rfl,hb⟩;refine ⟨_,rfl,?_⟩;have n0_:=Aside0.mk (Kd.R_below (by (with_reducible repeat (first|apply yH|apply yI|apply yJ));exact HO_622000.out) hb);have n1_:=Aside0.mk (Kd.R_below (by (with_reducible repeat (first|apply yH|apply yI|apply yJ));exact HO_623000.out) hb);have n2_:=Aside0.mk (Kd.R_below (by (with_reducible repeat (first|apply yH|apply yI|apply yJ));exact HO_630000.out) hb);have n3_:=Aside0.mk (Kd.R_below (by (with_reducible repeat (first|apply yH|apply yI|apply yJ));exact HO_637000.out) hb);have n4_:=Aside0.mk (blk_below (g:=gb621) (o:=.cells #[.slice Ao10 t611.length co10,.int .i64 t614,.int .i64 t615] 31 (0,0)) (by (with_reducible repeat (first|refine yE ?_ _|refine yF ?_|refine yG ?_ _));exact BK621.out) hb);have n5_:=Aside0.mk (blk_below (g:=gb622) (o:=.cells #[.slice Ao13 t616.length co13,.int .i64 t619,.int .i64 t620] 31 (0,0)) (by (with_reducible repeat (first|refine yE ?_ _|refine yF ?_|refine yG ?_ _));exact BK622.out) hb);have n6_:=Aside0.mk (blk_below (g:=gb629) (o:=.cells #[.slice Ao17 t623.length co17,.int .i64 t626,.int .i64 t627] 31 (0,0)) (by (with_reducible repeat (first|refine yE ?_ _|refine yF ?_|refine yG ?_ _));exact BK629.out) hb);have n7_:=Aside0.mk (blk_below (g:=gb636) (o:=.cells #[.slice Ao25 t630.length co25,.int .i64 t633,.int .i64 t634] 31 (0,0)) (by (with_reducible repeat (first|refine yE ?_ _|refine yF ?_|refine yG ?_ _));exact BK636.out) hb);have n8_:=Aside0.mk (yP (by repeat (first|(with_reducible first|exact HB.out|apply yA|apply yB|apply yC|refine yD ?_ GE621.out|refine yD ?_ GE622.out|refine yD ?_ GE629.out|refine yD ?_ GE636.out)|exact HB.out)) hb);clear HO_622000;clear HO_623000;clear HO_630000;clear HO_637000;clear BK621;clear BK622;clear BK629;clear BK636;clear HB;have HO_622000:=n0_;have HO_623000:=n1_;have HO_630000:=n2_;have HO_637000:=n3_;have BK621:=n4_;have BK622:=n5_;have BK629:=n6_;have BK636:=n7_;have HB:=n8_;clear n0_ n1_ n2_ n3_ n4_ n5_ n6_ n7_ n8_;(try clear hb);(try clear hb2);(try clear hk);(try clear hi);have hnb145:=NB622_636.out;have hnc145:=NB636_622.out;have hcz146_0:w144.cell? ⟨gb622,0,none⟩=some (.slice Ao13 t616.length co13):=(blk_cell BK622.out 0).trans rfl;have hcz146_1:w144.cell? ⟨gb622,1,none⟩=some (.int .i64 t619):=(blk_cell BK622.out 1).trans rfl;have hcz146_2:w144.cell? ⟨gb622,2,none⟩=some (.int .i64 t620):=(blk_cell BK622.out 2).trans rfl;have hfz146_0:=blk_frozen BK622.out 0;have hfz146_1:=blk_frozen BK622.out 1;have hfz146_2:=blk_frozen BK622.out 2)|((with_reducible refine gate_callee (f:=18) rfl ?_);refine goesL_ (some 70) rfl rfl Try.func18 (by kernel_rfl) rfl #[.agg #[.slice Ao13 t616.length co13,.int .i64 t619,.int .i64 t620]] rfl (by (try simp only [List.map_toArray,List.map_cons,List.map_nil]);first|done|rfl|(simp only [List.length_drop,List.length_take];rfl)) ?_;(with_reducible refine (impl_MachSet.calls _ _ t616 t619 t620 t643 t644 _ ?side1 ?side2 A78.out).mono ?_);(case side1=>repeat (first|exact (Kd.R_reads' HO_623000.out).2.2|(with_reducible refine Kd.C_alloc ?_ _)|(with_reducible refine Kd.C_drewN ?_ _)|(with_reducible refine Kd.C_drew ?_)));(case side2=>exact (Kd.R_reads' HO_623000.out).2.1);rintro e w147 ⟨rfl,hb⟩;refine ⟨_,rfl,?_⟩;have n0_:=Aside0.mk (Kd.R_below (by (with_reducible repeat (first|apply yH|apply yI|apply yJ));exact HO_622000.out) hb);have n1_:=Aside0.mk (Kd.R_below (by (with_reducible repeat (first|apply yH|apply yI|apply yJ));exact HO_623000.out) hb);have n2_:=Aside0.mk (Kd.R_below (by (with_reducible repeat (first|apply yH|apply yI|apply yJ));exact HO_630000.out) hb);have n3_:=Aside0.mk (Kd.R_below (by (with_reducible repeat (first|apply yH|apply yI|apply yJ));exact HO_637000.out) hb);have n4_:=Aside0.mk (blk_below (g:=gb621) (o:=.cells #[.slice Ao10 t611.length co10,.int .i64 t614,.int .i64 t615] 31 (0,0)) (by (with_reducible repeat (first|refine yE ?_ _|refine yF ?_|refine yG ?_ _));exact BK621.out) hb);have n5_:=Aside0.mk (blk_below (g:=gb622) (o:=.cells #[.slice Ao13 t616.length co13,.int .i64 t619,.int .i64 t620] 31 (0,0)) (by (with_reducible repeat (first|refine yE ?_ _|refine yF ?_|refine yG ?_ _));exact BK622.out) hb);have n6_:=Aside0.mk (blk_below (g:=gb629) (o:=.cells #[.slice Ao17 t623.length co17,.int .i64 t626,.int .i64 t627] 31 (0,0)) (by (with_reducible repeat (first|refine yE ?_ _|refine yF ?_|refine yG ?_ _));exact BK629.out) hb);have n7_:=Aside0.mk (blk_below (g:=gb636) (o:=.cells #[.slice Ao25 t630.length co25,.int .i64 t633,.int .i64 t634] 31 (0,0)) (by (with_reducible repeat (first|refine yE ?_ _|refine yF ?_|refine yG ?_ _));exact BK636.out) hb);have n8_:=Aside0.mk (yP (by repeat (first|(with_reducible first|exact HB.out|apply yA|apply yB|apply yC|refine yD ?_ GE621.out|refine yD ?_ GE622.out|refine yD ?_ GE629.out|refine yD ?_ GE636.out)|exact HB.out)) hb);clear HO_622000;clear HO_623000;clear HO_630000;clear HO_637000;clear BK621;clear BK622;clear BK629;clear BK636;clear HB;have HO_622000:=n0_;have HO_623000:=n1_;have HO_630000:=n2_;have HO_637000:=n3_;have BK621:=n4_;have BK622:=n5_;have BK629:=n6_;have BK636:=n7_;have HB:=n8_;clear n0_ n1_ n2_ n3_ n4_ n5_ n6_ n7_ n8_;(try clear hb);(try clear hb2);(try clear hk);(try clear hi))|((with_reducible refine gate_callee (f:=24) rfl ?_);refine goesL_ (some 76) rfl rfl Try.func24 (by kernel_rfl) rfl #[.string t641,.string t643] rfl (by (try simp only [List.map_toArray,List.map_cons,List.map_nil]);first|done|rfl|(simp only [List.length_drop,List.length_take];rfl)) ?_;(with_reducible refine (impl_MakeBoth.calls t641 t643 t645 t646 _ A79.out).mono ?_);rintro e w148 ⟨rfl,hb⟩;refine ⟨_,rfl,?_⟩;have n0_:=Aside0.mk (Kd.R_below (by (with_reducible repeat (first|apply yH|apply yI|apply yJ));exact HO_622000.out) hb);have n1_:=Aside0.mk (Kd.R_below (by (with_reducible repeat (first|apply yH|apply yI|apply yJ));exact HO_623000.out) hb);have n2_:=Aside0.mk (Kd.R_below (by (with_reducible repeat (first|apply yH|apply yI|apply yJ));exact HO_630000.out) hb);have n3_:=Aside0.mk (Kd.R_below (by (with_reducible repeat (first|apply yH|apply yI|apply yJ));exact HO_637000.out) hb);have n4_:=Aside0.mk (blk_below (g:=gb621) (o:=.cells #[.slice Ao10 t611.length co10,.int .i64 t614,.int .i64 t615] 31 (0,0)) (by (with_reducible repeat (first|refine yE ?_ _|refine yF ?_|refine yG ?_ _));exact BK621.out) hb);have n5_:=Aside0.mk (blk_below (g:=gb622) (o:=.cells #[.slice Ao13 t616.length co13,.int .i64 t619,.int .i64 t620] 31 (0,0)) (by (with_reducible repeat (first|refine yE ?_ _|refine yF ?_|refine yG ?_ _));exact BK622.out) hb);have n6_:=Aside0.mk (blk_below (g:=gb629) (o:=.cells #[.slice Ao17 t623.length co17,.int .i64 t626,.int .i64 t627] 31 (0,0)) (by (with_reducible repeat (first|refine yE ?_ _|refine yF ?_|refine yG ?_ _));exact BK629.out) hb);have n7_:=Aside0.mk (blk_below (g:=gb636) (o:=.cells #[.slice Ao25 t630.length co25,.int .i64 t633,.int .i64 t634] 31 (0,0)) (by (with_reducible repeat (first|refine yE ?_ _|refine yF ?_|refine yG ?_ _));exact BK636.out) hb);have n8_:=Aside0.mk (yP (by repeat (first|(with_reducible first|exact HB.out|apply yA|apply yB|apply yC|refine yD ?_ GE621.out|refine yD ?_ GE622.out|refine yD ?_ GE629.out|refine yD ?_ GE636.out)|exact HB.out)) hb);clear HO_622000;clear HO_623000;clear HO_630000;clear HO_637000;clear BK621;clear BK622;clear BK629;clear BK636;clear HB;have HO_622000:=n0_;have HO_623000:=n1_;have HO_630000:=n2_;have HO_637000:=n3_;have BK621:=n4_;have BK622:=n5_;have BK629:=n6_;have BK636:=n7_;have HB:=n8_;clear n0_ n1_ n2_ n3_ n4_ n5_ n6_ n7_ n8_;(try clear hb);(try clear hb2);(try clear hk);(try clear hi)))
      go_ret
      exact ⟨by first|rfl|(simp [errW_none,errW_some]<;>rfl)|(simp [*,errW_none,errW_some]<;>rfl)|(simp [errW_none,errW_some];exact ⟨rfl,rfl⟩),by repeat (first|(with_reducible first|exact HB.out|apply yA|apply yB|apply yC|refine yD ?_ GE621.out|refine yD ?_ GE622.out|refine yD ?_ GE629.out|refine yD ?_ GE636.out)|exact HB.out)⟩

/-- THE ONE PURE STATEMENT of laws_FnMachSum: yours. -/
noncomputable def laws_FnMachSum.Pure:Prop:=∀ (l0:List Int),l0.length≤maxLen→l0.length * 1≤140737488351232→(∀ x ∈ l0,(Lit.int .u8 x).wf=true)→∃ k,laws_FnMachSum.f k l0=some true
theorem laws_FnMachSum.walk (P:laws_FnMachSum.Pure) (a0:Option Addr) (len0 cap0:Nat) (z0:List Int) (w:World) (w0:(a0=none∧len0=0∧cap0=0∧z0=[]) ∨ ∃ x,a0=some x∧len0≤cap0∧cap0≤maxLen∧z0.length=cap0∧(∀ i,i<z0.length→w.cell? (x.add i)=some (.int .u8 (z0.getD i 0)))∧∀ n ∈ z0,(Lit.int .u8 n).wf=true) (y0:len0 * 1≤140737488351232) :
  Calls Try.prog 6 #[.slice a0 len0 cap0] w fun e w'=>e=.returned (.bool true)∧Below w.heap.size w w':=by
 obtain ⟨l0,rfl,hr0,hm0,hw0,hc0⟩:=ReadsInt.ofRowC w0
 obtain ⟨k,h⟩:=P l0 hm0 y0 hw0
 refine (laws_FnMachSum.calls k _ _ l0 true w (Kd.C_of_reads (d:=(0:Int)) (h1:=fun _=>rfl) hr0) hc0 h).mono ?_
 rintro e w' ⟨rfl,hd⟩
 exact ⟨rfl,hd⟩

end Go.Proofs.Ytneadgionjlicaa.P

-- impl.MachBoth: the machine of pairs.
namespace Go.Proofs.Ytneadgionjlicaa.P
open Go.RowKit Go.Proofs.YtneadgionjlicaaW.PrintWords Go.Proofs.YtneadgionjlicaaW.PrintLast Go.Proofs.YtneadgionjlicaaW.PrintMore
set_option linter.unusedVariables false
set_option linter.unusedSimpArgs false

/-- Whether two machines may be paired. -/
noncomputable def mbok (l1 : List Int) (s1 e1 : Int) (l2 : List Int) (s2 e2 : Int) : Bool := mok l1 s1 e1 && (mok l2 s2 e2 && decide (l1.length * l2.length ≤ 5))
/-- What MachBoth answers. -/
noncomputable def mbr (l1 : List Int) (s1 e1 : Int) (l2 : List Int) (s2 e2 : Int) : List Int × Int × Int × Bool :=
  if mbok l1 s1 e1 l2 s2 e2 = true then (prL l1 l2 (l1.length * l2.length), ((prU s1.toNat s2.toNat l2.length (l1.length * l2.length) : Nat) : Int), ((prU e1.toNat e2.toNat l2.length (l1.length * l2.length) : Nat) : Int), true) else ([], 0, 0, false)
section
variable {l1 l2 : List Int} {n : Nat}
theorem machBoth_l1 (h1 : Stt l1 l1.length) (h2 : Stt l2 l2.length) (ha : l1.length ≤ 5) (hb : 1 ≤ l2.length ∧ l2.length ≤ 5) (s2 e2 S E : Int) (R : List Int × Int × Int × Bool) (i : Nat) (hi : i < l1.length) (hnext : Ev (fun k => impl_MachBoth.l0 k l2.length l1 l1.length ((i + 1 : Nat) : Int) l2 s2 e2 (prL l1 l2 ((i + 1) * l2.length)) S E) R) :
    ∀ (d j : Nat), j ≤ l2.length → l2.length - j = d → Ev (fun k => impl_MachBoth.l1 k l2.length (rd l1 (i : Int)) l1 l1.length i l2 l2.length j l2 s2 e2 (prL l1 l2 (i * l2.length + j)) S E) R := by
  have hs : (i + 1) * l2.length = i * l2.length + l2.length := Nat.succ_mul i l2.length
  have bi : i * l2.length ≤ 5 * 5 := Nat.mul_le_mul (by omega) hb.2
  intro d
  induction d with
  | zero =>
    intro j hj hd
    have e : j = l2.length := by omega
    subst e
    rw [hs] at hnext
    refine Ev.step (fun k => ?_) hnext
    simp only [impl_MachBoth.l1]; rw [if_neg (by omega), wsucc (by omega)]
  | succ d ih =>
    intro j hj hd
    obtain ⟨u, hu, hu2⟩ := h1 i hi
    obtain ⟨v, hv, hv2⟩ := h2 j (by omega)
    obtain ⟨K1, h3⟩ := ih (j + 1) (by omega) (by omega)
    dsimp only at h3
    obtain ⟨K2, h4⟩ := pairs_f u v l2.length l1.length hb ha hu2 hv2
    dsimp only at h4
    rw [← hu, ← hv] at h4
    have hq1 : (i * l2.length + j) / l2.length = i := by rw [Nat.mul_comm, Nat.mul_add_div (by omega), Nat.div_eq_of_lt (by omega)]; rfl
    have hq2 : (i * l2.length + j) % l2.length = j := by rw [Nat.mul_comm, Nat.mul_add_mod, Nat.mod_eq_of_lt (by omega)]
    have hp := prL_succ l1 l2 (i * l2.length + j)
    rw [hq1, hq2, hu, hv, Int.toNat_natCast, Int.toNat_natCast] at hp
    rw [show i * l2.length + (j + 1) = i * l2.length + j + 1 by omega, hp] at h3
    have hlen := prL_length l1 l2 (i * l2.length + j)
    refine ⟨K1 + K2 + 1, fun k hk => ?_⟩
    obtain ⟨k, rfl⟩ : ∃ j, k = j + 1 := ⟨k - 1, by omega⟩
    simp only [impl_MachBoth.l1]
    rw [if_pos (by omega), if_pos (by omega), if_pos (by omega), h4 k (by omega), Option.bind_some, if_pos (by omega), wsucc (by omega)]
    exact h3 k (by omega)
theorem machBoth_l0 (h1 : Stt l1 l1.length) (h2 : Stt l2 l2.length) (ha : l1.length ≤ 5) (hb : 1 ≤ l2.length ∧ l2.length ≤ 5) (s2 e2 S E : Int) : ∀ (d i : Nat), i ≤ l1.length → l1.length - i = d →
    Ev (fun k => impl_MachBoth.l0 k l2.length l1 l1.length i l2 s2 e2 (prL l1 l2 (i * l2.length)) S E) (prL l1 l2 (l1.length * l2.length), S, E, true) := by
  intro d
  induction d with
  | zero =>
    intro i hi hd
    have e : i = l1.length := by omega
    subst e
    refine Ev.step (f := fun k => some (prL l1 l2 (l1.length * l2.length), S, E, true)) (fun k => ?_) (Ev.now _)
    simp only [impl_MachBoth.l0]; rw [if_neg (by omega)]
  | succ d ih =>
    intro i hi hd
    have h := machBoth_l1 h1 h2 ha hb s2 e2 S E _ i (by omega) (ih (i + 1) (by omega) (by omega)) _ 0 (Nat.zero_le _) rfl
    rw [Nat.add_zero] at h
    refine Ev.step (fun k => ?_) h
    simp only [impl_MachBoth.l0]
    rw [if_pos (by omega), if_pos (by omega), if_pos (by omega)]; rfl
end
theorem imachBoth_f (l1 : List Int) (s1 e1 : Int) (l2 : List Int) (s2 e2 : Int) (hl1 : l1.length ≤ 1000000) (hl2 : l2.length ≤ 1000000) : Ev (fun k => impl_MachBoth.f k l1 s1 e1 l2 s2 e2) (mbr l1 s1 e1 l2 s2 e2) := by
  have m1 := machIn_f (show l1.length ≤ 1000000000000 by omega) s1 e1
  have m2 := machIn_f (show l2.length ≤ 1000000000000 by omega) s2 e2
  have no : mbok l1 s1 e1 l2 s2 e2 = false → (∀ k, impl_MachBoth.f k l1 s1 e1 l2 s2 e2 = impl_MachBoth.j0 k l2.length true l1 s1 e1 l2 s2 e2) → Ev (fun k => impl_MachBoth.f k l1 s1 e1 l2 s2 e2) (mbr l1 s1 e1 l2 s2 e2) := fun h0 hf => by
    have e : mbr l1 s1 e1 l2 s2 e2 = ([], 0, 0, false) := by unfold mbr; rw [h0]; rfl
    rw [e]
    refine Ev.congr (fun k => hf k) (Ev.step (f := fun k => some ([], 0, 0, false)) (fun k => ?_) (Ev.now _))
    simp only [impl_MachBoth.j0]; rfl
  cases hm1 : mok l1 s1 e1 with
  | false =>
    refine no (by unfold mbok; rw [hm1]; rfl) (fun k => ?_)
    unfold impl_MachBoth.f
    rw [m1, hm1, Option.bind_some, if_neg (by decide)]
  | true =>
    cases hm2 : mok l2 s2 e2 with
    | false =>
      refine no (by unfold mbok; rw [hm1, hm2]; rfl) (fun k => ?_)
      unfold impl_MachBoth.f
      rw [m1, hm1, Option.bind_some, if_pos rfl, m2, hm2, Option.bind_some, if_neg (by decide)]
    | true =>
      obtain ⟨a1, a2, ⟨A, rfl, a3⟩, ⟨E, rfl, a4⟩⟩ := mok_of hm1
      obtain ⟨b1, b2, ⟨B, rfl, b3⟩, ⟨D, rfl, b4⟩⟩ := mok_of hm2
      have bm : l1.length * l2.length ≤ 5 * 5 := Nat.mul_le_mul a1.2 b1.2
      have hw : wrap64 ((l1.length : Int) * (l2.length : Int)) = ((l1.length * l2.length : Nat) : Int) := by
        rw [← Int.natCast_mul, w64 (by omega) (by omega)]
      by_cases h5 : l1.length * l2.length ≤ 5
      · have hd : decide (wrap64 ((l1.length : Int) * (l2.length : Int)) > 5) = false := by rw [hw]; exact decide_eq_false (by clear hw; omega)
        have e : mbr l1 (A : Int) (E : Int) l2 (B : Int) (D : Int) = (prL l1 l2 (l1.length * l2.length), ((prU A B l2.length (l1.length * l2.length) : Nat) : Int), ((prU E D l2.length (l1.length * l2.length) : Nat) : Int), true) := by
          unfold mbr mbok; rw [hm1, hm2, decide_eq_true h5]; rfl
        rw [e]
        obtain ⟨K1, h1⟩ := pairs_f A B l2.length l1.length b1 a1.2 a3 b3
        dsimp only at h1
        obtain ⟨K2, h2⟩ := pairs_f E D l2.length l1.length b1 a1.2 a4 b4
        dsimp only at h2
        obtain ⟨K3, h3⟩ := machBoth_l0 a2 b2 a1.2 b1 (B : Int) (D : Int) ((prU A B l2.length (l1.length * l2.length) : Nat) : Int) ((prU E D l2.length (l1.length * l2.length) : Nat) : Int) _ 0 (Nat.zero_le _) rfl
        rw [Nat.zero_mul] at h3
        have g3 : ∀ k, K3 ≤ k → impl_MachBoth.l0 k l2.length l1 l1.length 0 l2 (B : Int) (D : Int) [] ((prU A B l2.length (l1.length * l2.length) : Nat) : Int) ((prU E D l2.length (l1.length * l2.length) : Nat) : Int) = some (prL l1 l2 (l1.length * l2.length), ((prU A B l2.length (l1.length * l2.length) : Nat) : Int), ((prU E D l2.length (l1.length * l2.length) : Nat) : Int), true) := h3
        refine ⟨K1 + K2 + K3 + 1, fun k hk => ?_⟩
        obtain ⟨k, rfl⟩ : ∃ j, k = j + 1 := ⟨k - 1, by omega⟩
        dsimp only
        unfold impl_MachBoth.f
        rw [m1, hm1, Option.bind_some, if_pos rfl, m2, hm2, Option.bind_some, if_pos rfl, hd]
        simp only [impl_MachBoth.j0]
        rw [if_neg (by decide), h1 k (by clear hw hd; omega), Option.bind_some, h2 k (by clear hw hd; omega), Option.bind_some]
        exact g3 k (by clear hw hd; omega)
      · have hd : decide (wrap64 ((l1.length : Int) * (l2.length : Int)) > 5) = true := by rw [hw]; exact decide_eq_true (by clear hw; omega)
        refine no (by unfold mbok; rw [hm1, hm2, decide_eq_false h5]; rfl) (fun k => ?_)
        unfold impl_MachBoth.f
        rw [m1, hm1, Option.bind_some, if_pos rfl, m2, hm2, Option.bind_some, if_pos rfl, hd]
end Go.Proofs.Ytneadgionjlicaa.P

-- spec.MachBoth: the machine of pairs.
namespace Go.Proofs.Ytneadgionjlicaa.P
open Go.RowKit Go.Proofs.YtneadgionjlicaaW.PrintWords Go.Proofs.YtneadgionjlicaaW.PrintLast Go.Proofs.YtneadgionjlicaaW.PrintMore
set_option linter.unusedVariables false
set_option linter.unusedSimpArgs false

theorem divm {n y : Nat} (x : Nat) (hy : y < n) : (n * x + y) / n = x ∧ (n * x + y) % n = y :=
  ⟨by rw [Nat.mul_add_div (by omega), Nat.div_eq_of_lt hy]; rfl, by rw [Nat.mul_add_mod, Nat.mod_eq_of_lt hy]⟩
theorem place {n x y : Nat} (h : n * x + y ≤ 50) : wrap64 (wrap64 ((n : Int) * (x : Int)) + (y : Int)) = ((n * x + y : Nat) : Int) := by
  rw [← Int.natCast_mul]
  generalize n * x = m at *
  rw [w64 (show -9223372036854775808 ≤ (m : Int) by omega) (by omega), w64 (by omega) (by omega)]; omega
/-- One pair more. -/
theorem pair_step {A B n x y : Nat} (hA : A < 2 ^ 62) (hB : B < 2 ^ 62) (hx : x ≤ 60) (hy2 : y ≤ 60) (hy : y < n) (hm : n * x + y ≤ 50) : Go.bits .or .i64 ((prU A B n (n * x + y) : Nat) : Int) (shl .i64 (Go.bits .and .i64 (Go.bits .and .i64 (shr .i64 (A : Int) (x : Int)) 1) (Go.bits .and .i64 (shr .i64 (B : Int) (y : Int)) 1)) ((n * x + y : Nat) : Int)) = ((prU A B n (n * x + y + 1) : Nat) : Int) := by
  have p0 : prU A B n (n * x + y) < 2 ^ 50 := Nat.lt_of_lt_of_le (prU_lt _ _ _ _) (Nat.pow_le_pow_right (by omega) hm)
  have p1 : (2 : Nat) ^ (n * x + y) ≤ 2 ^ 50 := Nat.pow_le_pow_right (by omega) hm
  have e1 : ((1 : Nat) : Int) = 1 := rfl
  have e0 : ((0 : Nat) : Int) = 0 := rfl
  have a11 := nand_nat (show 1 < 2 ^ 62 by omega) (show 1 < 2 ^ 62 by omega)
  have a10 := nand_nat (show 1 < 2 ^ 62 by omega) (show 0 < 2 ^ 62 by omega)
  have a01 := nand_nat (show 0 < 2 ^ 62 by omega) (show 1 < 2 ^ 62 by omega)
  have a00 := nand_nat (show 0 < 2 ^ 62 by omega) (show 0 < 2 ^ 62 by omega)
  rw [e1] at a11; rw [e1, e0] at a10 a01; rw [e0] at a00
  have s1 := shl_nat 1 (n * x + y) (by omega) (by omega)
  have s0 := shl_nat 0 (n * x + y) (by omega) (by omega)
  rw [e1] at s1
  rw [e0] at s0
  rw [bit_at A x hA hx, bit_at B y hB hy2, prU, (divm x hy).1, (divm x hy).2]
  cases h1 : A.testBit x with
  | true =>
    cases h2 : B.testBit y with
    | true => rw [if_pos rfl, if_pos (by decide), a11, show ((1 &&& 1 : Nat) : Int) = 1 from rfl, s1, Nat.one_mul, nor_nat (by omega) (by omega)]
    | false => rw [if_pos rfl, if_neg (by decide), if_neg (by decide), a10, show ((1 &&& 0 : Nat) : Int) = 0 from rfl, s0, Nat.zero_mul, nor_nat (by omega) (by omega)]
  | false =>
    cases h2 : B.testBit y with
    | true => rw [if_neg (by decide), if_pos rfl, if_neg (by decide), a01, show ((0 &&& 1 : Nat) : Int) = 0 from rfl, s0, Nat.zero_mul, nor_nat (by omega) (by omega)]
    | false => rw [if_neg (by decide), if_neg (by decide), a00, show ((0 &&& 0 : Nat) : Int) = 0 from rfl, s0, Nat.zero_mul, nor_nat (by omega) (by omega)]
section
variable {l1 l2 : List Int}
theorem l6both_l3 (h1 : Stt l1 l1.length) (h2 : Stt l2 l2.length) (ha : l1.length ≤ 5) (hb : 1 ≤ l2.length ∧ l2.length ≤ 5) (s1 e1 s2 e2 S E : Int) (L : List Int) (R : List Int × Int × Int × Bool) (i kk x u v : Nat) (hi : i < l1.length) (hk : kk < l2.length) (hx : x < l1.length) (hu : rd l1 (i : Int) = (u : Int)) (hv : rd l2 (kk : Int) = (v : Int)) (hu2 : u < 2 ^ 62) (hv2 : v < 2 ^ 62)
    (hnext : Ev (fun k => spec_MachBoth.l2 k l2.length i kk ((prU u v l2.length (l2.length * (x + 1)) : Nat) : Int) ((x + 1 : Nat) : Int) l1 s1 e1 l2 s2 e2 L S E) R) :
    ∀ (d y : Nat), y ≤ l2.length → l2.length - y = d → Ev (fun k => spec_MachBoth.l3 k l2.length i kk ((prU u v l2.length (l2.length * x + y) : Nat) : Int) x y l1 s1 e1 l2 s2 e2 L S E) R := by
  have bx : l2.length * x ≤ 5 * 4 := Nat.mul_le_mul hb.2 (by omega)
  intro d
  induction d with
  | zero =>
    intro y hy hd
    have e : y = l2.length := by omega
    subst e
    rw [Nat.mul_succ] at hnext
    refine Ev.step (fun k => ?_) hnext
    simp only [spec_MachBoth.l3]; rw [if_neg (by omega), wsucc (by omega)]
  | succ d ih =>
    intro y hy hd
    have h := ih (y + 1) (by omega) (by omega)
    have y1 : y < l2.length := by omega
    have y2 : l2.length * x + y ≤ 50 := by omega
    have hw := place (n := l2.length) (x := x) (y := y) y2
    have hp := pair_step (A := u) (B := v) (n := l2.length) (x := x) (y := y) hu2 hv2 (by clear hw; omega) (by clear hw; omega) y1 y2
    rw [show l2.length * x + (y + 1) = l2.length * x + y + 1 from rfl, ← hp] at h
    refine Ev.step (fun k => ?_) h
    simp only [spec_MachBoth.l3]
    rw [hw, hu, hv, if_pos (by clear hw hp; omega), if_pos (by clear hw hp; omega), if_pos (by clear hw hp; omega), if_pos (by clear hw hp; omega), if_pos (by clear hw hp; omega), if_pos (by clear hw hp; omega), if_pos (by clear hw hp; omega), if_pos (Int.natCast_nonneg _), wsucc (by clear hw hp; omega)]
theorem l6both_l2 (h1 : Stt l1 l1.length) (h2 : Stt l2 l2.length) (ha : l1.length ≤ 5) (hb : 1 ≤ l2.length ∧ l2.length ≤ 5) (s1 e1 s2 e2 S E : Int) (L : List Int) (R : List Int × Int × Int × Bool) (i kk u v : Nat) (hi : i < l1.length) (hk : kk < l2.length) (hu : rd l1 (i : Int) = (u : Int)) (hv : rd l2 (kk : Int) = (v : Int)) (hu2 : u < 2 ^ 62) (hv2 : v < 2 ^ 62)
    (hend : Ev (fun k => spec_MachBoth.l2 k l2.length i kk ((prU u v l2.length (l2.length * l1.length) : Nat) : Int) (l1.length : Int) l1 s1 e1 l2 s2 e2 L S E) R) :
    ∀ (d x : Nat), x ≤ l1.length → l1.length - x = d → Ev (fun k => spec_MachBoth.l2 k l2.length i kk ((prU u v l2.length (l2.length * x) : Nat) : Int) x l1 s1 e1 l2 s2 e2 L S E) R := by
  intro d
  induction d with
  | zero =>
    intro x hx hd
    rw [show x = l1.length by omega]
    exact hend
  | succ d ih =>
    intro x hx hd
    have h := l6both_l3 h1 h2 ha hb s1 e1 s2 e2 S E L R i kk x u v hi hk (by omega) hu hv hu2 hv2 (ih (x + 1) (by omega) (by omega)) _ 0 (Nat.zero_le _) rfl
    rw [Nat.add_zero] at h
    refine Ev.step (fun k => ?_) h
    simp only [spec_MachBoth.l2]
    rw [if_pos (by omega)]; rfl
theorem l6both_l1 (h1 : Stt l1 l1.length) (h2 : Stt l2 l2.length) (ha : l1.length ≤ 5) (hb : 1 ≤ l2.length ∧ l2.length ≤ 5) (A E B D : Nat) (hA : A < 2 ^ 62) (hE : E < 2 ^ 62) (hB : B < 2 ^ 62) (hD : D < 2 ^ 62) (R : List Int × Int × Int × Bool) (i : Nat) (hi : i < l1.length)
    (hnext : Ev (fun k => spec_MachBoth.l0 k l2.length ((i + 1 : Nat) : Int) l1 (A : Int) (E : Int) l2 (B : Int) (D : Int) (prL l1 l2 (l2.length * (i + 1))) ((prU A B l2.length (l2.length * (i + 1)) : Nat) : Int) ((prU E D l2.length (l2.length * (i + 1)) : Nat) : Int)) R) :
    ∀ (d kk : Nat), kk ≤ l2.length → l2.length - kk = d → Ev (fun k => spec_MachBoth.l1 k l2.length i kk l1 (A : Int) (E : Int) l2 (B : Int) (D : Int) (prL l1 l2 (l2.length * i + kk)) ((prU A B l2.length (l2.length * i + kk) : Nat) : Int) ((prU E D l2.length (l2.length * i + kk) : Nat) : Int)) R := by
  have bi : l2.length * i ≤ 5 * 4 := Nat.mul_le_mul hb.2 (by omega)
  have q1 : (2 : Nat) ^ l1.length ≤ 2 ^ 5 := Nat.pow_le_pow_right (by omega) ha
  have q2 : (2 : Nat) ^ l2.length ≤ 2 ^ 5 := Nat.pow_le_pow_right (by omega) hb.2
  intro d
  induction d with
  | zero =>
    intro kk hk hd
    have e : kk = l2.length := by omega
    subst e
    rw [Nat.mul_succ] at hnext
    refine Ev.step (fun k => ?_) hnext
    simp only [spec_MachBoth.l1]; rw [if_neg (by omega), wsucc (by omega)]
  | succ d ih =>
    intro kk hk hd
    obtain ⟨u, hu, hu2⟩ := h1 i hi
    obtain ⟨v, hv, hv2⟩ := h2 kk (by omega)
    have h := ih (kk + 1) (by omega) (by omega)
    have y1 : kk < l2.length := by omega
    have y2 : l2.length * i + kk ≤ 50 := by omega
    have x1 : i ≤ 60 := by omega
    have x2 : kk ≤ 60 := by omega
    have hw := place (n := l2.length) (x := i) (y := kk) y2
    have hpS := pair_step (A := A) (B := B) (n := l2.length) (x := i) (y := kk) hA hB x1 x2 y1 y2
    have hpE := pair_step (A := E) (B := D) (n := l2.length) (x := i) (y := kk) hE hD x1 x2 y1 y2
    have hp := prL_succ l1 l2 (l2.length * i + kk)
    rw [(divm i y1).1, (divm i y1).2, hu, hv, Int.toNat_natCast, Int.toNat_natCast, Nat.mul_comm l1.length] at hp
    rw [show l2.length * i + (kk + 1) = l2.length * i + kk + 1 from rfl, ← hpS, ← hpE, hp] at h
    have hlen := prL_length l1 l2 (l2.length * i + kk)
    have hend : Ev (fun k => spec_MachBoth.l2 k l2.length i kk ((prU u v l2.length (l2.length * l1.length) : Nat) : Int) (l1.length : Int) l1 (A : Int) (E : Int) l2 (B : Int) (D : Int) (prL l1 l2 (l2.length * i + kk)) ((prU A B l2.length (l2.length * i + kk) : Nat) : Int) ((prU E D l2.length (l2.length * i + kk) : Nat) : Int)) R := by
      refine Ev.step (fun k => ?_) h
      simp only [spec_MachBoth.l2]
      rw [if_neg (by clear hw hpS hpE; omega), if_pos (by clear hw hpS hpE; omega), if_pos (by clear hw hpS hpE; omega), if_pos (by clear hw hpS hpE; omega), hw, if_pos (Int.natCast_nonneg _), wsucc (by clear hw hpS hpE; omega)]
    have h5 := l6both_l2 h1 h2 ha hb (A : Int) (E : Int) (B : Int) (D : Int) _ _ _ R i kk u v hi (by clear hw hpS hpE; omega) hu hv (by clear hw hpS hpE; omega) (by clear hw hpS hpE; omega) hend _ 0 (Nat.zero_le _) rfl
    rw [Nat.mul_zero] at h5
    refine Ev.step (fun k => ?_) h5
    simp only [spec_MachBoth.l1]
    rw [if_pos (by clear hw hpS hpE; omega)]; rfl
theorem l6both_l0 (h1 : Stt l1 l1.length) (h2 : Stt l2 l2.length) (ha : l1.length ≤ 5) (hb : 1 ≤ l2.length ∧ l2.length ≤ 5) (A E B D : Nat) (hA : A < 2 ^ 62) (hE : E < 2 ^ 62) (hB : B < 2 ^ 62) (hD : D < 2 ^ 62) : ∀ (d i : Nat), i ≤ l1.length → l1.length - i = d →
    Ev (fun k => spec_MachBoth.l0 k l2.length i l1 (A : Int) (E : Int) l2 (B : Int) (D : Int) (prL l1 l2 (l2.length * i)) ((prU A B l2.length (l2.length * i) : Nat) : Int) ((prU E D l2.length (l2.length * i) : Nat) : Int)) (prL l1 l2 (l2.length * l1.length), ((prU A B l2.length (l2.length * l1.length) : Nat) : Int), ((prU E D l2.length (l2.length * l1.length) : Nat) : Int), true) := by
  intro d
  induction d with
  | zero =>
    intro i hi hd
    have e : i = l1.length := by omega
    subst e
    refine Ev.step (f := fun k => some (prL l1 l2 (l2.length * l1.length), ((prU A B l2.length (l2.length * l1.length) : Nat) : Int), ((prU E D l2.length (l2.length * l1.length) : Nat) : Int), true)) (fun k => ?_) (Ev.now _)
    simp only [spec_MachBoth.l0]; rw [if_neg (by omega)]
  | succ d ih =>
    intro i hi hd
    have h := l6both_l1 h1 h2 ha hb A E B D hA hE hB hD _ i (by omega) (ih (i + 1) (by omega) (by omega)) _ 0 (Nat.zero_le _) rfl
    rw [Nat.add_zero] at h
    refine Ev.step (fun k => ?_) h
    simp only [spec_MachBoth.l0]
    rw [if_pos (by omega)]; rfl
end
theorem smachBoth_f (l1 : List Int) (s1 e1 : Int) (l2 : List Int) (s2 e2 : Int) (hl1 : l1.length ≤ 1000000) (hl2 : l2.length ≤ 1000000) : Ev (fun k => spec_MachBoth.f k l1 s1 e1 l2 s2 e2) (mbr l1 s1 e1 l2 s2 e2) := by
  obtain ⟨K1, m1⟩ := l6MachIn_f l1 s1 e1 (by omega)
  dsimp only at m1
  obtain ⟨K2, m2⟩ := l6MachIn_f l2 s2 e2 (by omega)
  dsimp only at m2
  have no : mbok l1 s1 e1 l2 s2 e2 = false → (∀ k, K1 + K2 ≤ k → spec_MachBoth.f k l1 s1 e1 l2 s2 e2 = spec_MachBoth.j0 k l2.length true l1 s1 e1 l2 s2 e2) → Ev (fun k => spec_MachBoth.f k l1 s1 e1 l2 s2 e2) (mbr l1 s1 e1 l2 s2 e2) := fun h0 hf => by
    have e : mbr l1 s1 e1 l2 s2 e2 = ([], 0, 0, false) := by unfold mbr; rw [h0]; rfl
    rw [e]
    refine ⟨K1 + K2 + 1, fun k hk => ?_⟩
    obtain ⟨k, rfl⟩ : ∃ j, k = j + 1 := ⟨k - 1, by omega⟩
    dsimp only
    rw [hf (k + 1) (by omega)]
    simp only [spec_MachBoth.j0]; rfl
  cases hm1 : mok l1 s1 e1 with
  | false =>
    refine no (by unfold mbok; rw [hm1]; rfl) (fun k hk => ?_)
    unfold spec_MachBoth.f
    rw [m1 k (by omega), hm1, Option.bind_some, if_neg (by decide)]
  | true =>
    cases hm2 : mok l2 s2 e2 with
    | false =>
      refine no (by unfold mbok; rw [hm1, hm2]; rfl) (fun k hk => ?_)
      unfold spec_MachBoth.f
      rw [m1 k (by omega), hm1, Option.bind_some, if_pos rfl, m2 k (by omega), hm2, Option.bind_some, if_neg (by decide)]
    | true =>
      obtain ⟨a1, a2, ⟨A, rfl, a3⟩, ⟨E, rfl, a4⟩⟩ := mok_of hm1
      obtain ⟨b1, b2, ⟨B, rfl, b3⟩, ⟨D, rfl, b4⟩⟩ := mok_of hm2
      have bm : l1.length * l2.length ≤ 5 * 5 := Nat.mul_le_mul a1.2 b1.2
      have hw : wrap64 ((l1.length : Int) * (l2.length : Int)) = ((l1.length * l2.length : Nat) : Int) := by
        rw [← Int.natCast_mul, w64 (by omega) (by omega)]
      by_cases h5 : l1.length * l2.length ≤ 5
      · have hd : decide (wrap64 ((l1.length : Int) * (l2.length : Int)) > 5) = false := by rw [hw]; exact decide_eq_false (by clear hw; omega)
        have e : mbr l1 (A : Int) (E : Int) l2 (B : Int) (D : Int) = (prL l1 l2 (l1.length * l2.length), ((prU A B l2.length (l1.length * l2.length) : Nat) : Int), ((prU E D l2.length (l1.length * l2.length) : Nat) : Int), true) := by
          unfold mbr mbok; rw [hm1, hm2, decide_eq_true h5]; rfl
        rw [e]
        have q1 : (2 : Nat) ^ l1.length ≤ 2 ^ 5 := Nat.pow_le_pow_right (by omega) a1.2
        have q2 : (2 : Nat) ^ l2.length ≤ 2 ^ 5 := Nat.pow_le_pow_right (by omega) b1.2
        obtain ⟨K3, h3⟩ := l6both_l0 a2 b2 a1.2 b1 A E B D (by clear hw hd; omega) (by clear hw hd; omega) (by clear hw hd; omega) (by clear hw hd; omega) _ 0 (Nat.zero_le _) rfl
        rw [Nat.mul_zero, Nat.mul_comm l2.length] at h3
        have g3 : ∀ k, K3 ≤ k → spec_MachBoth.l0 k l2.length 0 l1 (A : Int) (E : Int) l2 (B : Int) (D : Int) [] 0 0 = some (prL l1 l2 (l1.length * l2.length), ((prU A B l2.length (l1.length * l2.length) : Nat) : Int), ((prU E D l2.length (l1.length * l2.length) : Nat) : Int), true) := h3
        refine ⟨K1 + K2 + K3 + 1, fun k hk => ?_⟩
        obtain ⟨k, rfl⟩ : ∃ j, k = j + 1 := ⟨k - 1, by omega⟩
        dsimp only
        unfold spec_MachBoth.f
        rw [m1 (k + 1) (by clear hw hd; omega), hm1, Option.bind_some, if_pos rfl, m2 (k + 1) (by clear hw hd; omega), hm2, Option.bind_some, if_pos rfl, hd]
        simp only [spec_MachBoth.j0]
        rw [if_neg (by decide)]
        exact g3 k (by clear hw hd; omega)
      · have hd : decide (wrap64 ((l1.length : Int) * (l2.length : Int)) > 5) = true := by rw [hw]; exact decide_eq_true (by clear hw; omega)
        refine no (by unfold mbok; rw [hm1, hm2, decide_eq_false h5]; rfl) (fun k hk => ?_)
        unfold spec_MachBoth.f
        rw [m1 k (by clear hw hd; omega), hm1, Option.bind_some, if_pos rfl, m2 k (by clear hw hd; omega), hm2, Option.bind_some, if_pos rfl, hd]
end Go.Proofs.Ytneadgionjlicaa.P

-- The tidy text of a set, read again.
namespace Go.Proofs.Ytneadgionjlicaa.P
open Go.RowKit Go.Proofs.YtneadgionjlicaaW.PrintWords Go.Proofs.YtneadgionjlicaaW.PrintLast Go.Proofs.YtneadgionjlicaaW.PrintMore
set_option linter.unusedVariables false
set_option linter.unusedSimpArgs false

theorem txt_size (p : List Bool × List Bool) : (txt p).1.size ≤ 122 := by
  unfold txt
  split
  · show (textOf p.1 p.2).size ≤ 122; rw [textOf_size]; omega
  · show (0 : Nat) ≤ 122; omega
section
variable {q : Nat → Bool} {m p : Nat}
theorem txt_fits {t : List Bool × List Bool} (h : (txt t).2 = true) : t.1.length ≤ 60 ∧ t.2.length ≤ 60 := by
  unfold txt at h
  split at h
  · assumption
  · cases h
theorem txt_parse (hp : 0 < p) (h : Per q m p) (ht : (txt (cn q)).2 = true) : parse (chrs (txt (cn q)).1) = some ((cn q).1, (cn q).2) := by
  obtain ⟨h1, h2⟩ := txt_fits ht
  rw [txt_ok h1 h2]
  exact parse_cn hp h h1 h2
theorem txt_setf (hp : 0 < p) (h : Per q m p) (ht : (txt (cn q)).2 = true) : setf (chrs (txt (cn q)).1) = q := by
  rw [setf_some (txt_parse hp h ht), cn_has hp h]
theorem txt_tdy (hp : 0 < p) (h : Per q m p) (ht : (txt (cn q)).2 = true) : tdy (chrs (txt (cn q)).1) = ((txt (cn q)).1, true) := by
  obtain ⟨h1, h2⟩ := txt_fits ht
  rw [tdy_some (txt_parse hp h ht), cn_cn hp h, txt_ok h1 h2]
end
end Go.Proofs.Ytneadgionjlicaa.P

-- impl.SetHas; the text of a tidy set, read again.
namespace Go.Proofs.Ytneadgionjlicaa.P
open Go.RowKit Go.Proofs.YtneadgionjlicaaW.PrintWords Go.Proofs.YtneadgionjlicaaW.PrintLast Go.Proofs.YtneadgionjlicaaW.PrintMore
set_option linter.unusedVariables false
set_option linter.unusedSimpArgs false

theorem isetHas_f (s : ByteArray) (hs : s.size ≤ 70368744177664) (n : Nat) (hn : n ≤ 1000000) : Ev (fun k => impl_SetHas.f k s n) (setf (chrs s) n) := by
  obtain ⟨x, y, hev, hxy⟩ := setOf_f s hs
  refine Ev.congr (fun k => rfl) (Ev.bind hev ?_)
  cases h : parse (chrs s) with
  | none => simp only [Option.isSome_none, Bool.false_eq_true, if_false, setf, h]; exact Ev.now _
  | some ab =>
    obtain ⟨rfl, rfl⟩ := hxy ab.1 ab.2 h
    have hb := parse_some (a := ab.1) (b := ab.2) h
    rw [setf_some (a := ab.1) (b := ab.2) h]
    simp only [Option.isSome_some, if_true, ihas_f ab.1 ab.2 hb.2.2 (by omega) n (by omega), Option.bind_some]
    exact Ev.now _
theorem isetHas_neg (s : ByteArray) (hs : s.size ≤ 70368744177664) (n : Int) (hn : n < 0) : Ev (fun k => impl_SetHas.f k s n) false := by
  obtain ⟨x, y, hev, hxy⟩ := setOf_f s hs
  refine Ev.congr (fun k => rfl) (Ev.bind hev ?_)
  simp only [ihas_neg x y n hn, Option.bind_some]
  cases (parse (chrs s)).isSome with
  | true => exact Ev.now _
  | false => exact Ev.now _
end Go.Proofs.Ytneadgionjlicaa.P

-- Words for the laws that ask a text number by number.
namespace Go.Proofs.Ytneadgionjlicaa.P
open Go.RowKit Go.Proofs.YtneadgionjlicaaW.PrintWords Go.Proofs.YtneadgionjlicaaW.PrintLast Go.Proofs.YtneadgionjlicaaW.PrintMore
set_option linter.unusedVariables false
set_option linter.unusedSimpArgs false

theorem ite_ok {c : Bool} {A : ByteArray × Bool} (h : (if c = true then A else (⟨#[]⟩, false)).2 = true) : c = true ∧ A.2 = true := by
  cases c with
  | true => exact ⟨rfl, by simpa using h⟩
  | false => simp at h
theorem bne_no (b : Bool) : ¬ ((b != b) = true) := by cases b <;> decide
theorem down1 {k K : Nat} (h : K + 1 ≤ k) : ∃ j, k = j + 1 ∧ K ≤ j := ⟨k - 1, by omega, by omega⟩
end Go.Proofs.Ytneadgionjlicaa.P

-- For every code the law FnMachSum holds.
namespace Go.Proofs.Ytneadgionjlicaa.P
open Go.RowKit Go.Proofs.YtneadgionjlicaaW.PrintWords Go.Proofs.YtneadgionjlicaaW.PrintLast Go.Proofs.YtneadgionjlicaaW.PrintMore
set_option linter.unusedVariables false
set_option linter.unusedSimpArgs false

theorem drawMachBoth_f (l : List Int) (h : ∀ x ∈ l, (Lit.int .u8 x).wf = true) : ∃ (l1 : List Int) (s1 e1 : Int) (l2 : List Int) (s2 e2 : Int), l1.length ≤ 100 ∧ l2.length ≤ 100 ∧ Ev (fun k => spec_DrawMachBoth.f k l) (l1, s1, e1, l2, s2, e2) := by
  obtain ⟨r, h1, K0, h0⟩ := drawMach_f (code_of h) 0 (by omega)
  have g0 : ∀ k, K0 ≤ k → spec_l91Machine.f k (l.take 2000) 0 = some r := h0
  obtain ⟨q, e, hq⟩ := h1.2
  obtain ⟨r2, h2, K1, h3⟩ := drawMach_f (code_of h) q (by omega)
  dsimp only at h3
  rw [← e] at h3
  refine ⟨r.1, r.2.1, r.2.2.1, r2.1, r2.2.1, r2.2.2.1, h1.1, h2.1, K0 + K1, fun k hk => ?_⟩
  dsimp only
  unfold spec_DrawMachBoth.f
  rw [open_f, Option.bind_some, g0 k (by omega), Option.bind_some, h3 k (by omega), Option.bind_some]
theorem same_l0 (l : List Int) (hl : l.length ≤ 1000000) : ∀ (d i : Nat), i ≤ l.length → l.length - i = d → Ev (fun k => laws_sameInts.l0 k l l i) true := by
  intro d
  induction d with
  | zero =>
    intro i hi hd
    refine Ev.step (f := fun k => some true) (fun k => ?_) (Ev.now _)
    simp only [laws_sameInts.l0]; rw [if_neg (by omega)]
  | succ d ih =>
    intro i hi hd
    refine Ev.step (fun k => ?_) (ih (i + 1) (by omega) (by omega))
    simp only [laws_sameInts.l0]
    rw [if_pos (by omega), if_pos (by omega), if_pos (by omega), if_pos (by trivial), wsucc (by omega)]
theorem same_f (l : List Int) (x y : Int) (hl : l.length ≤ 1000000) : Ev (fun k => laws_sameMachine.f k l x y l x y) true := by
  obtain ⟨K, h⟩ := same_l0 l hl _ 0 (Nat.zero_le _) rfl
  have g : ∀ k, K ≤ k → laws_sameInts.l0 k l l 0 = some true := h
  refine ⟨K, fun k hk => ?_⟩
  dsimp only
  unfold laws_sameMachine.f laws_sameInts.f
  rw [if_pos rfl, g k hk, Option.bind_some, if_pos rfl, if_pos rfl, BEq.rfl]
theorem msr_ok {l : List Int} {st en : Int} (h : mok l st en = true) : ∃ m p, 0 < p ∧ Per (mq l st en) m p ∧ msr l st en = ((txt (cn (mq l st en))).1, true) ∧ (txt (cn (mq l st en))).2 = true := by
  obtain ⟨T, F, h1, h2⟩ := mok_shape h
  have hlt := h1.lt
  have hsp := cn_spec (by omega : 0 < T - F) (h1.per en)
  have ht : (txt (cn (mq l st en))).2 = true := by rw [txt_ok (by omega) (by omega)]
  refine ⟨F, T - F, by omega, h1.per en, ?_, ht⟩
  unfold msr
  rw [if_pos h, ← ht]
theorem msr_size (l : List Int) (st en : Int) : (msr l st en).1.size ≤ 122 := by
  unfold msr
  split
  · exact txt_size _
  · show (0 : Nat) ≤ 122; omega
theorem sum_eq {l1 l2 : List Int} {s1 e1 s2 e2 : Int} (h : mbok l1 s1 e1 l2 s2 e2 = true) (hx : (msr (mbr l1 s1 e1 l2 s2 e2).1 (mbr l1 s1 e1 l2 s2 e2).2.1 (mbr l1 s1 e1 l2 s2 e2).2.2.1).2 = true) :
    two (fun x y => x && y) (chrs (msr l1 s1 e1).1) (chrs (msr l2 s2 e2).1) = msr (mbr l1 s1 e1 l2 s2 e2).1 (mbr l1 s1 e1 l2 s2 e2).2.1 (mbr l1 s1 e1 l2 s2 e2).2.2.1 := by
  have e : mbr l1 s1 e1 l2 s2 e2 = (prL l1 l2 (l1.length * l2.length), ((prU s1.toNat s2.toNat l2.length (l1.length * l2.length) : Nat) : Int), ((prU e1.toNat e2.toNat l2.length (l1.length * l2.length) : Nat) : Int), true) := by unfold mbr; rw [if_pos h]
  rw [e] at hx ⊢
  dsimp only at hx ⊢
  unfold mbok at h
  rw [Bool.and_eq_true, Bool.and_eq_true, decide_eq_true_iff] at h
  obtain ⟨hm1, hm2, h5⟩ := h
  obtain ⟨m1, p1, c1, c2, c3, c4⟩ := msr_ok hm1
  obtain ⟨m2, p2, d1, d2, d3, d4⟩ := msr_ok hm2
  rw [c3, d3]
  obtain ⟨a1, a2, ⟨A, rfl, a3⟩, ⟨E, rfl, a4⟩⟩ := mok_of hm1
  obtain ⟨b1, b2, ⟨B, rfl, b3⟩, ⟨D, rfl, b4⟩⟩ := mok_of hm2
  have hmq := mq_pairs a2 b2 (by omega) (by omega) (by omega) (by omega) A B E D a3 b3 a4 b4
  simp only [Int.toNat_natCast] at hx ⊢
  unfold msr at hx ⊢
  have hmo : mok (prL l1 l2 (l1.length * l2.length)) ((prU A B l2.length (l1.length * l2.length) : Nat) : Int) ((prU E D l2.length (l1.length * l2.length) : Nat) : Int) = true := by
    cases hc : mok (prL l1 l2 (l1.length * l2.length)) ((prU A B l2.length (l1.length * l2.length) : Nat) : Int) ((prU E D l2.length (l1.length * l2.length) : Nat) : Int) with
    | true => rfl
    | false => rw [hc] at hx; cases hx
  rw [if_pos hmo, hmq]
  unfold two
  rw [txt_parse c1 c2 c4, txt_parse d1 d2 d4, txt_setf c1 c2 c4, txt_setf d1 d2 d4]
  rfl
theorem lawMachSum_ev (l : List Int) (h : ∀ x ∈ l, (Lit.int .u8 x).wf = true) : Ev (fun k => laws_FnMachSum.f k l) true := by
  by_cases hl : (l.length : Int) > 1048576
  · exact ⟨0, fun k _ => by dsimp only; unfold laws_FnMachSum.f; rw [if_pos hl]⟩
  · obtain ⟨l1, s1, e1, l2, s2, e2, hl1, hl2, K1, h1⟩ := drawMachBoth_f l h
    dsimp only at h1
    obtain ⟨K2, h2⟩ := imachBoth_f l1 s1 e1 l2 s2 e2 (by omega) (by omega)
    dsimp only at h2
    obtain ⟨K3, h3⟩ := smachBoth_f l1 s1 e1 l2 s2 e2 (by omega) (by omega)
    dsimp only at h3
    have hP : (mbr l1 s1 e1 l2 s2 e2).1.length ≤ 1000000 := by
      unfold mbr
      split
      · rename_i hb
        unfold mbok at hb
        rw [Bool.and_eq_true, Bool.and_eq_true, decide_eq_true_iff] at hb
        rw [prL_length]; omega
      · show (0 : Nat) ≤ 1000000; omega
    obtain ⟨K5, h5⟩ := same_f (mbr l1 s1 e1 l2 s2 e2).1 (mbr l1 s1 e1 l2 s2 e2).2.1 (mbr l1 s1 e1 l2 s2 e2).2.2.1 hP
    dsimp only at h5
    have main : ∀ k, K5 + 1 ≤ k → laws_FnMachSum.j0 k (mbr l1 s1 e1 l2 s2 e2).2.2.2 (mbr l1 s1 e1 l2 s2 e2).2.2.2 (!(mbr l1 s1 e1 l2 s2 e2).2.2.2) l1 s1 e1 l2 s2 e2 (mbr l1 s1 e1 l2 s2 e2).1 (mbr l1 s1 e1 l2 s2 e2).2.1 (mbr l1 s1 e1 l2 s2 e2).2.2.1 (mbr l1 s1 e1 l2 s2 e2).1 (mbr l1 s1 e1 l2 s2 e2).2.1 (mbr l1 s1 e1 l2 s2 e2).2.2.1 = some true := by
      intro k hk
      obtain ⟨k, rfl, hk2⟩ := down1 hk
      cases hb : mbok l1 s1 e1 l2 s2 e2 with
      | false =>
        have e : (mbr l1 s1 e1 l2 s2 e2).2.2.2 = false := by unfold mbr; rw [hb]; rfl
        have h6 := h5 k (by omega)
        simp only [laws_FnMachSum.j0]
        rw [e, if_pos (by decide), h6, Option.bind_some, if_pos rfl, BEq.rfl]
      | true =>
        have e : (mbr l1 s1 e1 l2 s2 e2).2.2.2 = true := by unfold mbr; rw [hb]; rfl
        have g1 := machSet_f (show (mbr l1 s1 e1 l2 s2 e2).1.length ≤ 1000000000000 by omega) (mbr l1 s1 e1 l2 s2 e2).2.1 (mbr l1 s1 e1 l2 s2 e2).2.2.1
        have g2 := machSet_f (show l1.length ≤ 1000000000000 by omega) s1 e1
        have g3 := machSet_f (show l2.length ≤ 1000000000000 by omega) s2 e2
        have z2 := msr_size l1 s1 e1
        have z3 := msr_size l2 s2 e2
        have g4 := makeBoth_f (msr l1 s1 e1).1 (msr l2 s2 e2).1 (by omega) (by omega)
        have hs := sum_eq (l1 := l1) (l2 := l2) (s1 := s1) (e1 := e1) (s2 := s2) (e2 := e2) hb
        simp only [laws_FnMachSum.j0]
        rw [e, if_neg (by decide), g1, Option.bind_some, g2, Option.bind_some, g3, Option.bind_some, g4, Option.bind_some]
        cases hx : (msr (mbr l1 s1 e1 l2 s2 e2).1 (mbr l1 s1 e1 l2 s2 e2).2.1 (mbr l1 s1 e1 l2 s2 e2).2.2.1).2 with
        | false => rw [if_neg (by decide)]
        | true =>
          rw [if_pos rfl, hs hx, hx, BEq.rfl]
          cases (msr l1 s1 e1).2 <;> cases (msr l2 s2 e2).2 <;> rfl
    refine ⟨K1 + K2 + K3 + K5 + 1, fun k hk => ?_⟩
    dsimp only
    unfold laws_FnMachSum.f
    rw [if_neg hl, h1 k (by omega), Option.bind_some]
    dsimp only
    rw [h2 k (by omega), Option.bind_some, h3 k (by omega), Option.bind_some, h5 k (by omega), Option.bind_some, if_pos rfl, if_neg (bne_no _)]
    exact main k (by omega)
theorem lawMachSum_pure : laws_FnMachSum.Pure := fun l _ _ h => (lawMachSum_ev l h).rounds
end Go.Proofs.Ytneadgionjlicaa.P

-- For every code the law FnMachSum holds.
namespace Go.Proofs.Ytneadgionjlicaa.Pure
theorem FnMachSum : Go.Proofs.Ytneadgionjlicaa.P.laws_FnMachSum.Pure := Go.Proofs.Ytneadgionjlicaa.P.lawMachSum_pure
end Go.Proofs.Ytneadgionjlicaa.Pure
