/- What these laws reach, joined by a program of this session: contracts (written by that program over the kit's print, or by hand) and plain lemmas. -/
import Derived.Shelf.Strings.Builder1
import Derived.Lib.Builder
import Derived.Lib.UnsafeStr
import Derived.Lib.Walk
import Derived.Laws.Externs
import Derived.BigCall
import Derived.Lib.Bytealg
import Derived.BigGuard
import Derived.Test.YtneadgionjlicaaK1
import Derived.Test.YtneadgionjlicaaK3
open Go.Proofs.YtneadgionjlicaaW.PrintWords renaming below_alloc → yA, pw_below_drewN → yB, below_drew1 → yC, below_set → yD, blk_drewN → yE, blk_drew → yF, blk_alloc → yG, below_step → yP, below_size → yQ
open Go.Proofs.YtneadgionjlicaaW.PrintWords.Kd renaming R_alloc → yH, R_drewN → yI, R_drew → yJ
open List renaming setIfInBounds_toArray → yK, set_cons_zero → yL, set_cons_succ → yM
namespace Go.Proofs.Ytneadgionjlicaa.P
open Go.RowKit Go.Proofs.YtneadgionjlicaaW.PrintWords Go.Proofs.YtneadgionjlicaaW.PrintLast Go.Proofs.YtneadgionjlicaaW.PrintMore
attribute [local go_sem] max2_int min2_int max_two min_two max_three min_three max_four min_four   -- for this text's walks alone
set_option linter.unusedVariables false
set_option linter.unusedSimpArgs false

/-! ### spec_DrawMachBoth: function 20 -/
def spec_DrawMachBoth.f (k:Nat) (l0:List Int):Option (List Int × Int × Int × List Int × Int × Int):=(spec_l6Open.f l0).bind fun bt563=>((spec_l91Machine.f k bt563.1 bt563.2).bind fun bt566=>((spec_l91Machine.f k bt563.1 bt566.2.2.2).bind fun bt572=>(some (bt566.1,bt566.2.1,bt566.2.2.1,bt572.1,bt572.2.1,bt572.2.2.1))))
theorem spec_DrawMachBoth.mono:∀ a0 k,LeO (spec_DrawMachBoth.f k a0) (spec_DrawMachBoth.f (k+1) a0):=by
 intro a0 k
 unfold spec_DrawMachBoth.f
 repeat' first
   | (with_reducible exact spec_l91Machine.mono _ _ _)
   | (with_reducible exact LeO.refl _)
   | (with_reducible exact LeO.none _)
   | (with_reducible refine LeO.ite ?_ ?_)
   | (with_reducible refine LeO.bind ?_ (fun _=>?_))
   | exact spec_l91Machine.mono _ _ _
   | exact LeO.none _
   | refine LeO.ite ?_ ?_
   | refine LeO.bind ?_ (fun _=>?_)
set_option maxHeartbeats 8000000 in
set_option maxRecDepth 100000 in
theorem spec_DrawMachBoth.calls (k:Nat) (A0:Option Addr) (c0:Nat) (l0:List Int) (r1:List Int) (r2:Int) (r3:Int) (r4:List Int) (r5:Int) (r6:Int) (w:World) (hr0:Kd.C (Kd.int .u8) w A0 l0.length l0) (hc0:l0.length≤c0) (h:spec_DrawMachBoth.f k l0=some (r1,r2,r3,r4,r5,r6)) :
  Calls Try.prog 20 #[.slice A0 l0.length c0] w fun e w'=>∃ v0_ v3_:Value,e=.returned (.tuple #[.agg #[v0_,.int .i64 r2,.int .i64 r3],.agg #[v3_,.int .i64 r5,.int .i64 r6]])∧Kd.R (Kd.int .i64) 3 w' w.heap.size (fun k_=>some k_≠(v3_:Value).ownBlock) v0_ r1∧Kd.R (Kd.int .i64) 3 w' w.heap.size (fun k_=>some k_≠(v0_:Value).ownBlock) v3_ r4∧Below w.heap.size w w':=by
 have hu31:=Try.underlying31
 have HR0:=Aside0.mk hr0
 have HC0:=Aside0.mk hc0
 clear hr0 hc0
 have HB:=Aside0.mk (Below.refl w.heap.size w)
 have H:((spec_l6Open.f l0).bind fun bt563=>((spec_l91Machine.f k bt563.1 bt563.2).bind fun bt566=>((spec_l91Machine.f k bt563.1 bt566.2.2.2).bind fun bt572=>(some (bt566.1,bt566.2.1,bt566.2.2.1,bt572.1,bt572.2.1,bt572.2.2.1)))))=some (r1,r2,r3,r4,r5,r6):=h
 clear h
 replace H:=Option.bind_eq_some_iff.mp H
 obtain ⟨⟨t563,t564⟩,A20,H⟩:=H
 replace H:((spec_l91Machine.f k t563 t564).bind fun bt566=>((spec_l91Machine.f k t563 bt566.2.2.2).bind fun bt572=>(some (bt566.1,bt566.2.1,bt566.2.2.1,bt572.1,bt572.2.1,bt572.2.2.1))))=some (r1,r2,r3,r4,r5,r6):=H
 have A2:=Aside0.mk A20
 clear A20
 replace H:=Option.bind_eq_some_iff.mp H
 obtain ⟨⟨t566,t569,t570,t571⟩,A30,H⟩:=H
 replace H:((spec_l91Machine.f k t563 t571).bind fun bt572=>(some (t566,t569,t570,bt572.1,bt572.2.1,bt572.2.2.1)))=some (r1,r2,r3,r4,r5,r6):=H
 have A3:=Aside0.mk A30
 clear A30
 replace H:=Option.bind_eq_some_iff.mp H
 obtain ⟨⟨t572,t575,t576,t577⟩,A40,H⟩:=H
 replace H:(some (t566,t569,t570,t572,t575,t576))=some (r1,r2,r3,r4,r5,r6):=H
 have A4:=Aside0.mk A40
 clear A40
 simp only [Option.some.injEq,Prod.mk.injEq] at H
 obtain ⟨rfl,rfl,rfl,rfl,rfl,rfl⟩:=H
 go_enter Try.func20,Try.ntmps20
 go_wp2_with (first|((with_reducible refine gate_dst (N:=2) rfl ?_);refine box_event ?hg (N:=2) ?hd (cs:=#[.slice none 0 0,.int .i64 0,.int .i64 0]) (t:=31) ?hr ?_;(case hd=>rfl);(case hg=>rfl);(case hr=>first|(go_simp;done)|(go_simp;rfl));intro gb561 hg w5 hbox hb;have n0_:=Aside0.mk (yP (by repeat (first|(with_reducible first|exact HB.out|apply yA|apply yB|apply yC)|exact HB.out)) hb);have n1_:=Aside0.mk (hbox);have n2_:=Aside0.mk ((by rw [hg];exact (yQ (by repeat (first|(with_reducible first|exact HB.out|apply yA|apply yB|apply yC)|exact HB.out))):w.heap.size≤gb561));have n3_:=Aside0.mk ((by rw [hg];exact (yQ (by repeat (first|(with_reducible first|exact HB.out|apply yA|apply yB|apply yC)|exact HB.out))):w.heap.size≤gb561));clear HB;have HB:=n0_;have BK561:=n1_;have GW561:=n2_;have GE561:=n3_;clear n0_ n1_ n2_ n3_;clear hb hbox hg)|((with_reducible refine gate_dst (N:=3) rfl ?_);refine box_event ?hg (N:=3) ?hd (cs:=#[.slice none 0 0,.int .i64 0,.int .i64 0]) (t:=31) ?hr ?_;(case hd=>rfl);(case hg=>rfl);(case hr=>first|(go_simp;done)|(go_simp;rfl));intro gb562 hg w6 hbox hb;have n0_:=Aside0.mk (blk_below (g:=gb561) (o:=.cells #[.slice none 0 0,.int .i64 0,.int .i64 0] 31 (0,0)) (by (with_reducible repeat (first|refine yE ?_ _|refine yF ?_|refine yG ?_ _));exact BK561.out) hb);have n1_:=Aside0.mk (yP (by repeat (first|(with_reducible first|exact HB.out|apply yA|apply yB|apply yC|refine yD ?_ GE561.out)|exact HB.out)) hb);have n2_:=Aside0.mk (hbox);have n3_:=Aside0.mk ((by rw [hg];exact (yQ (by repeat (first|(with_reducible first|exact HB.out|apply yA|apply yB|apply yC|refine yD ?_ GE561.out)|exact HB.out))):w.heap.size≤gb562));have n4_:=Aside0.mk ((by rw [hg];exact (yQ (by repeat (first|(with_reducible first|exact HB.out|apply yA|apply yB|apply yC|refine yD ?_ GE561.out)|exact HB.out))):w.heap.size≤gb562));have n5_:=Aside0.mk ((by rw [hg];exact Nat.ne_of_lt (blk_lt (g:=gb561) (o:=.cells #[.slice none 0 0,.int .i64 0,.int .i64 0] 31 (0,0)) (by (with_reducible repeat (first|refine yE ?_ _|refine yF ?_|refine yG ?_ _));exact BK561.out)):gb561≠gb562));have n6_:=Aside0.mk ((by rw [hg];exact Nat.ne_of_gt (blk_lt (g:=gb561) (o:=.cells #[.slice none 0 0,.int .i64 0,.int .i64 0] 31 (0,0)) (by (with_reducible repeat (first|refine yE ?_ _|refine yF ?_|refine yG ?_ _));exact BK561.out)):gb562≠gb561));clear BK561;clear HB;have BK561:=n0_;have HB:=n1_;have BK562:=n2_;have GW562:=n3_;have GE562:=n4_;have NB561_562:=n5_;have NB562_561:=n6_;clear n0_ n1_ n2_ n3_ n4_ n5_ n6_;clear hb hbox hg)|((with_reducible refine gate_callee (f:=28) rfl ?_);refine goesL_ (some 6) rfl rfl Try.func28 (by kernel_rfl) rfl #[.slice A0 l0.length c0] rfl (by (try simp only [List.map_toArray,List.map_cons,List.map_nil]);first|done|rfl|(simp only [List.length_drop,List.length_take];rfl)) ?_;(with_reducible refine (spec_l6Open.calls _ _ l0 t563 t564 w _ ?side1 ?side2 ?side3 A2.out).mono ?_);(case side1=>repeat (first|(with_reducible first|exact HB.out|apply yA|apply yB|apply yC|refine yD ?_ GE561.out|refine yD ?_ GE562.out)|exact HB.out));(case side2=>exact HR0.out);(case side3=>exact HC0.out);rintro e w7 ⟨g565,rfl,hi,hb,hb2⟩;refine ⟨_,rfl,?_⟩;have n0_:=Aside0.mk (blk_below (g:=gb561) (o:=.cells #[.slice none 0 0,.int .i64 0,.int .i64 0] 31 (0,0)) (by (with_reducible repeat (first|refine yE ?_ _|refine yF ?_|refine yG ?_ _));exact BK561.out) hb2);have n1_:=Aside0.mk (blk_below (g:=gb562) (o:=.cells #[.slice none 0 0,.int .i64 0,.int .i64 0] 31 (0,0)) (by (with_reducible repeat (first|refine yE ?_ _|refine yF ?_|refine yG ?_ _));exact BK562.out) hb2);have n2_:=Aside0.mk (hb);have n3_:=Aside0.mk (hi);have n4_:=Aside0.mk (IsS74.ne_blk hi (blk_below (g:=gb561) (o:=.cells #[.slice none 0 0,.int .i64 0,.int .i64 0] 31 (0,0)) (by (with_reducible repeat (first|refine yE ?_ _|refine yF ?_|refine yG ?_ _));exact BK561.out) hb2) (by decide));have n5_:=Aside0.mk (Ne.symm (IsS74.ne_blk hi (blk_below (g:=gb561) (o:=.cells #[.slice none 0 0,.int .i64 0,.int .i64 0] 31 (0,0)) (by (with_reducible repeat (first|refine yE ?_ _|refine yF ?_|refine yG ?_ _));exact BK561.out) hb2) (by decide)));have n6_:=Aside0.mk (IsS74.ne_blk hi (blk_below (g:=gb562) (o:=.cells #[.slice none 0 0,.int .i64 0,.int .i64 0] 31 (0,0)) (by (with_reducible repeat (first|refine yE ?_ _|refine yF ?_|refine yG ?_ _));exact BK562.out) hb2) (by decide));have n7_:=Aside0.mk (Ne.symm (IsS74.ne_blk hi (blk_below (g:=gb562) (o:=.cells #[.slice none 0 0,.int .i64 0,.int .i64 0] 31 (0,0)) (by (with_reducible repeat (first|refine yE ?_ _|refine yF ?_|refine yG ?_ _));exact BK562.out) hb2) (by decide)));clear BK561;clear BK562;clear HB;have BK561:=n0_;have BK562:=n1_;have HB:=n2_;have HI565:=n3_;have NB565_561:=n4_;have NB561_565:=n5_;have NB565_562:=n6_;have NB562_565:=n7_;clear n0_ n1_ n2_ n3_ n4_ n5_ n6_ n7_;(try clear hb);(try clear hb2);(try clear hk);(try clear hi))|((with_reducible refine gate_callee (f:=37) rfl ?_);refine goesL_ (some 8) rfl rfl Try.func37 (by kernel_rfl) rfl #[.pointer (some ⟨g565,0,none⟩)] rfl (by (try simp only [List.map_toArray,List.map_cons,List.map_nil]);first|done|rfl|(simp only [List.length_drop,List.length_take];rfl)) ?_;(with_reducible refine (spec_l91Machine.calls k g565 t563 t564 t566 t569 t570 t571 w _ ?side1 ?side2 A3.out).mono ?_);(case side1=>repeat (first|(with_reducible first|exact HI565.out|apply IsS74.alloc|apply IsS74.drewN|apply IsS74.drew|apply IsS74.set_1|refine IsS74.far ?_ NB565_561.out _|refine IsS74.far ?_ NB565_562.out _)|exact HI565.out));(case side2=>repeat (first|(with_reducible first|exact HB.out|apply yA|apply yB|apply yC|refine yD ?_ (IsS74.ge HI565.out)|refine yD ?_ GE561.out|refine yD ?_ GE562.out)|exact HB.out));rintro e w8 ⟨v567,rfl,ho0,hi,hb,hk⟩;refine ⟨_,rfl,?_⟩;have n0_:=Aside0.mk (KeepBut.blk hk (g':=gb561) (o:=.cells #[.slice none 0 0,.int .i64 0,.int .i64 0] 31 (0,0)) (by (with_reducible repeat (first|refine yE ?_ _|refine yF ?_|refine yG ?_ _));exact BK561.out) NB561_565.out (by simp));have n1_:=Aside0.mk (KeepBut.blk hk (g':=gb562) (o:=.cells #[.slice none 0 0,.int .i64 0,.int .i64 0] 31 (0,0)) (by (with_reducible repeat (first|refine yE ?_ _|refine yF ?_|refine yG ?_ _));exact BK562.out) NB562_565.out (by simp));have n2_:=Aside0.mk (Kd.R_lower ho0 (yQ (by repeat (first|(with_reducible first|exact HB.out|apply yA|apply yB|apply yC|refine yD ?_ (IsS74.ge HI565.out)|refine yD ?_ GE561.out|refine yD ?_ GE562.out)|exact HB.out))));have n3_:=Aside0.mk (hb);have n4_:=Aside0.mk (hi);clear BK561;clear BK562;clear HB;clear HI565;have BK561:=n0_;have BK562:=n1_;have HO568:=n2_;have HB:=n3_;have HI565:=n4_;clear n0_ n1_ n2_ n3_ n4_;(try clear hb);(try clear hb2);(try clear hk);(try clear hi);(try clear ho0))|((with_reducible refine gate_callee (f:=37) rfl ?_);refine goesL_ (some 10) rfl rfl Try.func37 (by kernel_rfl) rfl #[.pointer (some ⟨g565,0,none⟩)] rfl (by (try simp only [List.map_toArray,List.map_cons,List.map_nil]);first|done|rfl|(simp only [List.length_drop,List.length_take];rfl)) ?_;(with_reducible refine (spec_l91Machine.calls k g565 t563 t571 t572 t575 t576 t577 w _ ?side1 ?side2 A4.out).mono ?_);(case side1=>repeat (first|(with_reducible first|exact HI565.out|apply IsS74.alloc|apply IsS74.drewN|apply IsS74.drew|apply IsS74.set_1|refine IsS74.far ?_ NB565_561.out _|refine IsS74.far ?_ NB565_562.out _)|exact HI565.out));(case side2=>repeat (first|(with_reducible first|exact HB.out|apply yA|apply yB|apply yC|refine yD ?_ (IsS74.ge HI565.out)|refine yD ?_ GE561.out|refine yD ?_ GE562.out)|exact HB.out));rintro e w9 ⟨v573,rfl,ho0,hi,hb,hk⟩;refine ⟨_,rfl,?_⟩;have n0_:=Aside0.mk (KeepBut.blk hk (g':=gb561) (o:=.cells #[.slice none 0 0,.int .i64 0,.int .i64 0] 31 (0,0)) (by (with_reducible repeat (first|refine yE ?_ _|refine yF ?_|refine yG ?_ _));exact BK561.out) NB561_565.out (by simp));have n1_:=Aside0.mk (KeepBut.blk hk (g':=gb562) (o:=.cells #[.slice none 0 0,.int .i64 0,.int .i64 0] 31 (0,0)) (by (with_reducible repeat (first|refine yE ?_ _|refine yF ?_|refine yG ?_ _));exact BK562.out) NB562_565.out (by simp));have n2_:=Aside0.mk (Kd.R_mono (Kd.R_told (Kd.R_oldK (IsS74.apart (show IsS74 w _ g565 t563 t571 from by repeat (first|(with_reducible first|exact HI565.out|apply IsS74.alloc|apply IsS74.drewN|apply IsS74.drew|apply IsS74.set_1|refine IsS74.far ?_ NB565_561.out _|refine IsS74.far ?_ NB565_562.out _)|exact HI565.out)) (by (with_reducible repeat (first|apply yH|apply yI|apply yJ));exact HO568.out) (by decide)) hk) (Kd.R_base ho0)) (fun _ h_=>h_.1));have n3_:=Aside0.mk (Kd.R_lower (Kd.R_new' ho0 (Kd.R_lt (by (with_reducible repeat (first|apply yH|apply yI|apply yJ));exact HO568.out))) (yQ (by repeat (first|(with_reducible first|exact HB.out|apply yA|apply yB|apply yC|refine yD ?_ (IsS74.ge HI565.out)|refine yD ?_ GE561.out|refine yD ?_ GE562.out)|exact HB.out))));have n4_:=Aside0.mk (hb);have n5_:=Aside0.mk (hi);clear BK561;clear BK562;clear HO568;clear HB;clear HI565;have BK561:=n0_;have BK562:=n1_;have HO568:=n2_;have HO574:=n3_;have HB:=n4_;have HI565:=n5_;clear n0_ n1_ n2_ n3_ n4_ n5_;(try clear hb);(try clear hb2);(try clear hk);(try clear hi);(try clear ho0);obtain ⟨Ao10,co10,eo10⟩:=Kd.R_slice HO568.out;subst eo10;have hnb11:=NB561_562.out;have hnc11:=NB562_561.out;have hnb12:=NB561_565.out;have hnc12:=NB565_561.out;have hcz13_0:w9.cell? ⟨gb561,0,none⟩=some (.slice none 0 0):=(blk_cell BK561.out 0).trans rfl;have hcz13_1:w9.cell? ⟨gb561,1,none⟩=some (.int .i64 0):=(blk_cell BK561.out 1).trans rfl;have hcz13_2:w9.cell? ⟨gb561,2,none⟩=some (.int .i64 0):=(blk_cell BK561.out 2).trans rfl;have hfz13_0:=blk_frozen BK561.out 0;have hfz13_1:=blk_frozen BK561.out 1;have hfz13_2:=blk_frozen BK561.out 2;obtain ⟨Ao14,co14,eo14⟩:=Kd.R_slice HO574.out;subst eo14;have hnb15:=NB562_565.out;have hnc15:=NB565_562.out;have hcz16_0:w9.cell? ⟨gb562,0,none⟩=some (.slice none 0 0):=(blk_cell BK562.out 0).trans rfl;have hcz16_1:w9.cell? ⟨gb562,1,none⟩=some (.int .i64 0):=(blk_cell BK562.out 1).trans rfl;have hcz16_2:w9.cell? ⟨gb562,2,none⟩=some (.int .i64 0):=(blk_cell BK562.out 2).trans rfl;have hfz16_0:=blk_frozen BK562.out 0;have hfz16_1:=blk_frozen BK562.out 1;have hfz16_2:=blk_frozen BK562.out 2))
 refine bodyPost_ret (results_cc rfl _ _ gb561 gb562 31 31 #[.slice Ao10 t566.length co10,.int .i64 t569,.int .i64 t570] #[.slice Ao14 t572.length co14,.int .i64 t575,.int .i64 t576] (0,0) (0,0) _ _ rfl (by (with_reducible repeat (first|refine yE ?_ _|refine yF ?_|refine yG ?_ _));refine blk_far ?_ NB561_562.out _;(with_reducible repeat (first|refine yE ?_ _|refine yF ?_|refine yG ?_ _));refine blk_far ?_ NB561_562.out _;(with_reducible repeat (first|refine yE ?_ _|refine yF ?_|refine yG ?_ _));refine blk_far ?_ NB561_562.out _;(with_reducible repeat (first|refine yE ?_ _|refine yF ?_|refine yG ?_ _));refine blk_put (cs:=#[.slice Ao10 t566.length co10,.int .i64 t569,.int .i64 0]) ?_ 2 _ rfl;(with_reducible repeat (first|refine yE ?_ _|refine yF ?_|refine yG ?_ _));refine blk_put (cs:=#[.slice Ao10 t566.length co10,.int .i64 0,.int .i64 0]) ?_ 1 _ rfl;(with_reducible repeat (first|refine yE ?_ _|refine yF ?_|refine yG ?_ _));refine blk_put (cs:=#[.slice none 0 0,.int .i64 0,.int .i64 0]) ?_ 0 _ rfl;(with_reducible repeat (first|refine yE ?_ _|refine yF ?_|refine yG ?_ _));exact BK561.out) Try.underlying31 rfl (by kernel_rfl) rfl (by (with_reducible repeat (first|refine yE ?_ _|refine yF ?_|refine yG ?_ _));refine blk_put (cs:=#[.slice Ao14 t572.length co14,.int .i64 t575,.int .i64 0]) ?_ 2 _ rfl;(with_reducible repeat (first|refine yE ?_ _|refine yF ?_|refine yG ?_ _));refine blk_put (cs:=#[.slice Ao14 t572.length co14,.int .i64 0,.int .i64 0]) ?_ 1 _ rfl;(with_reducible repeat (first|refine yE ?_ _|refine yF ?_|refine yG ?_ _));refine blk_put (cs:=#[.slice none 0 0,.int .i64 0,.int .i64 0]) ?_ 0 _ rfl;(with_reducible repeat (first|refine yE ?_ _|refine yF ?_|refine yG ?_ _));refine blk_far ?_ NB562_561.out _;(with_reducible repeat (first|refine yE ?_ _|refine yF ?_|refine yG ?_ _));refine blk_far ?_ NB562_561.out _;(with_reducible repeat (first|refine yE ?_ _|refine yF ?_|refine yG ?_ _));refine blk_far ?_ NB562_561.out _;(with_reducible repeat (first|refine yE ?_ _|refine yF ?_|refine yG ?_ _));exact BK562.out) Try.underlying31 rfl (by kernel_rfl)) rfl ?_
 exact ⟨_,_,by first|rfl|(simp [errW_none,errW_some]<;>rfl)|(simp [*,errW_none,errW_some]<;>rfl)|(simp [errW_none,errW_some];exact ⟨rfl,rfl⟩),by (with_reducible repeat (first|apply yH|apply yI|apply yJ));exact Kd.R_mono (Kd.R_far (p:=⟨gb562,2,none⟩) (Kd.R_far (p:=⟨gb562,1,none⟩) (Kd.R_far (p:=⟨gb562,0,none⟩) (Kd.R_far (p:=⟨gb561,2,none⟩) (Kd.R_far (p:=⟨gb561,1,none⟩) (Kd.R_far (p:=⟨gb561,0,none⟩) (Kd.R_types (Kd.R_types HO568.out BK561.out (by decide)) BK562.out (by decide)) (fun _ hk=>hk.1.2) (.slice Ao10 t566.length co10)) (fun _ hk=>hk.1.2) (.int .i64 t569)) (fun _ hk=>hk.1.2) (.int .i64 t570)) (fun _ hk=>hk.2) (.slice Ao14 t572.length co14)) (fun _ hk=>hk.2) (.int .i64 t575)) (fun _ hk=>hk.2) (.int .i64 t576)) (fun _ hk=>hk.1.1.2),by (with_reducible repeat (first|apply yH|apply yI|apply yJ));exact Kd.R_mono (Kd.R_far (p:=⟨gb562,2,none⟩) (Kd.R_far (p:=⟨gb562,1,none⟩) (Kd.R_far (p:=⟨gb562,0,none⟩) (Kd.R_far (p:=⟨gb561,2,none⟩) (Kd.R_far (p:=⟨gb561,1,none⟩) (Kd.R_far (p:=⟨gb561,0,none⟩) (Kd.R_types (Kd.R_types HO574.out BK561.out (by decide)) BK562.out (by decide)) (fun _ hk=>hk.1.2) (.slice Ao10 t566.length co10)) (fun _ hk=>hk.1.2) (.int .i64 t569)) (fun _ hk=>hk.1.2) (.int .i64 t570)) (fun _ hk=>hk.2) (.slice Ao14 t572.length co14)) (fun _ hk=>hk.2) (.int .i64 t575)) (fun _ hk=>hk.2) (.int .i64 t576)) (fun _ hk=>hk.1.1.2),by repeat (first|(with_reducible first|exact HB.out|apply yA|apply yB|apply yC|refine yD ?_ (IsS74.ge HI565.out)|refine yD ?_ GE561.out|refine yD ?_ GE562.out)|exact HB.out)⟩

end Go.Proofs.Ytneadgionjlicaa.P

namespace Go.Proofs.Ytneadgionjlicaa.P
open Go.RowKit Go.Proofs.YtneadgionjlicaaW.PrintWords Go.Proofs.YtneadgionjlicaaW.PrintLast Go.Proofs.YtneadgionjlicaaW.PrintMore
attribute [local go_sem] max2_int min2_int max_two min_two max_three min_three max_four min_four   -- for this text's walks alone
set_option linter.unusedVariables false
set_option linter.unusedSimpArgs false

/-! ### spec_MachIn: function 38 -/
def spec_MachIn.l0:Nat→Int→Int→List Int→Int→Int→Option (Bool)
 | 0,_,_,_,_,_=>none
 | k+1,x3,x4,x488000,x488001,x488002=>if x4<x3 then (if 0≤x4 then (if x4<(x488000.length:Int) then (if 0≤x3 then ((spec_l6In.f (rd x488000 x4) 0 (wrap64 ((shl .i64 1 x3) - 1))).bind fun t489=>(if t489=true then (spec_MachIn.l0 k x3 (wrap64 (x4+1)) x488000 x488001 x488002) else (some false))) else (none)) else (none)) else (none)) else ((spec_l6In.f x3 1 5).bind fun t490=>(if t490=true then (if 0≤x3 then ((spec_l6In.f x488001 0 (wrap64 ((shl .i64 1 x3) - 1))).bind fun t491=>(if t491=true then ((spec_l6In.f x488002 0 (wrap64 ((shl .i64 1 x3) - 1))).bind fun t492=>(some t492)) else (some false))) else (none)) else (some false)))
def spec_MachIn.f (k:Nat) (l0_0:List Int) (a0_1:Int) (a0_2:Int):Option (Bool):=spec_MachIn.l0 k (l0_0.length:Int) 0 l0_0 a0_1 a0_2
theorem spec_MachIn.mono_l:∀ k,(∀ y0 y1 y2 y3 y4,LeO (spec_MachIn.l0 k y0 y1 y2 y3 y4) (spec_MachIn.l0 (k+1) y0 y1 y2 y3 y4))
 | 0=>fun _ _ _ _ _ r h=>by simp [spec_MachIn.l0] at h
 | k+1=>by
  have ih0:=spec_MachIn.mono_l k
  ·intro y0 y1 y2 y3 y4
   unfold spec_MachIn.l0
   repeat' first
   | (with_reducible exact ih0 _ _ _ _ _)
   | (with_reducible exact LeO.refl _)
   | (with_reducible exact LeO.none _)
   | (with_reducible refine LeO.ite ?_ ?_)
   | (with_reducible refine LeO.bind ?_ (fun _=>?_))
   | exact ih0 _ _ _ _ _
   | exact LeO.none _
   | refine LeO.ite ?_ ?_
   | refine LeO.bind ?_ (fun _=>?_)
theorem spec_MachIn.mono:∀ a0 a1 a2 k,LeO (spec_MachIn.f k a0 a1 a2) (spec_MachIn.f (k+1) a0 a1 a2):=by
 intro a0 a1 a2 k
 have ih0:=spec_MachIn.mono_l k
 unfold spec_MachIn.f
 repeat' first
   | (with_reducible exact ih0 _ _ _ _ _)
   | (with_reducible exact LeO.refl _)
   | (with_reducible exact LeO.none _)
   | (with_reducible refine LeO.ite ?_ ?_)
   | (with_reducible refine LeO.bind ?_ (fun _=>?_))
   | exact ih0 _ _ _ _ _
   | exact LeO.none _
   | refine LeO.ite ?_ ?_
   | refine LeO.bind ?_ (fun _=>?_)
set_option maxHeartbeats 8000000 in
set_option maxRecDepth 100000 in
theorem spec_MachIn.calls (k:Nat) (A0_0:Option Addr) (c0_0:Nat) (l0_0:List Int) (a0_1:Int) (a0_2:Int) (r:Bool) (w:World) (hr0_0:Kd.C (Kd.int .i64) w A0_0 l0_0.length l0_0) (hc0_0:l0_0.length≤c0_0) (h:spec_MachIn.f k l0_0 a0_1 a0_2=some r) :
  Calls Try.prog 38 #[.agg #[.slice A0_0 l0_0.length c0_0,.int .i64 a0_1,.int .i64 a0_2]] w fun e w'=>e=.returned (.bool r)∧Below w.heap.size w w':=by
 have hu31:=Try.underlying31
 have HR0_0:=Aside0.mk hr0_0
 have HC0_0:=Aside0.mk hc0_0
 clear hr0_0 hc0_0
 have HB:=Aside0.mk (Below.refl w.heap.size w)
 have H:(spec_MachIn.l0 k (l0_0.length:Int) 0 l0_0 a0_1 a0_2)=some r:=h
 clear h
 have H':=Aside0.mk H
 clear H
 go_enter Try.func38,Try.ntmps38
 go_wp2_with (first|((with_reducible refine gate_dst (N:=1) rfl ?_);refine box_event ?hg (N:=1) ?hd (cs:=#[.slice A0_0 l0_0.length c0_0,.int .i64 a0_1,.int .i64 a0_2]) (t:=31) ?hr ?_;(case hd=>rfl);(case hg=>rfl);(case hr=>first|(go_simp;done)|(go_simp;rfl));intro gb487 hg w2 hbox hb;have n0_:=Aside0.mk (yP (by repeat (first|(with_reducible first|exact HB.out|apply yA|apply yB|apply yC)|exact HB.out)) hb);have n1_:=Aside0.mk (hbox);have n2_:=Aside0.mk ((by rw [hg];exact (yQ (by repeat (first|(with_reducible first|exact HB.out|apply yA|apply yB|apply yC)|exact HB.out))):w.heap.size≤gb487));have n3_:=Aside0.mk ((by rw [hg];exact (yQ (by repeat (first|(with_reducible first|exact HB.out|apply yA|apply yB|apply yC)|exact HB.out))):w.heap.size≤gb487));clear HB;have HB:=n0_;have BK487:=n1_;have GW487:=n2_;have GE487:=n3_;clear n0_ n1_ n2_ n3_;clear hb hbox hg;have hcz3_0:w2.cell? ⟨gb487,0,none⟩=some (.slice A0_0 l0_0.length c0_0):=(blk_cell BK487.out 0).trans rfl;have hcz3_1:w2.cell? ⟨gb487,1,none⟩=some (.int .i64 a0_1):=(blk_cell BK487.out 1).trans rfl;have hcz3_2:w2.cell? ⟨gb487,2,none⟩=some (.int .i64 a0_2):=(blk_cell BK487.out 2).trans rfl;have hfz3_0:=blk_frozen BK487.out 0;have hfz3_1:=blk_frozen BK487.out 1;have hfz3_2:=blk_frozen BK487.out 2))
 repeat (go_quiet (first|((with_reducible refine gate_dst (N:=1) rfl ?_);refine box_event ?hg (N:=1) ?hd (cs:=#[.slice A0_0 l0_0.length c0_0,.int .i64 a0_1,.int .i64 a0_2]) (t:=31) ?hr ?_;(case hd=>rfl);(case hg=>rfl);(case hr=>first|(go_simp;done)|(go_simp;rfl));intro gb487 hg w2 hbox hb;have n0_:=Aside0.mk (yP (by repeat (first|(with_reducible first|exact HB.out|apply yA|apply yB|apply yC)|exact HB.out)) hb);have n1_:=Aside0.mk (hbox);have n2_:=Aside0.mk ((by rw [hg];exact (yQ (by repeat (first|(with_reducible first|exact HB.out|apply yA|apply yB|apply yC)|exact HB.out))):w.heap.size≤gb487));have n3_:=Aside0.mk ((by rw [hg];exact (yQ (by repeat (first|(with_reducible first|exact HB.out|apply yA|apply yB|apply yC)|exact HB.out))):w.heap.size≤gb487));clear HB;have HB:=n0_;have BK487:=n1_;have GW487:=n2_;have GE487:=n3_;clear n0_ n1_ n2_ n3_;clear hb hbox hg;have hcz3_0:w2.cell? ⟨gb487,0,none⟩=some (.slice A0_0 l0_0.length c0_0):=(blk_cell BK487.out 0).trans rfl;have hcz3_1:w2.cell? ⟨gb487,1,none⟩=some (.int .i64 a0_1):=(blk_cell BK487.out 1).trans rfl;have hcz3_2:w2.cell? ⟨gb487,2,none⟩=some (.int .i64 a0_2):=(blk_cell BK487.out 2).trans rfl;have hfz3_0:=blk_frozen BK487.out 0;have hfz3_1:=blk_frozen BK487.out 1;have hfz3_2:=blk_frozen BK487.out 2));try go_wp2_with (first|((with_reducible refine gate_dst (N:=1) rfl ?_);refine box_event ?hg (N:=1) ?hd (cs:=#[.slice A0_0 l0_0.length c0_0,.int .i64 a0_1,.int .i64 a0_2]) (t:=31) ?hr ?_;(case hd=>rfl);(case hg=>rfl);(case hr=>first|(go_simp;done)|(go_simp;rfl));intro gb487 hg w2 hbox hb;have n0_:=Aside0.mk (yP (by repeat (first|(with_reducible first|exact HB.out|apply yA|apply yB|apply yC)|exact HB.out)) hb);have n1_:=Aside0.mk (hbox);have n2_:=Aside0.mk ((by rw [hg];exact (yQ (by repeat (first|(with_reducible first|exact HB.out|apply yA|apply yB|apply yC)|exact HB.out))):w.heap.size≤gb487));have n3_:=Aside0.mk ((by rw [hg];exact (yQ (by repeat (first|(with_reducible first|exact HB.out|apply yA|apply yB|apply yC)|exact HB.out))):w.heap.size≤gb487));clear HB;have HB:=n0_;have BK487:=n1_;have GW487:=n2_;have GE487:=n3_;clear n0_ n1_ n2_ n3_;clear hb hbox hg;have hcz3_0:w2.cell? ⟨gb487,0,none⟩=some (.slice A0_0 l0_0.length c0_0):=(blk_cell BK487.out 0).trans rfl;have hcz3_1:w2.cell? ⟨gb487,1,none⟩=some (.int .i64 a0_1):=(blk_cell BK487.out 1).trans rfl;have hcz3_2:w2.cell? ⟨gb487,2,none⟩=some (.int .i64 a0_2):=(blk_cell BK487.out 2).trans rfl;have hfz3_0:=blk_frozen BK487.out 0;have hfz3_1:=blk_frozen BK487.out 1;have hfz3_2:=blk_frozen BK487.out 2)))
 go_loopg [4] k (fun kq v4 w'=>∃ (x4_1:Int),v4=.int .i64 x4_1∧Aside0 (spec_MachIn.l0 kq (l0_0.length:Int) x4_1 l0_0 a0_1 a0_2=some r)∧Aside0 (kq≤k)∧Aside0 (w'.heap[gb487]?=some (.cells #[(.slice A0_0 l0_0.length c0_0),.int .i64 a0_1,.int .i64 a0_2] 31 (0,0)))∧Aside0 (Below w.heap.size w w'))
 case atStart=>exact ⟨(0),(by first|rfl|(simp;done)|(simp [*];done)|(simp [Int.tmod_eq_emod_of_nonneg];done)),H',⟨Nat.le_refl _⟩,⟨by (with_reducible repeat (first|refine yE ?_ _|refine yF ?_|refine yG ?_ _));exact BK487.out⟩,⟨by repeat (first|(with_reducible first|exact HB.out|apply yA|apply yB|apply yC|refine yD ?_ GE487.out)|exact HB.out)⟩⟩
 case round =>
  clear H'
  try clear p2
  try clear c3
  try clear hcz3_0
  try clear hcz3_1
  try clear hcz3_2
  try clear hfz3_0
  try clear hfz3_1
  try clear hfz3_2
  obtain ⟨x4_1,rfl,HA,HK1,BK487,HB⟩:=hrel
  cases gk with
  | zero=>exact absurd HA.out (by simp [spec_MachIn.l0])
  | succ k1 =>
   have H:=HA.out
   clear HA
   simp only [spec_MachIn.l0] at H
   by_cases c4:x4_1<(l0_0.length:Int)
   ·rw [if_pos c4] at H
    have c4b0:decide (x4_1<(l0_0.length:Int))=true:=decide_eq_true c4
    clear c4
    by_cases c5:0≤x4_1
    ·rw [if_pos c5] at H
     have c5b0:decide (0≤x4_1)=true:=decide_eq_true c5
     clear c5
     by_cases c6:x4_1<(l0_0.length:Int)
     ·rw [if_pos c6] at H
      have c6b0:decide (x4_1<(l0_0.length:Int))=true:=decide_eq_true c6
      clear c6
      by_cases c7:0≤(l0_0.length:Int)
      ·rw [if_pos c7] at H
       have c7b0:=eq_true c7
       have c7b1:decide (0≤(l0_0.length:Int))=true:=decide_eq_true c7
       clear c7
       obtain ⟨ji8,hji8⟩:∃ j_:Int,(shl .i64 1 (l0_0.length:Int))=j_:=⟨_,rfl⟩
       replace H:((spec_l6In.f (rd l0_0 x4_1) 0 (wrap64 ((ji8) - 1))).bind fun t489=>(if t489=true then (spec_MachIn.l0 k1 (l0_0.length:Int) (wrap64 (x4_1+1)) l0_0 a0_1 a0_2) else (some false)))=some r:=by first|(rw [hji8] at H;exact H)|(simp only [hji8] at H ⊢;exact H)
       have hji8_:(IntKind.i64.wrap (1 * 2 ^ min (l0_0.length:Int).toNat 64))=ji8:=hji8
       have hji8z:(l0_0.length:Int)≤64→(IntKind.i64.wrap (1 * 2 ^ (l0_0.length:Int).toNat))=ji8:=shl_small hji8
       have hji8p:(IntKind.i64.wrap (1 * 2 ^ min l0_0.length 64))=ji8:=hji8_
       have hji8q:(l0_0.length:Int)≤64→(IntKind.i64.wrap (1 * 2 ^ l0_0.length))=ji8:=hji8z
       have hji8r:(IntKind.i64.wrap (2 ^ min l0_0.length 64))=ji8:=by have h_:=hji8p;rw [Int.one_mul] at h_;exact h_
       have hji8s:(l0_0.length:Int)≤64→(IntKind.i64.wrap (2 ^ l0_0.length))=ji8:=fun hle_=>by have h_:=hji8q hle_;rw [Int.one_mul] at h_;exact h_
       have hji8u:(IntKind.i64.wrap (2 ^ min (l0_0.length:Int).toNat 64))=ji8:=by have h_:=hji8_;rw [Int.one_mul] at h_;exact h_
       have hji8v:(l0_0.length:Int)≤64→(IntKind.i64.wrap (2 ^ (l0_0.length:Int).toNat))=ji8:=fun hle_=>by have h_:=hji8z hle_;rw [Int.one_mul] at h_;exact h_
       have hji8y:(wrap64 (1 * 2 ^ min (l0_0.length:Int).toNat 64))=ji8:=(i64_w _).symm.trans hji8_
       have hji8x:(l0_0.length:Int)≤64→(wrap64 (1 * 2 ^ (l0_0.length:Int).toNat))=ji8:=fun h_=>(i64_w _).symm.trans (hji8z h_)
       replace H:=Option.bind_eq_some_iff.mp H
       obtain ⟨t489,A90,H⟩:=H
       replace H:(if t489=true then (spec_MachIn.l0 k1 (l0_0.length:Int) (wrap64 (x4_1+1)) l0_0 a0_1 a0_2) else (some false))=some r:=H
       have A9:=Aside0.mk A90
       clear A90
       by_cases c10:t489=true
       ·subst c10
        have H1:(spec_MachIn.l0 k1 (l0_0.length:Int) (wrap64 (x4_1+1)) l0_0 a0_1 a0_2)=some r:=by rw [if_pos rfl] at H;exact H
        clear H
        have H:=H1
        clear H1
        have H':=Aside0.mk H
        clear H
        have hcz11_0:wr.cell? ⟨gb487,0,none⟩=some (.slice A0_0 l0_0.length c0_0):=(blk_cell BK487.out 0).trans rfl
        have hcz11_1:wr.cell? ⟨gb487,1,none⟩=some (.int .i64 a0_1):=(blk_cell BK487.out 1).trans rfl
        have hcz11_2:wr.cell? ⟨gb487,2,none⟩=some (.int .i64 a0_2):=(blk_cell BK487.out 2).trans rfl
        have hfz11_0:=blk_frozen BK487.out 0
        have hfz11_1:=blk_frozen BK487.out 1
        have hfz11_2:=blk_frozen BK487.out 2
        have p488:0≤(x4_1:Int):=of_decide_eq_true (by first|(with_reducible assumption)|assumption)
        have q488:x4_1<(l0_0.length:Int):=of_decide_eq_true (by first|(with_reducible assumption)|assumption)
        obtain ⟨ad488,e488,hx488_0⟩:=Kd.at_int HR0_0.out x4_1 p488 q488
        cases e488
        replace hx488_0:=(HB.out.cell (World.block_lt_of_cell? w _ hx488_0)).trans hx488_0
        replace p488:=eq_true p488
        replace q488:=eq_true q488
        go_wp2_with (first|(go_at_call 65;(first|(with_reducible refine (spec_l6In.calls (rd l0_0 x4_1) 0 (wrap64 ((ji8) - 1)) true _ A9.out).mono ?_)|(with_reducible refine (spec_l6In.calls (rd l0_0 x4_1) 0 (IntKind.i64.wrap ((ji8) - 1)) true _ (by rw [i64_w];exact A9.out)).mono ?_));rintro e w' ⟨rfl,⟨nd,rfl⟩⟩;(try first|exact ⟨rfl,_,World.drewN_drewN _ _ _⟩|exact ⟨rfl,_,Eq.trans (World.drewN_drewN _ _ _) (congrArg (World.drewN _) (Nat.add_assoc _ _ _))⟩)))
        repeat (go_quiet (first|(go_at_call 65;(first|(with_reducible refine (spec_l6In.calls (rd l0_0 x4_1) 0 (wrap64 ((ji8) - 1)) true _ A9.out).mono ?_)|(with_reducible refine (spec_l6In.calls (rd l0_0 x4_1) 0 (IntKind.i64.wrap ((ji8) - 1)) true _ (by rw [i64_w];exact A9.out)).mono ?_));rintro e w' ⟨rfl,⟨nd,rfl⟩⟩;(try first|exact ⟨rfl,_,World.drewN_drewN _ _ _⟩|exact ⟨rfl,_,Eq.trans (World.drewN_drewN _ _ _) (congrArg (World.drewN _) (Nat.add_assoc _ _ _))⟩)));try go_wp2_with (first|(go_at_call 65;(first|(with_reducible refine (spec_l6In.calls (rd l0_0 x4_1) 0 (wrap64 ((ji8) - 1)) true _ A9.out).mono ?_)|(with_reducible refine (spec_l6In.calls (rd l0_0 x4_1) 0 (IntKind.i64.wrap ((ji8) - 1)) true _ (by rw [i64_w];exact A9.out)).mono ?_));rintro e w' ⟨rfl,⟨nd,rfl⟩⟩;(try first|exact ⟨rfl,_,World.drewN_drewN _ _ _⟩|exact ⟨rfl,_,Eq.trans (World.drewN_drewN _ _ _) (congrArg (World.drewN _) (Nat.add_assoc _ _ _))⟩))))
        go_roundg k1
        case measure=>have:=HK1.out;omega
        case rel=>exact ⟨(wrap64 (x4_1+1)),(by first|rfl|(simp;done)|(simp [*];done)|(simp [Int.tmod_eq_emod_of_nonneg];done)),H',⟨by have:=HK1.out;omega⟩,⟨by (with_reducible repeat (first|refine yE ?_ _|refine yF ?_|refine yG ?_ _));exact BK487.out⟩,⟨by repeat (first|(with_reducible first|exact HB.out|apply yA|apply yB|apply yC|refine yD ?_ GE487.out)|exact HB.out)⟩⟩
       ·replace c10:=Bool.eq_false_iff.mpr c10
        subst c10
        have H1:(some false)=some r:=by rw [if_neg (show ¬ (false=true) by decide)] at H;exact H
        clear H
        have H:=H1
        clear H1
        obtain rfl:=Option.some.inj H
        have hcz12_0:wr.cell? ⟨gb487,0,none⟩=some (.slice A0_0 l0_0.length c0_0):=(blk_cell BK487.out 0).trans rfl
        have hcz12_1:wr.cell? ⟨gb487,1,none⟩=some (.int .i64 a0_1):=(blk_cell BK487.out 1).trans rfl
        have hcz12_2:wr.cell? ⟨gb487,2,none⟩=some (.int .i64 a0_2):=(blk_cell BK487.out 2).trans rfl
        have hfz12_0:=blk_frozen BK487.out 0
        have hfz12_1:=blk_frozen BK487.out 1
        have hfz12_2:=blk_frozen BK487.out 2
        have p488:0≤(x4_1:Int):=of_decide_eq_true (by first|(with_reducible assumption)|assumption)
        have q488:x4_1<(l0_0.length:Int):=of_decide_eq_true (by first|(with_reducible assumption)|assumption)
        obtain ⟨ad488,e488,hx488_0⟩:=Kd.at_int HR0_0.out x4_1 p488 q488
        cases e488
        replace hx488_0:=(HB.out.cell (World.block_lt_of_cell? w _ hx488_0)).trans hx488_0
        replace p488:=eq_true p488
        replace q488:=eq_true q488
        go_wp2_with (first|(go_at_call 65;(first|(with_reducible refine (spec_l6In.calls (rd l0_0 x4_1) 0 (wrap64 ((ji8) - 1)) false _ A9.out).mono ?_)|(with_reducible refine (spec_l6In.calls (rd l0_0 x4_1) 0 (IntKind.i64.wrap ((ji8) - 1)) false _ (by rw [i64_w];exact A9.out)).mono ?_));rintro e w' ⟨rfl,⟨nd,rfl⟩⟩;(try first|exact ⟨rfl,_,World.drewN_drewN _ _ _⟩|exact ⟨rfl,_,Eq.trans (World.drewN_drewN _ _ _) (congrArg (World.drewN _) (Nat.add_assoc _ _ _))⟩)))
        repeat (go_quiet (first|(go_at_call 65;(first|(with_reducible refine (spec_l6In.calls (rd l0_0 x4_1) 0 (wrap64 ((ji8) - 1)) false _ A9.out).mono ?_)|(with_reducible refine (spec_l6In.calls (rd l0_0 x4_1) 0 (IntKind.i64.wrap ((ji8) - 1)) false _ (by rw [i64_w];exact A9.out)).mono ?_));rintro e w' ⟨rfl,⟨nd,rfl⟩⟩;(try first|exact ⟨rfl,_,World.drewN_drewN _ _ _⟩|exact ⟨rfl,_,Eq.trans (World.drewN_drewN _ _ _) (congrArg (World.drewN _) (Nat.add_assoc _ _ _))⟩)));try go_wp2_with (first|(go_at_call 65;(first|(with_reducible refine (spec_l6In.calls (rd l0_0 x4_1) 0 (wrap64 ((ji8) - 1)) false _ A9.out).mono ?_)|(with_reducible refine (spec_l6In.calls (rd l0_0 x4_1) 0 (IntKind.i64.wrap ((ji8) - 1)) false _ (by rw [i64_w];exact A9.out)).mono ?_));rintro e w' ⟨rfl,⟨nd,rfl⟩⟩;(try first|exact ⟨rfl,_,World.drewN_drewN _ _ _⟩|exact ⟨rfl,_,Eq.trans (World.drewN_drewN _ _ _) (congrArg (World.drewN _) (Nat.add_assoc _ _ _))⟩))))
        go_ret
        exact ⟨by first|rfl|(simp [errW_none,errW_some]<;>rfl)|(simp only [← hji8];first|rfl|(simp [errW_none,errW_some]<;>rfl))|(simp [*,errW_none,errW_some]<;>rfl),by repeat (first|(with_reducible first|exact HB.out|apply yA|apply yB|apply yC|refine yD ?_ GE487.out)|exact HB.out)⟩
      ·rw [if_neg c7] at H
       exact absurd H (by simp)
     ·rw [if_neg c6] at H
      exact absurd H (by simp)
    ·rw [if_neg c5] at H
     exact absurd H (by simp)
   ·rw [if_neg c4] at H
    have c4b0:decide (x4_1<(l0_0.length:Int))=false:=decide_eq_false c4
    clear c4
    replace H:=Option.bind_eq_some_iff.mp H
    obtain ⟨t490,A130,H⟩:=H
    replace H:(if t490=true then (if 0≤(l0_0.length:Int) then ((spec_l6In.f a0_1 0 (wrap64 ((shl .i64 1 (l0_0.length:Int)) - 1))).bind fun t491=>(if t491=true then ((spec_l6In.f a0_2 0 (wrap64 ((shl .i64 1 (l0_0.length:Int)) - 1))).bind fun t492=>(some t492)) else (some false))) else (none)) else (some false))=some r:=H
    have A13:=Aside0.mk A130
    clear A130
    by_cases c14:t490=true
    ·subst c14
     have H1:(if 0≤(l0_0.length:Int) then ((spec_l6In.f a0_1 0 (wrap64 ((shl .i64 1 (l0_0.length:Int)) - 1))).bind fun t491=>(if t491=true then ((spec_l6In.f a0_2 0 (wrap64 ((shl .i64 1 (l0_0.length:Int)) - 1))).bind fun t492=>(some t492)) else (some false))) else (none))=some r:=by rw [if_pos rfl] at H;exact H
     clear H
     have H:=H1
     clear H1
     by_cases c15:0≤(l0_0.length:Int)
     ·rw [if_pos c15] at H
      have c15b0:=eq_true c15
      have c15b1:decide (0≤(l0_0.length:Int))=true:=decide_eq_true c15
      clear c15
      obtain ⟨ji16,hji16⟩:∃ j_:Int,(shl .i64 1 (l0_0.length:Int))=j_:=⟨_,rfl⟩
      replace H:((spec_l6In.f a0_1 0 (wrap64 ((ji16) - 1))).bind fun t491=>(if t491=true then ((spec_l6In.f a0_2 0 (wrap64 ((ji16) - 1))).bind fun t492=>(some t492)) else (some false)))=some r:=by first|(rw [hji16] at H;exact H)|(simp only [hji16] at H ⊢;exact H)
      (try rw [hji16] at A13)
      have hji16_:(IntKind.i64.wrap (1 * 2 ^ min (l0_0.length:Int).toNat 64))=ji16:=hji16
      have hji16z:(l0_0.length:Int)≤64→(IntKind.i64.wrap (1 * 2 ^ (l0_0.length:Int).toNat))=ji16:=shl_small hji16
      have hji16p:(IntKind.i64.wrap (1 * 2 ^ min l0_0.length 64))=ji16:=hji16_
      have hji16q:(l0_0.length:Int)≤64→(IntKind.i64.wrap (1 * 2 ^ l0_0.length))=ji16:=hji16z
      have hji16r:(IntKind.i64.wrap (2 ^ min l0_0.length 64))=ji16:=by have h_:=hji16p;rw [Int.one_mul] at h_;exact h_
      have hji16s:(l0_0.length:Int)≤64→(IntKind.i64.wrap (2 ^ l0_0.length))=ji16:=fun hle_=>by have h_:=hji16q hle_;rw [Int.one_mul] at h_;exact h_
      have hji16u:(IntKind.i64.wrap (2 ^ min (l0_0.length:Int).toNat 64))=ji16:=by have h_:=hji16_;rw [Int.one_mul] at h_;exact h_
      have hji16v:(l0_0.length:Int)≤64→(IntKind.i64.wrap (2 ^ (l0_0.length:Int).toNat))=ji16:=fun hle_=>by have h_:=hji16z hle_;rw [Int.one_mul] at h_;exact h_
      have hji16y:(wrap64 (1 * 2 ^ min (l0_0.length:Int).toNat 64))=ji16:=(i64_w _).symm.trans hji16_
      have hji16x:(l0_0.length:Int)≤64→(wrap64 (1 * 2 ^ (l0_0.length:Int).toNat))=ji16:=fun h_=>(i64_w _).symm.trans (hji16z h_)
      replace H:=Option.bind_eq_some_iff.mp H
      obtain ⟨t491,A170,H⟩:=H
      replace H:(if t491=true then ((spec_l6In.f a0_2 0 (wrap64 ((ji16) - 1))).bind fun t492=>(some t492)) else (some false))=some r:=H
      have A17:=Aside0.mk A170
      clear A170
      by_cases c18:t491=true
      ·subst c18
       have H1:((spec_l6In.f a0_2 0 (wrap64 ((ji16) - 1))).bind fun t492=>(some t492))=some r:=by rw [if_pos rfl] at H;exact H
       clear H
       have H:=H1
       clear H1
       have c19b0:=eq_true (of_decide_eq_true (by first|(with_reducible assumption)|assumption):0≤(l0_0.length:Int))
       replace H:=Option.bind_eq_some_iff.mp H
       obtain ⟨t492,A210,H⟩:=H
       replace H:(some t492)=some r:=H
       have A21:=Aside0.mk A210
       clear A210
       obtain rfl:=Option.some.inj H
       go_wp2_with (first|(go_at_call 65;(with_reducible refine (spec_l6In.calls (l0_0.length:Int) 1 5 true _ A13.out).mono ?_);rintro e w' ⟨rfl,⟨nd,rfl⟩⟩;(try first|exact ⟨rfl,_,World.drewN_drewN _ _ _⟩|exact ⟨rfl,_,Eq.trans (World.drewN_drewN _ _ _) (congrArg (World.drewN _) (Nat.add_assoc _ _ _))⟩);have hcz22_0:wr.cell? ⟨gb487,0,none⟩=some (.slice A0_0 l0_0.length c0_0):=(blk_cell BK487.out 0).trans rfl;have hcz22_1:wr.cell? ⟨gb487,1,none⟩=some (.int .i64 a0_1):=(blk_cell BK487.out 1).trans rfl;have hcz22_2:wr.cell? ⟨gb487,2,none⟩=some (.int .i64 a0_2):=(blk_cell BK487.out 2).trans rfl;have hfz22_0:=blk_frozen BK487.out 0;have hfz22_1:=blk_frozen BK487.out 1;have hfz22_2:=blk_frozen BK487.out 2)|(go_at_call 65;(first|(with_reducible refine (spec_l6In.calls a0_1 0 (wrap64 ((ji16) - 1)) true _ A17.out).mono ?_)|(with_reducible refine (spec_l6In.calls a0_1 0 (IntKind.i64.wrap ((ji16) - 1)) true _ (by rw [i64_w];exact A17.out)).mono ?_));rintro e w' ⟨rfl,⟨nd,rfl⟩⟩;(try first|exact ⟨rfl,_,World.drewN_drewN _ _ _⟩|exact ⟨rfl,_,Eq.trans (World.drewN_drewN _ _ _) (congrArg (World.drewN _) (Nat.add_assoc _ _ _))⟩))|(go_at_call 65;(first|(with_reducible refine (spec_l6In.calls a0_2 0 (wrap64 ((ji16) - 1)) t492 _ A21.out).mono ?_)|(with_reducible refine (spec_l6In.calls a0_2 0 (IntKind.i64.wrap ((ji16) - 1)) t492 _ (by rw [i64_w];exact A21.out)).mono ?_));rintro e w' ⟨rfl,⟨nd,rfl⟩⟩;(try first|exact ⟨rfl,_,World.drewN_drewN _ _ _⟩|exact ⟨rfl,_,Eq.trans (World.drewN_drewN _ _ _) (congrArg (World.drewN _) (Nat.add_assoc _ _ _))⟩)))
       repeat (go_quiet (first|(go_at_call 65;(with_reducible refine (spec_l6In.calls (l0_0.length:Int) 1 5 true _ A13.out).mono ?_);rintro e w' ⟨rfl,⟨nd,rfl⟩⟩;(try first|exact ⟨rfl,_,World.drewN_drewN _ _ _⟩|exact ⟨rfl,_,Eq.trans (World.drewN_drewN _ _ _) (congrArg (World.drewN _) (Nat.add_assoc _ _ _))⟩);have hcz22_0:wr.cell? ⟨gb487,0,none⟩=some (.slice A0_0 l0_0.length c0_0):=(blk_cell BK487.out 0).trans rfl;have hcz22_1:wr.cell? ⟨gb487,1,none⟩=some (.int .i64 a0_1):=(blk_cell BK487.out 1).trans rfl;have hcz22_2:wr.cell? ⟨gb487,2,none⟩=some (.int .i64 a0_2):=(blk_cell BK487.out 2).trans rfl;have hfz22_0:=blk_frozen BK487.out 0;have hfz22_1:=blk_frozen BK487.out 1;have hfz22_2:=blk_frozen BK487.out 2)|(go_at_call 65;(first|(with_reducible refine (spec_l6In.calls a0_1 0 (wrap64 ((ji16) - 1)) true _ A17.out).mono ?_)|(with_reducible refine (spec_l6In.calls a0_1 0 (IntKind.i64.wrap ((ji16) - 1)) true _ (by rw [i64_w];exact A17.out)).mono ?_));rintro e w' ⟨rfl,⟨nd,rfl⟩⟩;(try first|exact ⟨rfl,_,World.drewN_drewN _ _ _⟩|exact ⟨rfl,_,Eq.trans (World.drewN_drewN _ _ _) (congrArg (World.drewN _) (Nat.add_assoc _ _ _))⟩))|(go_at_call 65;(first|(with_reducible refine (spec_l6In.calls a0_2 0 (wrap64 ((ji16) - 1)) t492 _ A21.out).mono ?_)|(with_reducible refine (spec_l6In.calls a0_2 0 (IntKind.i64.wrap ((ji16) - 1)) t492 _ (by rw [i64_w];exact A21.out)).mono ?_));rintro e w' ⟨rfl,⟨nd,rfl⟩⟩;(try first|exact ⟨rfl,_,World.drewN_drewN _ _ _⟩|exact ⟨rfl,_,Eq.trans (World.drewN_drewN _ _ _) (congrArg (World.drewN _) (Nat.add_assoc _ _ _))⟩)));try go_wp2_with (first|(go_at_call 65;(with_reducible refine (spec_l6In.calls (l0_0.length:Int) 1 5 true _ A13.out).mono ?_);rintro e w' ⟨rfl,⟨nd,rfl⟩⟩;(try first|exact ⟨rfl,_,World.drewN_drewN _ _ _⟩|exact ⟨rfl,_,Eq.trans (World.drewN_drewN _ _ _) (congrArg (World.drewN _) (Nat.add_assoc _ _ _))⟩);have hcz22_0:wr.cell? ⟨gb487,0,none⟩=some (.slice A0_0 l0_0.length c0_0):=(blk_cell BK487.out 0).trans rfl;have hcz22_1:wr.cell? ⟨gb487,1,none⟩=some (.int .i64 a0_1):=(blk_cell BK487.out 1).trans rfl;have hcz22_2:wr.cell? ⟨gb487,2,none⟩=some (.int .i64 a0_2):=(blk_cell BK487.out 2).trans rfl;have hfz22_0:=blk_frozen BK487.out 0;have hfz22_1:=blk_frozen BK487.out 1;have hfz22_2:=blk_frozen BK487.out 2)|(go_at_call 65;(first|(with_reducible refine (spec_l6In.calls a0_1 0 (wrap64 ((ji16) - 1)) true _ A17.out).mono ?_)|(with_reducible refine (spec_l6In.calls a0_1 0 (IntKind.i64.wrap ((ji16) - 1)) true _ (by rw [i64_w];exact A17.out)).mono ?_));rintro e w' ⟨rfl,⟨nd,rfl⟩⟩;(try first|exact ⟨rfl,_,World.drewN_drewN _ _ _⟩|exact ⟨rfl,_,Eq.trans (World.drewN_drewN _ _ _) (congrArg (World.drewN _) (Nat.add_assoc _ _ _))⟩))|(go_at_call 65;(first|(with_reducible refine (spec_l6In.calls a0_2 0 (wrap64 ((ji16) - 1)) t492 _ A21.out).mono ?_)|(with_reducible refine (spec_l6In.calls a0_2 0 (IntKind.i64.wrap ((ji16) - 1)) t492 _ (by rw [i64_w];exact A21.out)).mono ?_));rintro e w' ⟨rfl,⟨nd,rfl⟩⟩;(try first|exact ⟨rfl,_,World.drewN_drewN _ _ _⟩|exact ⟨rfl,_,Eq.trans (World.drewN_drewN _ _ _) (congrArg (World.drewN _) (Nat.add_assoc _ _ _))⟩))))
       go_ret
       exact ⟨by first|rfl|(simp [errW_none,errW_some]<;>rfl)|(simp only [← hji16];first|rfl|(simp [errW_none,errW_some]<;>rfl))|(simp [*,errW_none,errW_some]<;>rfl),by repeat (first|(with_reducible first|exact HB.out|apply yA|apply yB|apply yC|refine yD ?_ GE487.out)|exact HB.out)⟩
      ·replace c18:=Bool.eq_false_iff.mpr c18
       subst c18
       have H1:(some false)=some r:=by rw [if_neg (show ¬ (false=true) by decide)] at H;exact H
       clear H
       have H:=H1
       clear H1
       obtain rfl:=Option.some.inj H
       go_wp2_with (first|(go_at_call 65;(with_reducible refine (spec_l6In.calls (l0_0.length:Int) 1 5 true _ A13.out).mono ?_);rintro e w' ⟨rfl,⟨nd,rfl⟩⟩;(try first|exact ⟨rfl,_,World.drewN_drewN _ _ _⟩|exact ⟨rfl,_,Eq.trans (World.drewN_drewN _ _ _) (congrArg (World.drewN _) (Nat.add_assoc _ _ _))⟩);have hcz23_0:wr.cell? ⟨gb487,0,none⟩=some (.slice A0_0 l0_0.length c0_0):=(blk_cell BK487.out 0).trans rfl;have hcz23_1:wr.cell? ⟨gb487,1,none⟩=some (.int .i64 a0_1):=(blk_cell BK487.out 1).trans rfl;have hcz23_2:wr.cell? ⟨gb487,2,none⟩=some (.int .i64 a0_2):=(blk_cell BK487.out 2).trans rfl;have hfz23_0:=blk_frozen BK487.out 0;have hfz23_1:=blk_frozen BK487.out 1;have hfz23_2:=blk_frozen BK487.out 2)|(go_at_call 65;(first|(with_reducible refine (spec_l6In.calls a0_1 0 (wrap64 ((ji16) - 1)) false _ A17.out).mono ?_)|(with_reducible refine (spec_l6In.calls a0_1 0 (IntKind.i64.wrap ((ji16) - 1)) false _ (by rw [i64_w];exact A17.out)).mono ?_));rintro e w' ⟨rfl,⟨nd,rfl⟩⟩;(try first|exact ⟨rfl,_,World.drewN_drewN _ _ _⟩|exact ⟨rfl,_,Eq.trans (World.drewN_drewN _ _ _) (congrArg (World.drewN _) (Nat.add_assoc _ _ _))⟩)))
       repeat (go_quiet (first|(go_at_call 65;(with_reducible refine (spec_l6In.calls (l0_0.length:Int) 1 5 true _ A13.out).mono ?_);rintro e w' ⟨rfl,⟨nd,rfl⟩⟩;(try first|exact ⟨rfl,_,World.drewN_drewN _ _ _⟩|exact ⟨rfl,_,Eq.trans (World.drewN_drewN _ _ _) (congrArg (World.drewN _) (Nat.add_assoc _ _ _))⟩);have hcz23_0:wr.cell? ⟨gb487,0,none⟩=some (.slice A0_0 l0_0.length c0_0):=(blk_cell BK487.out 0).trans rfl;have hcz23_1:wr.cell? ⟨gb487,1,none⟩=some (.int .i64 a0_1):=(blk_cell BK487.out 1).trans rfl;have hcz23_2:wr.cell? ⟨gb487,2,none⟩=some (.int .i64 a0_2):=(blk_cell BK487.out 2).trans rfl;have hfz23_0:=blk_frozen BK487.out 0;have hfz23_1:=blk_frozen BK487.out 1;have hfz23_2:=blk_frozen BK487.out 2)|(go_at_call 65;(first|(with_reducible refine (spec_l6In.calls a0_1 0 (wrap64 ((ji16) - 1)) false _ A17.out).mono ?_)|(with_reducible refine (spec_l6In.calls a0_1 0 (IntKind.i64.wrap ((ji16) - 1)) false _ (by rw [i64_w];exact A17.out)).mono ?_));rintro e w' ⟨rfl,⟨nd,rfl⟩⟩;(try first|exact ⟨rfl,_,World.drewN_drewN _ _ _⟩|exact ⟨rfl,_,Eq.trans (World.drewN_drewN _ _ _) (congrArg (World.drewN _) (Nat.add_assoc _ _ _))⟩)));try go_wp2_with (first|(go_at_call 65;(with_reducible refine (spec_l6In.calls (l0_0.length:Int) 1 5 true _ A13.out).mono ?_);rintro e w' ⟨rfl,⟨nd,rfl⟩⟩;(try first|exact ⟨rfl,_,World.drewN_drewN _ _ _⟩|exact ⟨rfl,_,Eq.trans (World.drewN_drewN _ _ _) (congrArg (World.drewN _) (Nat.add_assoc _ _ _))⟩);have hcz23_0:wr.cell? ⟨gb487,0,none⟩=some (.slice A0_0 l0_0.length c0_0):=(blk_cell BK487.out 0).trans rfl;have hcz23_1:wr.cell? ⟨gb487,1,none⟩=some (.int .i64 a0_1):=(blk_cell BK487.out 1).trans rfl;have hcz23_2:wr.cell? ⟨gb487,2,none⟩=some (.int .i64 a0_2):=(blk_cell BK487.out 2).trans rfl;have hfz23_0:=blk_frozen BK487.out 0;have hfz23_1:=blk_frozen BK487.out 1;have hfz23_2:=blk_frozen BK487.out 2)|(go_at_call 65;(first|(with_reducible refine (spec_l6In.calls a0_1 0 (wrap64 ((ji16) - 1)) false _ A17.out).mono ?_)|(with_reducible refine (spec_l6In.calls a0_1 0 (IntKind.i64.wrap ((ji16) - 1)) false _ (by rw [i64_w];exact A17.out)).mono ?_));rintro e w' ⟨rfl,⟨nd,rfl⟩⟩;(try first|exact ⟨rfl,_,World.drewN_drewN _ _ _⟩|exact ⟨rfl,_,Eq.trans (World.drewN_drewN _ _ _) (congrArg (World.drewN _) (Nat.add_assoc _ _ _))⟩))))
       go_ret
       exact ⟨by first|rfl|(simp [errW_none,errW_some]<;>rfl)|(simp only [← hji16];first|rfl|(simp [errW_none,errW_some]<;>rfl))|(simp [*,errW_none,errW_some]<;>rfl),by repeat (first|(with_reducible first|exact HB.out|apply yA|apply yB|apply yC|refine yD ?_ GE487.out)|exact HB.out)⟩
     ·rw [if_neg c15] at H
      exact absurd H (by simp)
    ·replace c14:=Bool.eq_false_iff.mpr c14
     subst c14
     have H1:(some false)=some r:=by rw [if_neg (show ¬ (false=true) by decide)] at H;exact H
     clear H
     have H:=H1
     clear H1
     obtain rfl:=Option.some.inj H
     go_wp2_with (first|(go_at_call 65;(with_reducible refine (spec_l6In.calls (l0_0.length:Int) 1 5 false _ A13.out).mono ?_);rintro e w' ⟨rfl,⟨nd,rfl⟩⟩;(try first|exact ⟨rfl,_,World.drewN_drewN _ _ _⟩|exact ⟨rfl,_,Eq.trans (World.drewN_drewN _ _ _) (congrArg (World.drewN _) (Nat.add_assoc _ _ _))⟩)))
     repeat (go_quiet (first|(go_at_call 65;(with_reducible refine (spec_l6In.calls (l0_0.length:Int) 1 5 false _ A13.out).mono ?_);rintro e w' ⟨rfl,⟨nd,rfl⟩⟩;(try first|exact ⟨rfl,_,World.drewN_drewN _ _ _⟩|exact ⟨rfl,_,Eq.trans (World.drewN_drewN _ _ _) (congrArg (World.drewN _) (Nat.add_assoc _ _ _))⟩)));try go_wp2_with (first|(go_at_call 65;(with_reducible refine (spec_l6In.calls (l0_0.length:Int) 1 5 false _ A13.out).mono ?_);rintro e w' ⟨rfl,⟨nd,rfl⟩⟩;(try first|exact ⟨rfl,_,World.drewN_drewN _ _ _⟩|exact ⟨rfl,_,Eq.trans (World.drewN_drewN _ _ _) (congrArg (World.drewN _) (Nat.add_assoc _ _ _))⟩))))
     go_ret
     exact ⟨by first|rfl|(simp [errW_none,errW_some]<;>rfl)|(simp [*,errW_none,errW_some]<;>rfl)|(simp [errW_none,errW_some];exact ⟨rfl,rfl⟩),by repeat (first|(with_reducible first|exact HB.out|apply yA|apply yB|apply yC|refine yD ?_ GE487.out)|exact HB.out)⟩

end Go.Proofs.Ytneadgionjlicaa.P

namespace Go.Proofs.Ytneadgionjlicaa.P
open Go.RowKit Go.Proofs.YtneadgionjlicaaW.PrintWords Go.Proofs.YtneadgionjlicaaW.PrintLast Go.Proofs.YtneadgionjlicaaW.PrintMore
attribute [local go_sem] max2_int min2_int max_two min_two max_three min_three max_four min_four   -- for this text's walks alone
set_option linter.unusedVariables false
set_option linter.unusedSimpArgs false

/-! ### spec_MachBoth: function 22 -/
mutual
def spec_MachBoth.j0:Nat→Int→Bool→List Int→Int→Int→List Int→Int→Int→Option (List Int × Int × Int × Bool)
 | 0,_,_,_,_,_,_,_,_=>none
 | k+1,x6,x31,x593000,x593001,x593002,x594000,x594001,x594002=>if x31=true then (some (([]:List Int),0,0,false)) else (spec_MachBoth.l0 k x6 0 x593000 x593001 x593002 x594000 x594001 x594002 (([]:List Int)) 0 0)
def spec_MachBoth.l0:Nat→Int→Int→List Int→Int→Int→List Int→Int→Int→List Int→Int→Int→Option (List Int × Int × Int × Bool)
 | 0,_,_,_,_,_,_,_,_,_,_,_=>none
 | k+1,x6,x8,x593000,x593001,x593002,x594000,x594001,x594002,x601000,x601001,x601002=>if x8<(x593000.length:Int) then (spec_MachBoth.l1 k x6 x8 0 x593000 x593001 x593002 x594000 x594001 x594002 x601000 x601001 x601002) else (some (x601000,x601001,x601002,true))
def spec_MachBoth.l1:Nat→Int→Int→Int→List Int→Int→Int→List Int→Int→Int→List Int→Int→Int→Option (List Int × Int × Int × Bool)
 | 0,_,_,_,_,_,_,_,_,_,_,_,_=>none
 | k+1,x6,x8,x9,x593000,x593001,x593002,x594000,x594001,x594002,x601000,x601001,x601002=>if x9<x6 then (spec_MachBoth.l2 k x6 x8 x9 0 0 x593000 x593001 x593002 x594000 x594001 x594002 x601000 x601001 x601002) else (spec_MachBoth.l0 k x6 (wrap64 (x8+1)) x593000 x593001 x593002 x594000 x594001 x594002 x601000 x601001 x601002)
def spec_MachBoth.l2:Nat→Int→Int→Int→Int→Int→List Int→Int→Int→List Int→Int→Int→List Int→Int→Int→Option (List Int × Int × Int × Bool)
 | 0,_,_,_,_,_,_,_,_,_,_,_,_,_,_=>none
 | k+1,x6,x8,x9,x10,x11,x593000,x593001,x593002,x594000,x594001,x594002,x601000,x601001,x601002=>if x11<(x593000.length:Int) then (spec_MachBoth.l3 k x6 x8 x9 x10 x11 0 x593000 x593001 x593002 x594000 x594001 x594002 x601000 x601001 x601002) else (if x601000.length<17592186044416 then (if 0≤x8 then (if 0≤x9 then (if 0≤(wrap64 ((wrap64 (x6 * x8))+x9)) then (spec_MachBoth.l1 k x6 x8 (wrap64 (x9+1)) x593000 x593001 x593002 x594000 x594001 x594002 (x601000++[x10]) (Go.bits .or .i64 x601001 (shl .i64 (Go.bits .and .i64 (Go.bits .and .i64 (shr .i64 x593001 x8) 1) (Go.bits .and .i64 (shr .i64 x594001 x9) 1)) (wrap64 ((wrap64 (x6 * x8))+x9)))) (Go.bits .or .i64 x601002 (shl .i64 (Go.bits .and .i64 (Go.bits .and .i64 (shr .i64 x593002 x8) 1) (Go.bits .and .i64 (shr .i64 x594002 x9) 1)) (wrap64 ((wrap64 (x6 * x8))+x9))))) else (none)) else (none)) else (none)) else (none))
def spec_MachBoth.l3:Nat→Int→Int→Int→Int→Int→Int→List Int→Int→Int→List Int→Int→Int→List Int→Int→Int→Option (List Int × Int × Int × Bool)
 | 0,_,_,_,_,_,_,_,_,_,_,_,_,_,_,_=>none
 | k+1,x6,x8,x9,x10,x11,x12,x593000,x593001,x593002,x594000,x594001,x594002,x601000,x601001,x601002=>if x12<x6 then (if 0≤x8 then (if x8<(x593000.length:Int) then (if 0≤x11 then (if 0≤x9 then (if x9<(x594000.length:Int) then (if 0≤x12 then (if 0≤(wrap64 ((wrap64 (x6 * x11))+x12)) then (spec_MachBoth.l3 k x6 x8 x9 (Go.bits .or .i64 x10 (shl .i64 (Go.bits .and .i64 (Go.bits .and .i64 (shr .i64 (rd x593000 x8) x11) 1) (Go.bits .and .i64 (shr .i64 (rd x594000 x9) x12) 1)) (wrap64 ((wrap64 (x6 * x11))+x12)))) x11 (wrap64 (x12+1)) x593000 x593001 x593002 x594000 x594001 x594002 x601000 x601001 x601002) else (none)) else (none)) else (none)) else (none)) else (none)) else (none)) else (none)) else (spec_MachBoth.l2 k x6 x8 x9 x10 (wrap64 (x11+1)) x593000 x593001 x593002 x594000 x594001 x594002 x601000 x601001 x601002)
end
def spec_MachBoth.f (k:Nat) (l0_0:List Int) (a0_1:Int) (a0_2:Int) (l1_0:List Int) (a1_1:Int) (a1_2:Int):Option (List Int × Int × Int × Bool):=(spec_MachIn.f k l0_0 a0_1 a0_2).bind fun t595=>(if t595=true then ((spec_MachIn.f k l1_0 a1_1 a1_2).bind fun t596=>(if t596=true then (spec_MachBoth.j0 k (l1_0.length:Int) (decide ((wrap64 ((l0_0.length:Int) * (l1_0.length:Int))) > 5)) l0_0 a0_1 a0_2 l1_0 a1_1 a1_2) else (spec_MachBoth.j0 k (l1_0.length:Int) true l0_0 a0_1 a0_2 l1_0 a1_1 a1_2))) else (spec_MachBoth.j0 k (l1_0.length:Int) true l0_0 a0_1 a0_2 l1_0 a1_1 a1_2))
theorem spec_MachBoth.mono_l:∀ k,(∀ y0 y1 y2 y3 y4 y5 y6 y7,LeO (spec_MachBoth.j0 k y0 y1 y2 y3 y4 y5 y6 y7) (spec_MachBoth.j0 (k+1) y0 y1 y2 y3 y4 y5 y6 y7))∧(∀ y0 y1 y2 y3 y4 y5 y6 y7 y8 y9 y10,LeO (spec_MachBoth.l0 k y0 y1 y2 y3 y4 y5 y6 y7 y8 y9 y10) (spec_MachBoth.l0 (k+1) y0 y1 y2 y3 y4 y5 y6 y7 y8 y9 y10))∧(∀ y0 y1 y2 y3 y4 y5 y6 y7 y8 y9 y10 y11,LeO (spec_MachBoth.l1 k y0 y1 y2 y3 y4 y5 y6 y7 y8 y9 y10 y11) (spec_MachBoth.l1 (k+1) y0 y1 y2 y3 y4 y5 y6 y7 y8 y9 y10 y11))∧(∀ y0 y1 y2 y3 y4 y5 y6 y7 y8 y9 y10 y11 y12 y13,LeO (spec_MachBoth.l2 k y0 y1 y2 y3 y4 y5 y6 y7 y8 y9 y10 y11 y12 y13) (spec_MachBoth.l2 (k+1) y0 y1 y2 y3 y4 y5 y6 y7 y8 y9 y10 y11 y12 y13))∧(∀ y0 y1 y2 y3 y4 y5 y6 y7 y8 y9 y10 y11 y12 y13 y14,LeO (spec_MachBoth.l3 k y0 y1 y2 y3 y4 y5 y6 y7 y8 y9 y10 y11 y12 y13 y14) (spec_MachBoth.l3 (k+1) y0 y1 y2 y3 y4 y5 y6 y7 y8 y9 y10 y11 y12 y13 y14))
 | 0=>⟨fun _ _ _ _ _ _ _ _ r h=>by simp [spec_MachBoth.j0] at h,fun _ _ _ _ _ _ _ _ _ _ _ r h=>by simp [spec_MachBoth.l0] at h,fun _ _ _ _ _ _ _ _ _ _ _ _ r h=>by simp [spec_MachBoth.l1] at h,fun _ _ _ _ _ _ _ _ _ _ _ _ _ _ r h=>by simp [spec_MachBoth.l2] at h,fun _ _ _ _ _ _ _ _ _ _ _ _ _ _ _ r h=>by simp [spec_MachBoth.l3] at h⟩
 | k+1=>by
  obtain ⟨ih0,ih1,ih2,ih3,ih4⟩:=spec_MachBoth.mono_l k
  refine ⟨?_,?_,?_,?_,?_⟩
  ·intro y0 y1 y2 y3 y4 y5 y6 y7
   unfold spec_MachBoth.j0
   repeat' first
   | (with_reducible exact ih0 _ _ _ _ _ _ _ _)
   | (with_reducible exact ih1 _ _ _ _ _ _ _ _ _ _ _)
   | (with_reducible exact ih2 _ _ _ _ _ _ _ _ _ _ _ _)
   | (with_reducible exact ih3 _ _ _ _ _ _ _ _ _ _ _ _ _ _)
   | (with_reducible exact ih4 _ _ _ _ _ _ _ _ _ _ _ _ _ _ _)
   | (with_reducible exact spec_MachIn.mono _ _ _ _)
   | (with_reducible exact LeO.refl _)
   | (with_reducible exact LeO.none _)
   | (with_reducible refine LeO.ite ?_ ?_)
   | (with_reducible refine LeO.bind ?_ (fun _=>?_))
   | exact ih0 _ _ _ _ _ _ _ _
   | exact ih1 _ _ _ _ _ _ _ _ _ _ _
   | exact ih2 _ _ _ _ _ _ _ _ _ _ _ _
   | exact ih3 _ _ _ _ _ _ _ _ _ _ _ _ _ _
   | exact ih4 _ _ _ _ _ _ _ _ _ _ _ _ _ _ _
   | exact spec_MachIn.mono _ _ _ _
   | exact LeO.none _
   | refine LeO.ite ?_ ?_
   | refine LeO.bind ?_ (fun _=>?_)
  ·intro y0 y1 y2 y3 y4 y5 y6 y7 y8 y9 y10
   unfold spec_MachBoth.l0
   repeat' first
   | (with_reducible exact ih0 _ _ _ _ _ _ _ _)
   | (with_reducible exact ih1 _ _ _ _ _ _ _ _ _ _ _)
   | (with_reducible exact ih2 _ _ _ _ _ _ _ _ _ _ _ _)
   | (with_reducible exact ih3 _ _ _ _ _ _ _ _ _ _ _ _ _ _)
   | (with_reducible exact ih4 _ _ _ _ _ _ _ _ _ _ _ _ _ _ _)
   | (with_reducible exact spec_MachIn.mono _ _ _ _)
   | (with_reducible exact LeO.refl _)
   | (with_reducible exact LeO.none _)
   | (with_reducible refine LeO.ite ?_ ?_)
   | (with_reducible refine LeO.bind ?_ (fun _=>?_))
   | exact ih0 _ _ _ _ _ _ _ _
   | exact ih1 _ _ _ _ _ _ _ _ _ _ _
   | exact ih2 _ _ _ _ _ _ _ _ _ _ _ _
   | exact ih3 _ _ _ _ _ _ _ _ _ _ _ _ _ _
   | exact ih4 _ _ _ _ _ _ _ _ _ _ _ _ _ _ _
   | exact spec_MachIn.mono _ _ _ _
   | exact LeO.none _
   | refine LeO.ite ?_ ?_
   | refine LeO.bind ?_ (fun _=>?_)
  ·intro y0 y1 y2 y3 y4 y5 y6 y7 y8 y9 y10 y11
   unfold spec_MachBoth.l1
   repeat' first
   | (with_reducible exact ih0 _ _ _ _ _ _ _ _)
   | (with_reducible exact ih1 _ _ _ _ _ _ _ _ _ _ _)
   | (with_reducible exact ih2 _ _ _ _ _ _ _ _ _ _ _ _)
   | (with_reducible exact ih3 _ _ _ _ _ _ _ _ _ _ _ _ _ _)
   | (with_reducible exact ih4 _ _ _ _ _ _ _ _ _ _ _ _ _ _ _)
   | (with_reducible exact spec_MachIn.mono _ _ _ _)
   | (with_reducible exact LeO.refl _)
   | (with_reducible exact LeO.none _)
   | (with_reducible refine LeO.ite ?_ ?_)
   | (with_reducible refine LeO.bind ?_ (fun _=>?_))
   | exact ih0 _ _ _ _ _ _ _ _
   | exact ih1 _ _ _ _ _ _ _ _ _ _ _
   | exact ih2 _ _ _ _ _ _ _ _ _ _ _ _
   | exact ih3 _ _ _ _ _ _ _ _ _ _ _ _ _ _
   | exact ih4 _ _ _ _ _ _ _ _ _ _ _ _ _ _ _
   | exact spec_MachIn.mono _ _ _ _
   | exact LeO.none _
   | refine LeO.ite ?_ ?_
   | refine LeO.bind ?_ (fun _=>?_)
  ·intro y0 y1 y2 y3 y4 y5 y6 y7 y8 y9 y10 y11 y12 y13
   unfold spec_MachBoth.l2
   repeat' first
   | (with_reducible exact ih0 _ _ _ _ _ _ _ _)
   | (with_reducible exact ih1 _ _ _ _ _ _ _ _ _ _ _)
   | (with_reducible exact ih2 _ _ _ _ _ _ _ _ _ _ _ _)
   | (with_reducible exact ih3 _ _ _ _ _ _ _ _ _ _ _ _ _ _)
   | (with_reducible exact ih4 _ _ _ _ _ _ _ _ _ _ _ _ _ _ _)
   | (with_reducible exact spec_MachIn.mono _ _ _ _)
   | (with_reducible exact LeO.refl _)
   | (with_reducible exact LeO.none _)
   | (with_reducible refine LeO.ite ?_ ?_)
   | (with_reducible refine LeO.bind ?_ (fun _=>?_))
   | exact ih0 _ _ _ _ _ _ _ _
   | exact ih1 _ _ _ _ _ _ _ _ _ _ _
   | exact ih2 _ _ _ _ _ _ _ _ _ _ _ _
   | exact ih3 _ _ _ _ _ _ _ _ _ _ _ _ _ _
   | exact ih4 _ _ _ _ _ _ _ _ _ _ _ _ _ _ _
   | exact spec_MachIn.mono _ _ _ _
   | exact LeO.none _
   | refine LeO.ite ?_ ?_
   | refine LeO.bind ?_ (fun _=>?_)
  ·intro y0 y1 y2 y3 y4 y5 y6 y7 y8 y9 y10 y11 y12 y13 y14
   unfold spec_MachBoth.l3
   repeat' first
   | (with_reducible exact ih0 _ _ _ _ _ _ _ _)
   | (with_reducible exact ih1 _ _ _ _ _ _ _ _ _ _ _)
   | (with_reducible exact ih2 _ _ _ _ _ _ _ _ _ _ _ _)
   | (with_reducible exact ih3 _ _ _ _ _ _ _ _ _ _ _ _ _ _)
   | (with_reducible exact ih4 _ _ _ _ _ _ _ _ _ _ _ _ _ _ _)
   | (with_reducible exact spec_MachIn.mono _ _ _ _)
   | (with_reducible exact LeO.refl _)
   | (with_reducible exact LeO.none _)
   | (with_reducible refine LeO.ite ?_ ?_)
   | (with_reducible refine LeO.bind ?_ (fun _=>?_))
   | exact ih0 _ _ _ _ _ _ _ _
   | exact ih1 _ _ _ _ _ _ _ _ _ _ _
   | exact ih2 _ _ _ _ _ _ _ _ _ _ _ _
   | exact ih3 _ _ _ _ _ _ _ _ _ _ _ _ _ _
   | exact ih4 _ _ _ _ _ _ _ _ _ _ _ _ _ _ _
   | exact spec_MachIn.mono _ _ _ _
   | exact LeO.none _
   | refine LeO.ite ?_ ?_
   | refine LeO.bind ?_ (fun _=>?_)
theorem spec_MachBoth.mono:∀ a0 a1 a2 a3 a4 a5 k,LeO (spec_MachBoth.f k a0 a1 a2 a3 a4 a5) (spec_MachBoth.f (k+1) a0 a1 a2 a3 a4 a5):=by
 intro a0 a1 a2 a3 a4 a5 k
 obtain ⟨ih0,ih1,ih2,ih3,ih4⟩:=spec_MachBoth.mono_l k
 unfold spec_MachBoth.f
 repeat' first
   | (with_reducible exact ih0 _ _ _ _ _ _ _ _)
   | (with_reducible exact ih1 _ _ _ _ _ _ _ _ _ _ _)
   | (with_reducible exact ih2 _ _ _ _ _ _ _ _ _ _ _ _)
   | (with_reducible exact ih3 _ _ _ _ _ _ _ _ _ _ _ _ _ _)
   | (with_reducible exact ih4 _ _ _ _ _ _ _ _ _ _ _ _ _ _ _)
   | (with_reducible exact spec_MachIn.mono _ _ _ _)
   | (with_reducible exact LeO.refl _)
   | (with_reducible exact LeO.none _)
   | (with_reducible refine LeO.ite ?_ ?_)
   | (with_reducible refine LeO.bind ?_ (fun _=>?_))
   | exact ih0 _ _ _ _ _ _ _ _
   | exact ih1 _ _ _ _ _ _ _ _ _ _ _
   | exact ih2 _ _ _ _ _ _ _ _ _ _ _ _
   | exact ih3 _ _ _ _ _ _ _ _ _ _ _ _ _ _
   | exact ih4 _ _ _ _ _ _ _ _ _ _ _ _ _ _ _
   | exact spec_MachIn.mono _ _ _ _
   | exact LeO.none _
   | refine LeO.ite ?_ ?_
   | refine LeO.bind ?_ (fun _=>?_)
def spec_MachBoth.T18:Bool × List (List Nat × List Nat):=(true,[([],[]),([],[]),([1],[1]),([],[]),([2,3],[2,3]),([4],[4]),([],[]),([5,6],[5,6]),([7],[7]),([],[]),([9],[9]),([],[]),([10,11],[10,11]),([12],[12]),([],[]),([13,14],[13,14]),([15],[15]),([8,16],[8,16]),([],[]),([],[]),([18,19],[18,19]),([],[]),([20,21],[20,21]),([17,22],[17,22]),([0,23],[0,23]),([24,0,1,2,3,4,5,6,7,8,9,10,11,12,13,14,15,16,17,18,19,20,21,22,23,24],[0,24])])
def spec_MachBoth.B18:List Nat:=[0,0,2,0,14,30,0,126,254,0,512,0,3584,7680,0,32256,65024,131070,0,0,786432,0,3932160,8388606,16777215,33554431]
theorem spec_MachBoth.tab18:rtab .any (opsOf Try.f22 18)=spec_MachBoth.T18:=by kernel_rfl
theorem spec_MachBoth.bits18:waitsOk spec_MachBoth.T18.2 spec_MachBoth.B18=true:=by kernel_rfl
def spec_MachBoth.T20:Bool × List (List Nat × List Nat):=(true,[([],[]),([0],[0]),([],[]),([2],[2]),([],[]),([3,4],[3,4]),([5],[5]),([],[]),([7],[7]),([],[]),([8,9],[8,9]),([10],[10]),([6,11],[6,11]),([],[]),([],[]),([13,14],[13,14]),([],[]),([15,16],[15,16]),([12,17],[12,17]),([1,18],[1,18]),([0,1,2,3,4,5,6,7,8,9,10,11,12,13,14,15,16,17,18,19],[]),([20,19,0,1,2,3,4,5,6,7,8,9,10,11,12,13,14,15,16,17,18,19],[19,20])])
def spec_MachBoth.B20:List Nat:=[0,1,0,4,0,28,60,0,128,0,896,1920,4092,0,0,24576,0,122880,262140,524287,1048575,2097151]
theorem spec_MachBoth.tab20:rtab .any (opsOf Try.f22 20)=spec_MachBoth.T20:=by kernel_rfl
theorem spec_MachBoth.bits20:waitsOk spec_MachBoth.T20.2 spec_MachBoth.B20=true:=by kernel_rfl
def spec_MachBoth.T21:Bool × List (List Nat × List Nat):=(true,[([],[]),([0],[0]),([],[]),([2],[2]),([],[]),([3,4],[3,4]),([5],[5]),([],[]),([7],[7]),([],[]),([8,9],[8,9]),([10],[10]),([6,11],[6,11]),([],[]),([],[]),([13,14],[13,14]),([],[]),([15,16],[15,16]),([12,17],[12,17]),([1,18],[1,18]),([0,1,2,3,4,5,6,7,8,9,10,11,12,13,14,15,16,17,18,19],[]),([20,19,0,1,2,3,4,5,6,7,8,9,10,11,12,13,14,15,16,17,18,19],[19,20])])
def spec_MachBoth.B21:List Nat:=[0,1,0,4,0,28,60,0,128,0,896,1920,4092,0,0,24576,0,122880,262140,524287,1048575,2097151]
theorem spec_MachBoth.tab21:rtab .any (opsOf Try.f22 21)=spec_MachBoth.T21:=by kernel_rfl
theorem spec_MachBoth.bits21:waitsOk spec_MachBoth.T21.2 spec_MachBoth.B21=true:=by kernel_rfl
set_option maxHeartbeats 8000000 in
set_option maxRecDepth 100000 in
theorem spec_MachBoth.calls (k:Nat) (A0_0:Option Addr) (c0_0:Nat) (l0_0:List Int) (a0_1:Int) (a0_2:Int) (A1_0:Option Addr) (c1_0:Nat) (l1_0:List Int) (a1_1:Int) (a1_2:Int) (r1:List Int) (r2:Int) (r3:Int) (r4:Bool) (w:World) (hr0_0:Kd.C (Kd.int .i64) w A0_0 l0_0.length l0_0) (hc0_0:l0_0.length≤c0_0) (hr1_0:Kd.C (Kd.int .i64) w A1_0 l1_0.length l1_0) (hc1_0:l1_0.length≤c1_0) (h:spec_MachBoth.f k l0_0 a0_1 a0_2 l1_0 a1_1 a1_2=some (r1,r2,r3,r4)) :
  Calls Try.prog 22 #[.agg #[.slice A0_0 l0_0.length c0_0,.int .i64 a0_1,.int .i64 a0_2],.agg #[.slice A1_0 l1_0.length c1_0,.int .i64 a1_1,.int .i64 a1_2]] w fun e w'=>∃ v0_:Value,e=.returned (.tuple #[.agg #[v0_,.int .i64 r2,.int .i64 r3],.bool r4])∧Kd.R (Kd.int .i64) 3 w' w.heap.size (fun _=>True) v0_ r1∧Below w.heap.size w w':=by
 have hu31:=Try.underlying31
 have HR0_0:=Aside0.mk hr0_0
 have HC0_0:=Aside0.mk hc0_0
 clear hr0_0 hc0_0
 have HR1_0:=Aside0.mk hr1_0
 have HC1_0:=Aside0.mk hc1_0
 clear hr1_0 hc1_0
 have HB:=Aside0.mk (Below.refl w.heap.size w)
 have H:((spec_MachIn.f k l0_0 a0_1 a0_2).bind fun t595=>(if t595=true then ((spec_MachIn.f k l1_0 a1_1 a1_2).bind fun t596=>(if t596=true then (spec_MachBoth.j0 k (l1_0.length:Int) (decide ((wrap64 ((l0_0.length:Int) * (l1_0.length:Int))) > 5)) l0_0 a0_1 a0_2 l1_0 a1_1 a1_2) else (spec_MachBoth.j0 k (l1_0.length:Int) true l0_0 a0_1 a0_2 l1_0 a1_1 a1_2))) else (spec_MachBoth.j0 k (l1_0.length:Int) true l0_0 a0_1 a0_2 l1_0 a1_1 a1_2)))=some (r1,r2,r3,r4):=h
 clear h
 have HC3:=Aside0.mk H
 clear H
 go_enter Try.func22,Try.ntmps22
 go_upto_region 2 with (first|((with_reducible refine gate_dst (N:=2) rfl ?_);(try (refine gate_guard (by rfl) ?_;dsimp only));refine box_event ?hg (N:=2) ?hd (cs:=#[.slice A0_0 l0_0.length c0_0,.int .i64 a0_1,.int .i64 a0_2]) (t:=31) ?hr ?_;(case hd=>rfl);(case hg=>rfl);(case hr=>first|(go_simp;done)|(go_simp;rfl));intro gb592 hg w4 hbox hb;have n0_:=Aside0.mk (yP (by repeat (first|(with_reducible first|exact HB.out|apply yA|apply yB|apply yC)|exact HB.out)) hb);have n1_:=Aside0.mk (hbox);have n2_:=Aside0.mk ((by rw [hg];exact (yQ (by repeat (first|(with_reducible first|exact HB.out|apply yA|apply yB|apply yC)|exact HB.out))):w.heap.size≤gb592));have n3_:=Aside0.mk ((by rw [hg];exact (yQ (by repeat (first|(with_reducible first|exact HB.out|apply yA|apply yB|apply yC)|exact HB.out))):w.heap.size≤gb592));clear HB;have HB:=n0_;have BK592:=n1_;have GW592:=n2_;have GE592:=n3_;clear n0_ n1_ n2_ n3_;clear hb hbox hg)|((with_reducible refine gate_dst (N:=3) rfl ?_);(try (refine gate_guard (by rfl) ?_;dsimp only));refine box_event ?hg (N:=3) ?hd (cs:=#[.slice A1_0 l1_0.length c1_0,.int .i64 a1_1,.int .i64 a1_2]) (t:=31) ?hr ?_;(case hd=>rfl);(case hg=>rfl);(case hr=>first|(go_simp;done)|(go_simp;rfl));intro gb593 hg w5 hbox hb;have n0_:=Aside0.mk (blk_below (g:=gb592) (o:=.cells #[.slice A0_0 l0_0.length c0_0,.int .i64 a0_1,.int .i64 a0_2] 31 (0,0)) (by (with_reducible repeat (first|refine yE ?_ _|refine yF ?_|refine yG ?_ _));exact BK592.out) hb);have n1_:=Aside0.mk (yP (by repeat (first|(with_reducible first|exact HB.out|apply yA|apply yB|apply yC|refine yD ?_ GE592.out)|exact HB.out)) hb);have n2_:=Aside0.mk (hbox);have n3_:=Aside0.mk ((by rw [hg];exact (yQ (by repeat (first|(with_reducible first|exact HB.out|apply yA|apply yB|apply yC|refine yD ?_ GE592.out)|exact HB.out))):w.heap.size≤gb593));have n4_:=Aside0.mk ((by rw [hg];exact (yQ (by repeat (first|(with_reducible first|exact HB.out|apply yA|apply yB|apply yC|refine yD ?_ GE592.out)|exact HB.out))):w.heap.size≤gb593));have n5_:=Aside0.mk ((by rw [hg];exact Nat.ne_of_lt (blk_lt (g:=gb592) (o:=.cells #[.slice A0_0 l0_0.length c0_0,.int .i64 a0_1,.int .i64 a0_2] 31 (0,0)) (by (with_reducible repeat (first|refine yE ?_ _|refine yF ?_|refine yG ?_ _));exact BK592.out)):gb592≠gb593));have n6_:=Aside0.mk ((by rw [hg];exact Nat.ne_of_gt (blk_lt (g:=gb592) (o:=.cells #[.slice A0_0 l0_0.length c0_0,.int .i64 a0_1,.int .i64 a0_2] 31 (0,0)) (by (with_reducible repeat (first|refine yE ?_ _|refine yF ?_|refine yG ?_ _));exact BK592.out)):gb593≠gb592));clear BK592;clear HB;have BK592:=n0_;have HB:=n1_;have BK593:=n2_;have GW593:=n3_;have GE593:=n4_;have NB592_593:=n5_;have NB593_592:=n6_;clear n0_ n1_ n2_ n3_ n4_ n5_ n6_;clear hb hbox hg)|((with_reducible refine gate_dst (N:=4) rfl ?_);(try (refine gate_guard (by rfl) ?_;dsimp only));refine box_event ?hg (N:=4) ?hd (cs:=#[.slice none 0 0,.int .i64 0,.int .i64 0]) (t:=31) ?hr ?_;(case hd=>rfl);(case hg=>rfl);(case hr=>first|(go_simp;done)|(go_simp;rfl));intro gb594 hg w6 hbox hb;have n0_:=Aside0.mk (blk_below (g:=gb592) (o:=.cells #[.slice A0_0 l0_0.length c0_0,.int .i64 a0_1,.int .i64 a0_2] 31 (0,0)) (by (with_reducible repeat (first|refine yE ?_ _|refine yF ?_|refine yG ?_ _));exact BK592.out) hb);have n1_:=Aside0.mk (blk_below (g:=gb593) (o:=.cells #[.slice A1_0 l1_0.length c1_0,.int .i64 a1_1,.int .i64 a1_2] 31 (0,0)) (by (with_reducible repeat (first|refine yE ?_ _|refine yF ?_|refine yG ?_ _));exact BK593.out) hb);have n2_:=Aside0.mk (yP (by repeat (first|(with_reducible first|exact HB.out|apply yA|apply yB|apply yC|refine yD ?_ GE592.out|refine yD ?_ GE593.out)|exact HB.out)) hb);have n3_:=Aside0.mk (hbox);have n4_:=Aside0.mk ((by rw [hg];exact (yQ (by repeat (first|(with_reducible first|exact HB.out|apply yA|apply yB|apply yC|refine yD ?_ GE592.out|refine yD ?_ GE593.out)|exact HB.out))):w.heap.size≤gb594));have n5_:=Aside0.mk ((by rw [hg];exact (yQ (by repeat (first|(with_reducible first|exact HB.out|apply yA|apply yB|apply yC|refine yD ?_ GE592.out|refine yD ?_ GE593.out)|exact HB.out))):w.heap.size≤gb594));have n6_:=Aside0.mk ((by rw [hg];exact Nat.ne_of_lt (blk_lt (g:=gb592) (o:=.cells #[.slice A0_0 l0_0.length c0_0,.int .i64 a0_1,.int .i64 a0_2] 31 (0,0)) (by (with_reducible repeat (first|refine yE ?_ _|refine yF ?_|refine yG ?_ _));exact BK592.out)):gb592≠gb594));have n7_:=Aside0.mk ((by rw [hg];exact Nat.ne_of_gt (blk_lt (g:=gb592) (o:=.cells #[.slice A0_0 l0_0.length c0_0,.int .i64 a0_1,.int .i64 a0_2] 31 (0,0)) (by (with_reducible repeat (first|refine yE ?_ _|refine yF ?_|refine yG ?_ _));exact BK592.out)):gb594≠gb592));have n8_:=Aside0.mk ((by rw [hg];exact Nat.ne_of_lt (blk_lt (g:=gb593) (o:=.cells #[.slice A1_0 l1_0.length c1_0,.int .i64 a1_1,.int .i64 a1_2] 31 (0,0)) (by (with_reducible repeat (first|refine yE ?_ _|refine yF ?_|refine yG ?_ _));exact BK593.out)):gb593≠gb594));have n9_:=Aside0.mk ((by rw [hg];exact Nat.ne_of_gt (blk_lt (g:=gb593) (o:=.cells #[.slice A1_0 l1_0.length c1_0,.int .i64 a1_1,.int .i64 a1_2] 31 (0,0)) (by (with_reducible repeat (first|refine yE ?_ _|refine yF ?_|refine yG ?_ _));exact BK593.out)):gb594≠gb593));clear BK592;clear BK593;clear HB;have BK592:=n0_;have BK593:=n1_;have HB:=n2_;have BK594:=n3_;have GW594:=n4_;have GE594:=n5_;have NB592_594:=n6_;have NB594_592:=n7_;have NB593_594:=n8_;have NB594_593:=n9_;clear n0_ n1_ n2_ n3_ n4_ n5_ n6_ n7_ n8_ n9_;clear hb hbox hg;have hnb7:=NB593_592.out;have hnc7:=NB592_593.out;have hnb8:=NB593_594.out;have hnc8:=NB594_593.out;have hcz9_0:w6.cell? ⟨gb593,0,none⟩=some (.slice A1_0 l1_0.length c1_0):=(blk_cell BK593.out 0).trans rfl;have hcz9_1:w6.cell? ⟨gb593,1,none⟩=some (.int .i64 a1_1):=(blk_cell BK593.out 1).trans rfl;have hcz9_2:w6.cell? ⟨gb593,2,none⟩=some (.int .i64 a1_2):=(blk_cell BK593.out 2).trans rfl;have hfz9_0:=blk_frozen BK593.out 0;have hfz9_1:=blk_frozen BK593.out 1;have hfz9_2:=blk_frozen BK593.out 2))
 (try simp only [Act.put,yK,yL,yM])
 go_cut [31] (fun v31 wc=>∃ (kq:Nat) (x31_2:Bool),v31=.bool x31_2∧Aside0 (spec_MachBoth.j0 kq (l1_0.length:Int) x31_2 l0_0 a0_1 a0_2 l1_0 a1_1 a1_2=some (r1,r2,r3,r4))∧Aside0 (kq≤k)∧Aside0 (wc.heap[gb592]?=some (.cells #[(.slice A0_0 l0_0.length c0_0),.int .i64 a0_1,.int .i64 a0_2] 31 (0,0)))∧Aside0 (wc.heap[gb593]?=some (.cells #[(.slice A1_0 l1_0.length c1_0),.int .i64 a1_1,.int .i64 a1_2] 31 (0,0)))∧Aside0 (wc.heap[gb594]?=some (.cells #[(.slice none 0 0),.int .i64 0,.int .i64 0] 31 (0,0)))∧Aside0 (Below w.heap.size w wc))
 case first =>
  have H:=HC3.out
  clear HC3
  replace H:=Option.bind_eq_some_iff.mp H
  obtain ⟨t595,A100,H⟩:=H
  replace H:(if t595=true then ((spec_MachIn.f k l1_0 a1_1 a1_2).bind fun t596=>(if t596=true then (spec_MachBoth.j0 k (l1_0.length:Int) (decide ((wrap64 ((l0_0.length:Int) * (l1_0.length:Int))) > 5)) l0_0 a0_1 a0_2 l1_0 a1_1 a1_2) else (spec_MachBoth.j0 k (l1_0.length:Int) true l0_0 a0_1 a0_2 l1_0 a1_1 a1_2))) else (spec_MachBoth.j0 k (l1_0.length:Int) true l0_0 a0_1 a0_2 l1_0 a1_1 a1_2))=some (r1,r2,r3,r4):=H
  have A10:=Aside0.mk A100
  clear A100
  by_cases c11:t595=true
  ·subst c11
   have H1:((spec_MachIn.f k l1_0 a1_1 a1_2).bind fun t596=>(if t596=true then (spec_MachBoth.j0 k (l1_0.length:Int) (decide ((wrap64 ((l0_0.length:Int) * (l1_0.length:Int))) > 5)) l0_0 a0_1 a0_2 l1_0 a1_1 a1_2) else (spec_MachBoth.j0 k (l1_0.length:Int) true l0_0 a0_1 a0_2 l1_0 a1_1 a1_2)))=some (r1,r2,r3,r4):=by rw [if_pos rfl] at H;exact H
   clear H
   have H:=H1
   clear H1
   replace H:=Option.bind_eq_some_iff.mp H
   obtain ⟨t596,A120,H⟩:=H
   replace H:(if t596=true then (spec_MachBoth.j0 k (l1_0.length:Int) (decide ((wrap64 ((l0_0.length:Int) * (l1_0.length:Int))) > 5)) l0_0 a0_1 a0_2 l1_0 a1_1 a1_2) else (spec_MachBoth.j0 k (l1_0.length:Int) true l0_0 a0_1 a0_2 l1_0 a1_1 a1_2))=some (r1,r2,r3,r4):=H
   have A12:=Aside0.mk A120
   clear A120
   by_cases c13:t596=true
   ·subst c13
    have H1:(spec_MachBoth.j0 k (l1_0.length:Int) (decide ((wrap64 ((l0_0.length:Int) * (l1_0.length:Int))) > 5)) l0_0 a0_1 a0_2 l1_0 a1_1 a1_2)=some (r1,r2,r3,r4):=by rw [if_pos rfl] at H;exact H
    clear H
    have H:=H1
    clear H1
    have H':=Aside0.mk H
    clear H
    have hnb14:=NB592_593.out
    have hnc14:=NB593_592.out
    have hnb15:=NB592_594.out
    have hnc15:=NB594_592.out
    have hcz16_0:w6.cell? ⟨gb592,0,none⟩=some (.slice A0_0 l0_0.length c0_0):=(blk_cell BK592.out 0).trans rfl
    have hcz16_1:w6.cell? ⟨gb592,1,none⟩=some (.int .i64 a0_1):=(blk_cell BK592.out 1).trans rfl
    have hcz16_2:w6.cell? ⟨gb592,2,none⟩=some (.int .i64 a0_2):=(blk_cell BK592.out 2).trans rfl
    have hfz16_0:=blk_frozen BK592.out 0
    have hfz16_1:=blk_frozen BK592.out 1
    have hfz16_2:=blk_frozen BK592.out 2
    go_wp2_with (first|((with_reducible refine gate_callee (f:=38) rfl ?_);refine goesL_ (some 17) rfl rfl Try.func38 (by kernel_rfl) rfl #[.agg #[.slice A0_0 l0_0.length c0_0,.int .i64 a0_1,.int .i64 a0_2]] rfl (by (try simp only [List.map_toArray,List.map_cons,List.map_nil]);first|done|rfl|(simp only [List.length_drop,List.length_take];rfl)) ?_;(with_reducible refine (spec_MachIn.calls k _ _ l0_0 a0_1 a0_2 true _ ?side1 ?side2 A10.out).mono ?_);(case side1=>repeat (first|exact (Kd.C_below HR0_0.out HB.out)|(with_reducible refine Kd.C_alloc ?_ _)|(with_reducible refine Kd.C_drewN ?_ _)|(with_reducible refine Kd.C_drew ?_)));(case side2=>exact HC0_0.out);rintro e w17 ⟨rfl,hb⟩;refine ⟨_,rfl,?_⟩;have n0_:=Aside0.mk (blk_below (g:=gb592) (o:=.cells #[.slice A0_0 l0_0.length c0_0,.int .i64 a0_1,.int .i64 a0_2] 31 (0,0)) (by (with_reducible repeat (first|refine yE ?_ _|refine yF ?_|refine yG ?_ _));exact BK592.out) hb);have n1_:=Aside0.mk (blk_below (g:=gb593) (o:=.cells #[.slice A1_0 l1_0.length c1_0,.int .i64 a1_1,.int .i64 a1_2] 31 (0,0)) (by (with_reducible repeat (first|refine yE ?_ _|refine yF ?_|refine yG ?_ _));exact BK593.out) hb);have n2_:=Aside0.mk (blk_below (g:=gb594) (o:=.cells #[.slice none 0 0,.int .i64 0,.int .i64 0] 31 (0,0)) (by (with_reducible repeat (first|refine yE ?_ _|refine yF ?_|refine yG ?_ _));exact BK594.out) hb);have n3_:=Aside0.mk (yP (by repeat (first|(with_reducible first|exact HB.out|apply yA|apply yB|apply yC|refine yD ?_ GE592.out|refine yD ?_ GE593.out|refine yD ?_ GE594.out)|exact HB.out)) hb);clear BK592;clear BK593;clear BK594;clear HB;have BK592:=n0_;have BK593:=n1_;have BK594:=n2_;have HB:=n3_;clear n0_ n1_ n2_ n3_;(try clear hb);(try clear hb2);(try clear hk);(try clear hi);have hnb18:=NB593_594.out;have hnc18:=NB594_593.out;have hcz19_0:w17.cell? ⟨gb593,0,none⟩=some (.slice A1_0 l1_0.length c1_0):=(blk_cell BK593.out 0).trans rfl;have hcz19_1:w17.cell? ⟨gb593,1,none⟩=some (.int .i64 a1_1):=(blk_cell BK593.out 1).trans rfl;have hcz19_2:w17.cell? ⟨gb593,2,none⟩=some (.int .i64 a1_2):=(blk_cell BK593.out 2).trans rfl;have hfz19_0:=blk_frozen BK593.out 0;have hfz19_1:=blk_frozen BK593.out 1;have hfz19_2:=blk_frozen BK593.out 2)|(go_at_call 38;(with_reducible refine (spec_MachIn.calls k _ _ l1_0 a1_1 a1_2 true _ ?side1 ?side2 A12.out).mono ?_);(case side1=>repeat (first|exact (Kd.C_below HR1_0.out HB.out)|(with_reducible refine Kd.C_alloc ?_ _)|(with_reducible refine Kd.C_drewN ?_ _)|(with_reducible refine Kd.C_drew ?_)));(case side2=>exact HC1_0.out);rintro e w20 ⟨rfl,hb⟩;have n0_:=Aside0.mk (blk_below (g:=gb592) (o:=.cells #[.slice A0_0 l0_0.length c0_0,.int .i64 a0_1,.int .i64 a0_2] 31 (0,0)) (by (with_reducible repeat (first|refine yE ?_ _|refine yF ?_|refine yG ?_ _));exact BK592.out) hb);have n1_:=Aside0.mk (blk_below (g:=gb593) (o:=.cells #[.slice A1_0 l1_0.length c1_0,.int .i64 a1_1,.int .i64 a1_2] 31 (0,0)) (by (with_reducible repeat (first|refine yE ?_ _|refine yF ?_|refine yG ?_ _));exact BK593.out) hb);have n2_:=Aside0.mk (blk_below (g:=gb594) (o:=.cells #[.slice none 0 0,.int .i64 0,.int .i64 0] 31 (0,0)) (by (with_reducible repeat (first|refine yE ?_ _|refine yF ?_|refine yG ?_ _));exact BK594.out) hb);have n3_:=Aside0.mk (yP (by repeat (first|(with_reducible first|exact HB.out|apply yA|apply yB|apply yC|refine yD ?_ GE592.out|refine yD ?_ GE593.out|refine yD ?_ GE594.out)|exact HB.out)) hb);clear BK592;clear BK593;clear BK594;clear HB;have BK592:=n0_;have BK593:=n1_;have BK594:=n2_;have HB:=n3_;clear n0_ n1_ n2_ n3_;(try clear hb);(try clear hb2);(try clear hk);(try clear hi);have hcz21_0:w20.cell? ⟨gb592,0,none⟩=some (.slice A0_0 l0_0.length c0_0):=(blk_cell BK592.out 0).trans rfl;have hcz21_1:w20.cell? ⟨gb592,1,none⟩=some (.int .i64 a0_1):=(blk_cell BK592.out 1).trans rfl;have hcz21_2:w20.cell? ⟨gb592,2,none⟩=some (.int .i64 a0_2):=(blk_cell BK592.out 2).trans rfl;have hfz21_0:=blk_frozen BK592.out 0;have hfz21_1:=blk_frozen BK592.out 1;have hfz21_2:=blk_frozen BK592.out 2))
    go_meet
    case rel=>exact ⟨_,(decide ((wrap64 ((l0_0.length:Int) * (l1_0.length:Int))) > 5)),(by first|rfl|(simp;done)|(simp [*];done)|(simp [Int.tmod_eq_emod_of_nonneg];done)),H',⟨by first|omega|exact Nat.le_refl _⟩,⟨by (with_reducible repeat (first|refine yE ?_ _|refine yF ?_|refine yG ?_ _));exact BK592.out⟩,⟨by (with_reducible repeat (first|refine yE ?_ _|refine yF ?_|refine yG ?_ _));exact BK593.out⟩,⟨by (with_reducible repeat (first|refine yE ?_ _|refine yF ?_|refine yG ?_ _));exact BK594.out⟩,⟨by repeat (first|(with_reducible first|exact HB.out|apply yA|apply yB|apply yC|refine yD ?_ GE592.out|refine yD ?_ GE593.out|refine yD ?_ GE594.out)|exact HB.out)⟩⟩
   ·replace c13:=Bool.eq_false_iff.mpr c13
    subst c13
    have H1:(spec_MachBoth.j0 k (l1_0.length:Int) true l0_0 a0_1 a0_2 l1_0 a1_1 a1_2)=some (r1,r2,r3,r4):=by rw [if_neg (show ¬ (false=true) by decide)] at H;exact H
    clear H
    have H:=H1
    clear H1
    have H':=Aside0.mk H
    clear H
    have hnb22:=NB592_593.out
    have hnc22:=NB593_592.out
    have hnb23:=NB592_594.out
    have hnc23:=NB594_592.out
    have hcz24_0:w6.cell? ⟨gb592,0,none⟩=some (.slice A0_0 l0_0.length c0_0):=(blk_cell BK592.out 0).trans rfl
    have hcz24_1:w6.cell? ⟨gb592,1,none⟩=some (.int .i64 a0_1):=(blk_cell BK592.out 1).trans rfl
    have hcz24_2:w6.cell? ⟨gb592,2,none⟩=some (.int .i64 a0_2):=(blk_cell BK592.out 2).trans rfl
    have hfz24_0:=blk_frozen BK592.out 0
    have hfz24_1:=blk_frozen BK592.out 1
    have hfz24_2:=blk_frozen BK592.out 2
    go_wp2_with (first|((with_reducible refine gate_callee (f:=38) rfl ?_);refine goesL_ (some 17) rfl rfl Try.func38 (by kernel_rfl) rfl #[.agg #[.slice A0_0 l0_0.length c0_0,.int .i64 a0_1,.int .i64 a0_2]] rfl (by (try simp only [List.map_toArray,List.map_cons,List.map_nil]);first|done|rfl|(simp only [List.length_drop,List.length_take];rfl)) ?_;(with_reducible refine (spec_MachIn.calls k _ _ l0_0 a0_1 a0_2 true _ ?side1 ?side2 A10.out).mono ?_);(case side1=>repeat (first|exact (Kd.C_below HR0_0.out HB.out)|(with_reducible refine Kd.C_alloc ?_ _)|(with_reducible refine Kd.C_drewN ?_ _)|(with_reducible refine Kd.C_drew ?_)));(case side2=>exact HC0_0.out);rintro e w25 ⟨rfl,hb⟩;refine ⟨_,rfl,?_⟩;have n0_:=Aside0.mk (blk_below (g:=gb592) (o:=.cells #[.slice A0_0 l0_0.length c0_0,.int .i64 a0_1,.int .i64 a0_2] 31 (0,0)) (by (with_reducible repeat (first|refine yE ?_ _|refine yF ?_|refine yG ?_ _));exact BK592.out) hb);have n1_:=Aside0.mk (blk_below (g:=gb593) (o:=.cells #[.slice A1_0 l1_0.length c1_0,.int .i64 a1_1,.int .i64 a1_2] 31 (0,0)) (by (with_reducible repeat (first|refine yE ?_ _|refine yF ?_|refine yG ?_ _));exact BK593.out) hb);have n2_:=Aside0.mk (blk_below (g:=gb594) (o:=.cells #[.slice none 0 0,.int .i64 0,.int .i64 0] 31 (0,0)) (by (with_reducible repeat (first|refine yE ?_ _|refine yF ?_|refine yG ?_ _));exact BK594.out) hb);have n3_:=Aside0.mk (yP (by repeat (first|(with_reducible first|exact HB.out|apply yA|apply yB|apply yC|refine yD ?_ GE592.out|refine yD ?_ GE593.out|refine yD ?_ GE594.out)|exact HB.out)) hb);clear BK592;clear BK593;clear BK594;clear HB;have BK592:=n0_;have BK593:=n1_;have BK594:=n2_;have HB:=n3_;clear n0_ n1_ n2_ n3_;(try clear hb);(try clear hb2);(try clear hk);(try clear hi);have hnb26:=NB593_594.out;have hnc26:=NB594_593.out;have hcz27_0:w25.cell? ⟨gb593,0,none⟩=some (.slice A1_0 l1_0.length c1_0):=(blk_cell BK593.out 0).trans rfl;have hcz27_1:w25.cell? ⟨gb593,1,none⟩=some (.int .i64 a1_1):=(blk_cell BK593.out 1).trans rfl;have hcz27_2:w25.cell? ⟨gb593,2,none⟩=some (.int .i64 a1_2):=(blk_cell BK593.out 2).trans rfl;have hfz27_0:=blk_frozen BK593.out 0;have hfz27_1:=blk_frozen BK593.out 1;have hfz27_2:=blk_frozen BK593.out 2)|(go_at_call 38;(with_reducible refine (spec_MachIn.calls k _ _ l1_0 a1_1 a1_2 false _ ?side1 ?side2 A12.out).mono ?_);(case side1=>repeat (first|exact (Kd.C_below HR1_0.out HB.out)|(with_reducible refine Kd.C_alloc ?_ _)|(with_reducible refine Kd.C_drewN ?_ _)|(with_reducible refine Kd.C_drew ?_)));(case side2=>exact HC1_0.out);rintro e w28 ⟨rfl,hb⟩;have n0_:=Aside0.mk (blk_below (g:=gb592) (o:=.cells #[.slice A0_0 l0_0.length c0_0,.int .i64 a0_1,.int .i64 a0_2] 31 (0,0)) (by (with_reducible repeat (first|refine yE ?_ _|refine yF ?_|refine yG ?_ _));exact BK592.out) hb);have n1_:=Aside0.mk (blk_below (g:=gb593) (o:=.cells #[.slice A1_0 l1_0.length c1_0,.int .i64 a1_1,.int .i64 a1_2] 31 (0,0)) (by (with_reducible repeat (first|refine yE ?_ _|refine yF ?_|refine yG ?_ _));exact BK593.out) hb);have n2_:=Aside0.mk (blk_below (g:=gb594) (o:=.cells #[.slice none 0 0,.int .i64 0,.int .i64 0] 31 (0,0)) (by (with_reducible repeat (first|refine yE ?_ _|refine yF ?_|refine yG ?_ _));exact BK594.out) hb);have n3_:=Aside0.mk (yP (by repeat (first|(with_reducible first|exact HB.out|apply yA|apply yB|apply yC|refine yD ?_ GE592.out|refine yD ?_ GE593.out|refine yD ?_ GE594.out)|exact HB.out)) hb);clear BK592;clear BK593;clear BK594;clear HB;have BK592:=n0_;have BK593:=n1_;have BK594:=n2_;have HB:=n3_;clear n0_ n1_ n2_ n3_;(try clear hb);(try clear hb2);(try clear hk);(try clear hi)))
    go_meet
    case rel=>exact ⟨_,(true),(by first|rfl|(simp;done)|(simp [*];done)|(simp [Int.tmod_eq_emod_of_nonneg];done)),H',⟨by first|omega|exact Nat.le_refl _⟩,⟨by (with_reducible repeat (first|refine yE ?_ _|refine yF ?_|refine yG ?_ _));exact BK592.out⟩,⟨by (with_reducible repeat (first|refine yE ?_ _|refine yF ?_|refine yG ?_ _));exact BK593.out⟩,⟨by (with_reducible repeat (first|refine yE ?_ _|refine yF ?_|refine yG ?_ _));exact BK594.out⟩,⟨by repeat (first|(with_reducible first|exact HB.out|apply yA|apply yB|apply yC|refine yD ?_ GE592.out|refine yD ?_ GE593.out|refine yD ?_ GE594.out)|exact HB.out)⟩⟩
  ·replace c11:=Bool.eq_false_iff.mpr c11
   subst c11
   have H1:(spec_MachBoth.j0 k (l1_0.length:Int) true l0_0 a0_1 a0_2 l1_0 a1_1 a1_2)=some (r1,r2,r3,r4):=by rw [if_neg (show ¬ (false=true) by decide)] at H;exact H
   clear H
   have H:=H1
   clear H1
   have H':=Aside0.mk H
   clear H
   have hnb29:=NB592_593.out
   have hnc29:=NB593_592.out
   have hnb30:=NB592_594.out
   have hnc30:=NB594_592.out
   have hcz31_0:w6.cell? ⟨gb592,0,none⟩=some (.slice A0_0 l0_0.length c0_0):=(blk_cell BK592.out 0).trans rfl
   have hcz31_1:w6.cell? ⟨gb592,1,none⟩=some (.int .i64 a0_1):=(blk_cell BK592.out 1).trans rfl
   have hcz31_2:w6.cell? ⟨gb592,2,none⟩=some (.int .i64 a0_2):=(blk_cell BK592.out 2).trans rfl
   have hfz31_0:=blk_frozen BK592.out 0
   have hfz31_1:=blk_frozen BK592.out 1
   have hfz31_2:=blk_frozen BK592.out 2
   go_wp2_with (first|((with_reducible refine gate_callee (f:=38) rfl ?_);refine goesL_ (some 17) rfl rfl Try.func38 (by kernel_rfl) rfl #[.agg #[.slice A0_0 l0_0.length c0_0,.int .i64 a0_1,.int .i64 a0_2]] rfl (by (try simp only [List.map_toArray,List.map_cons,List.map_nil]);first|done|rfl|(simp only [List.length_drop,List.length_take];rfl)) ?_;(with_reducible refine (spec_MachIn.calls k _ _ l0_0 a0_1 a0_2 false _ ?side1 ?side2 A10.out).mono ?_);(case side1=>repeat (first|exact (Kd.C_below HR0_0.out HB.out)|(with_reducible refine Kd.C_alloc ?_ _)|(with_reducible refine Kd.C_drewN ?_ _)|(with_reducible refine Kd.C_drew ?_)));(case side2=>exact HC0_0.out);rintro e w32 ⟨rfl,hb⟩;refine ⟨_,rfl,?_⟩;have n0_:=Aside0.mk (blk_below (g:=gb592) (o:=.cells #[.slice A0_0 l0_0.length c0_0,.int .i64 a0_1,.int .i64 a0_2] 31 (0,0)) (by (with_reducible repeat (first|refine yE ?_ _|refine yF ?_|refine yG ?_ _));exact BK592.out) hb);have n1_:=Aside0.mk (blk_below (g:=gb593) (o:=.cells #[.slice A1_0 l1_0.length c1_0,.int .i64 a1_1,.int .i64 a1_2] 31 (0,0)) (by (with_reducible repeat (first|refine yE ?_ _|refine yF ?_|refine yG ?_ _));exact BK593.out) hb);have n2_:=Aside0.mk (blk_below (g:=gb594) (o:=.cells #[.slice none 0 0,.int .i64 0,.int .i64 0] 31 (0,0)) (by (with_reducible repeat (first|refine yE ?_ _|refine yF ?_|refine yG ?_ _));exact BK594.out) hb);have n3_:=Aside0.mk (yP (by repeat (first|(with_reducible first|exact HB.out|apply yA|apply yB|apply yC|refine yD ?_ GE592.out|refine yD ?_ GE593.out|refine yD ?_ GE594.out)|exact HB.out)) hb);clear BK592;clear BK593;clear BK594;clear HB;have BK592:=n0_;have BK593:=n1_;have BK594:=n2_;have HB:=n3_;clear n0_ n1_ n2_ n3_;(try clear hb);(try clear hb2);(try clear hk);(try clear hi)))
   go_meet
   case rel=>exact ⟨_,(true),(by first|rfl|(simp;done)|(simp [*];done)|(simp [Int.tmod_eq_emod_of_nonneg];done)),H',⟨by first|omega|exact Nat.le_refl _⟩,⟨by (with_reducible repeat (first|refine yE ?_ _|refine yF ?_|refine yG ?_ _));exact BK592.out⟩,⟨by (with_reducible repeat (first|refine yE ?_ _|refine yF ?_|refine yG ?_ _));exact BK593.out⟩,⟨by (with_reducible repeat (first|refine yE ?_ _|refine yF ?_|refine yG ?_ _));exact BK594.out⟩,⟨by repeat (first|(with_reducible first|exact HB.out|apply yA|apply yB|apply yC|refine yD ?_ GE592.out|refine yD ?_ GE593.out|refine yD ?_ GE594.out)|exact HB.out)⟩⟩
 case rest =>
  clear HC3
  try clear c1
  try clear c2
  try clear p2
  try clear c3
  try clear p6
  try clear c7
  try clear c8
  try clear c11
  try clear c13
  try clear c14
  try clear c15
  try clear c18
  try clear c22
  try clear c23
  try clear c26
  try clear c29
  try clear c30
  try clear hcz16_0
  try clear hcz16_1
  try clear hcz16_2
  try clear hcz19_0
  try clear hcz19_1
  try clear hcz19_2
  try clear hcz21_0
  try clear hcz21_1
  try clear hcz21_2
  try clear hcz24_0
  try clear hcz24_1
  try clear hcz24_2
  try clear hcz27_0
  try clear hcz27_1
  try clear hcz27_2
  try clear hcz31_0
  try clear hcz31_1
  try clear hcz31_2
  try clear hcz9_0
  try clear hcz9_1
  try clear hcz9_2
  try clear hfz16_0
  try clear hfz16_1
  try clear hfz16_2
  try clear hfz19_0
  try clear hfz19_1
  try clear hfz19_2
  try clear hfz21_0
  try clear hfz21_1
  try clear hfz21_2
  try clear hfz24_0
  try clear hfz24_1
  try clear hfz24_2
  try clear hfz27_0
  try clear hfz27_1
  try clear hfz27_2
  try clear hfz31_0
  try clear hfz31_1
  try clear hfz31_2
  try clear hfz9_0
  try clear hfz9_1
  try clear hfz9_2
  obtain ⟨kq,x31_2,rfl,HA,HJ2,BK592,BK593,BK594,HB⟩:=hcut
  cases kq with
  | zero=>exact absurd HA.out (by simp [spec_MachBoth.j0])
  | succ kj2 =>
   have H:=HA.out
   clear HA
   simp only [spec_MachBoth.j0] at H
   by_cases c33:x31_2=true
   ·subst c33
    have H1:(some (([]:List Int),0,0,false))=some (r1,r2,r3,r4):=by rw [if_pos rfl] at H;exact H
    clear H
    have H:=H1
    clear H1
    simp only [Option.some.injEq,Prod.mk.injEq] at H
    obtain ⟨rfl,rfl,rfl,rfl⟩:=H
    have hnb34:=NB594_592.out
    have hnc34:=NB592_594.out
    have hnb35:=NB594_593.out
    have hnc35:=NB593_594.out
    have hcz36_0:wc.cell? ⟨gb594,0,none⟩=some (.slice none 0 0):=(blk_cell BK594.out 0).trans rfl
    have hcz36_1:wc.cell? ⟨gb594,1,none⟩=some (.int .i64 0):=(blk_cell BK594.out 1).trans rfl
    have hcz36_2:wc.cell? ⟨gb594,2,none⟩=some (.int .i64 0):=(blk_cell BK594.out 2).trans rfl
    have hfz36_0:=blk_frozen BK594.out 0
    have hfz36_1:=blk_frozen BK594.out 1
    have hfz36_2:=blk_frozen BK594.out 2
    go_wp2
    refine bodyPost_ret (results_ct rfl _ _ gb594 31 #[.slice none 0 0,.int .i64 0,.int .i64 0] (0,0) _ rfl (by (with_reducible repeat (first|refine yE ?_ _|refine yF ?_|refine yG ?_ _));refine blk_put (cs:=#[.slice none 0 0,.int .i64 0,.int .i64 0]) ?_ 2 _ rfl;(with_reducible repeat (first|refine yE ?_ _|refine yF ?_|refine yG ?_ _));refine blk_put (cs:=#[.slice none 0 0,.int .i64 0,.int .i64 0]) ?_ 1 _ rfl;(with_reducible repeat (first|refine yE ?_ _|refine yF ?_|refine yG ?_ _));refine blk_put (cs:=#[.slice none 0 0,.int .i64 0,.int .i64 0]) ?_ 0 _ rfl;(with_reducible repeat (first|refine yE ?_ _|refine yF ?_|refine yG ?_ _));exact BK594.out) Try.underlying31 rfl (by kernel_rfl)) rfl ?_
    exact ⟨_,by first|rfl|(simp [errW_none,errW_some]<;>rfl)|(simp [*,errW_none,errW_some]<;>rfl)|(simp [errW_none,errW_some];exact ⟨rfl,rfl⟩),by first|exact Kd.R_nil _ _ _ _ _|exact Kd.N_nil _ _ _ _ _|exact Kd.V_nil _ _ _ _ _|exact Kd.Q_nil _ _ _ _ _|exact Kd.S_nil _ _ _ _ _,by repeat (first|(with_reducible first|exact HB.out|apply yA|apply yB|apply yC|refine yD ?_ GE592.out|refine yD ?_ GE593.out|refine yD ?_ GE594.out)|exact HB.out)⟩
   ·replace c33:=Bool.eq_false_iff.mpr c33
    subst c33
    have H1:(spec_MachBoth.l0 kj2 (l1_0.length:Int) 0 l0_0 a0_1 a0_2 l1_0 a1_1 a1_2 (([]:List Int)) 0 0)=some (r1,r2,r3,r4):=by rw [if_neg (show ¬ (false=true) by decide)] at H;exact H
    clear H
    have H:=H1
    clear H1
    obtain ⟨y597,hy597⟩:∃ y_:List Int,y_=(([]:List Int)):=⟨_,rfl⟩
    replace H:(spec_MachBoth.l0 kj2 (l1_0.length:Int) 0 l0_0 a0_1 a0_2 l1_0 a1_1 a1_2 y597 0 0)=some (r1,r2,r3,r4):=by first|(rw [hy597];with_reducible exact H)|(have H2_:=(Option.bind_some _ _).symm.trans H;rw [hy597];with_reducible exact H2_)|(have H2_:=(Option.bind_some _ _).symm.trans H;with_reducible exact H2_)|with_reducible exact H|(rw [hy597];exact H)|exact H
    have Ny597:=Aside0.mk hy597
    clear hy597
    have H':=Aside0.mk H
    clear H
    go_wp2_with (first|((with_reducible refine gate_dst (N:=33) rfl ?_);(try (refine gate_guard (by rfl) ?_;dsimp only));refine Kd.R_lit (Kd.int .i64) _ 3 ?hg (N:=33) ?hd (xs:=([]:List Int)) (inner:=[]) (ok:=fun _=>True) (okp:=fun _=>True) ?hr ?hp (fun _ hk=>hk) trivial (Below.refl _ _) (Nat.le_refl _) (by simp) ?_;(case hd=>rfl);(case hg=>rfl);(case hr=>first|(go_simp;done)|(go_simp;rfl));(case hp=>exact (Reps.none _ _));intro v598 w37 ho38 hb hg_ hnew_;clear hg_ hnew_;(first|rw [← Ny597.out] at ho38|(simp only [Int.reduceToNat] at ho38;rw [← Ny597.out] at ho38));have n0_:=Aside0.mk (Kd.R_lower ho38 (yQ (by repeat (first|(with_reducible first|exact HB.out|apply yA|apply yB|apply yC|refine yD ?_ GE592.out|refine yD ?_ GE593.out|refine yD ?_ GE594.out)|exact HB.out))));have n1_:=Aside0.mk (blk_below (g:=gb592) (o:=.cells #[.slice A0_0 l0_0.length c0_0,.int .i64 a0_1,.int .i64 a0_2] 31 (0,0)) (by (with_reducible repeat (first|refine yE ?_ _|refine yF ?_|refine yG ?_ _));exact BK592.out) hb);have n2_:=Aside0.mk (blk_below (g:=gb593) (o:=.cells #[.slice A1_0 l1_0.length c1_0,.int .i64 a1_1,.int .i64 a1_2] 31 (0,0)) (by (with_reducible repeat (first|refine yE ?_ _|refine yF ?_|refine yG ?_ _));exact BK593.out) hb);have n3_:=Aside0.mk (blk_below (g:=gb594) (o:=.cells #[.slice none 0 0,.int .i64 0,.int .i64 0] 31 (0,0)) (by (with_reducible repeat (first|refine yE ?_ _|refine yF ?_|refine yG ?_ _));exact BK594.out) hb);have n4_:=Aside0.mk (yP (by repeat (first|(with_reducible first|exact HB.out|apply yA|apply yB|apply yC|refine yD ?_ GE592.out|refine yD ?_ GE593.out|refine yD ?_ GE594.out)|exact HB.out)) hb);clear BK592;clear BK593;clear BK594;clear HB;have HO599:=n0_;have BK592:=n1_;have BK593:=n2_;have BK594:=n3_;have HB:=n4_;clear n0_ n1_ n2_ n3_ n4_;clear hb ho38;obtain ⟨Ao39,co39,eo39⟩:=Kd.R_slice HO599.out;subst eo39)|((with_reducible refine gate_dst (N:=7) rfl ?_);(try (refine gate_guard (by rfl) ?_;dsimp only));refine box_event ?hg (N:=7) ?hd (cs:=#[.slice none 0 0,.int .i64 0,.int .i64 0]) (t:=31) ?hr ?_;(case hd=>rfl);(case hg=>rfl);(case hr=>first|(go_simp;done)|(go_simp;rfl));intro gb600 hg w40 hbox hb;have n0_:=Aside0.mk (Kd.R_below (by (with_reducible repeat (first|apply yH|apply yI|apply yJ));exact HO599.out) hb);have n1_:=Aside0.mk (blk_below (g:=gb592) (o:=.cells #[.slice A0_0 l0_0.length c0_0,.int .i64 a0_1,.int .i64 a0_2] 31 (0,0)) (by (with_reducible repeat (first|refine yE ?_ _|refine yF ?_|refine yG ?_ _));exact BK592.out) hb);have n2_:=Aside0.mk (blk_below (g:=gb593) (o:=.cells #[.slice A1_0 l1_0.length c1_0,.int .i64 a1_1,.int .i64 a1_2] 31 (0,0)) (by (with_reducible repeat (first|refine yE ?_ _|refine yF ?_|refine yG ?_ _));exact BK593.out) hb);have n3_:=Aside0.mk (blk_below (g:=gb594) (o:=.cells #[.slice none 0 0,.int .i64 0,.int .i64 0] 31 (0,0)) (by (with_reducible repeat (first|refine yE ?_ _|refine yF ?_|refine yG ?_ _));exact BK594.out) hb);have n4_:=Aside0.mk (yP (by repeat (first|(with_reducible first|exact HB.out|apply yA|apply yB|apply yC|refine yD ?_ GE592.out|refine yD ?_ GE593.out|refine yD ?_ GE594.out)|exact HB.out)) hb);have n5_:=Aside0.mk (hbox);have n6_:=Aside0.mk ((by rw [hg];exact (yQ (by repeat (first|(with_reducible first|exact HB.out|apply yA|apply yB|apply yC|refine yD ?_ GE592.out|refine yD ?_ GE593.out|refine yD ?_ GE594.out)|exact HB.out))):w.heap.size≤gb600));have n7_:=Aside0.mk ((by rw [hg];exact (yQ (by repeat (first|(with_reducible first|exact HB.out|apply yA|apply yB|apply yC|refine yD ?_ GE592.out|refine yD ?_ GE593.out|refine yD ?_ GE594.out)|exact HB.out))):w.heap.size≤gb600));have n8_:=Aside0.mk ((by rw [hg];exact Nat.ne_of_lt (blk_lt (g:=gb592) (o:=.cells #[.slice A0_0 l0_0.length c0_0,.int .i64 a0_1,.int .i64 a0_2] 31 (0,0)) (by (with_reducible repeat (first|refine yE ?_ _|refine yF ?_|refine yG ?_ _));exact BK592.out)):gb592≠gb600));have n9_:=Aside0.mk ((by rw [hg];exact Nat.ne_of_gt (blk_lt (g:=gb592) (o:=.cells #[.slice A0_0 l0_0.length c0_0,.int .i64 a0_1,.int .i64 a0_2] 31 (0,0)) (by (with_reducible repeat (first|refine yE ?_ _|refine yF ?_|refine yG ?_ _));exact BK592.out)):gb600≠gb592));have n10_:=Aside0.mk ((by rw [hg];exact Nat.ne_of_lt (blk_lt (g:=gb593) (o:=.cells #[.slice A1_0 l1_0.length c1_0,.int .i64 a1_1,.int .i64 a1_2] 31 (0,0)) (by (with_reducible repeat (first|refine yE ?_ _|refine yF ?_|refine yG ?_ _));exact BK593.out)):gb593≠gb600));have n11_:=Aside0.mk ((by rw [hg];exact Nat.ne_of_gt (blk_lt (g:=gb593) (o:=.cells #[.slice A1_0 l1_0.length c1_0,.int .i64 a1_1,.int .i64 a1_2] 31 (0,0)) (by (with_reducible repeat (first|refine yE ?_ _|refine yF ?_|refine yG ?_ _));exact BK593.out)):gb600≠gb593));have n12_:=Aside0.mk ((by rw [hg];exact Nat.ne_of_lt (blk_lt (g:=gb594) (o:=.cells #[.slice none 0 0,.int .i64 0,.int .i64 0] 31 (0,0)) (by (with_reducible repeat (first|refine yE ?_ _|refine yF ?_|refine yG ?_ _));exact BK594.out)):gb594≠gb600));have n13_:=Aside0.mk ((by rw [hg];exact Nat.ne_of_gt (blk_lt (g:=gb594) (o:=.cells #[.slice none 0 0,.int .i64 0,.int .i64 0] 31 (0,0)) (by (with_reducible repeat (first|refine yE ?_ _|refine yF ?_|refine yG ?_ _));exact BK594.out)):gb600≠gb594));clear HO599;clear BK592;clear BK593;clear BK594;clear HB;have HO599:=n0_;have BK592:=n1_;have BK593:=n2_;have BK594:=n3_;have HB:=n4_;have BK600:=n5_;have GW600:=n6_;have GE600:=n7_;have NB592_600:=n8_;have NB600_592:=n9_;have NB593_600:=n10_;have NB600_593:=n11_;have NB594_600:=n12_;have NB600_594:=n13_;clear n0_ n1_ n2_ n3_ n4_ n5_ n6_ n7_ n8_ n9_ n10_ n11_ n12_ n13_;clear hb hbox hg;have hnb41:=NB600_592.out;have hnc41:=NB592_600.out;have hnb42:=NB600_593.out;have hnc42:=NB593_600.out;have hnb43:=NB600_594.out;have hnc43:=NB594_600.out;have hcz44_0:w40.cell? ⟨gb600,0,none⟩=some (.slice none 0 0):=(blk_cell BK600.out 0).trans rfl;have hcz44_1:w40.cell? ⟨gb600,1,none⟩=some (.int .i64 0):=(blk_cell BK600.out 1).trans rfl;have hcz44_2:w40.cell? ⟨gb600,2,none⟩=some (.int .i64 0):=(blk_cell BK600.out 2).trans rfl;have hfz44_0:=blk_frozen BK600.out 0;have hfz44_1:=blk_frozen BK600.out 1;have hfz44_2:=blk_frozen BK600.out 2))
    go_loopg [8] kj2 (fun kq v8 w'=>∃ (x8_2:Int) (x601000_2:List Int) (x601001_2:Int) (x601002_2:Int) (u601000:Value),v8=.int .i64 x8_2∧Aside0 (spec_MachBoth.l0 kq (l1_0.length:Int) x8_2 l0_0 a0_1 a0_2 l1_0 a1_1 a1_2 x601000_2 x601001_2 x601002_2=some (r1,r2,r3,r4))∧Aside0 (kq≤kj2)∧Aside0 (Kd.R (Kd.int .i64) 3 w' w.heap.size (fun _=>True) u601000 x601000_2)∧Aside0 (w'.heap[gb592]?=some (.cells #[(.slice A0_0 l0_0.length c0_0),.int .i64 a0_1,.int .i64 a0_2] 31 (0,0)))∧Aside0 (w'.heap[gb593]?=some (.cells #[(.slice A1_0 l1_0.length c1_0),.int .i64 a1_1,.int .i64 a1_2] 31 (0,0)))∧Aside0 (w'.heap[gb594]?=some (.cells #[(.slice none 0 0),.int .i64 0,.int .i64 0] 31 (0,0)))∧Aside0 (w'.heap[gb600]?=some (.cells #[u601000,.int .i64 x601001_2,.int .i64 x601002_2] 31 (0,0)))∧Aside0 (Below w.heap.size w w'))
    case atStart=>exact ⟨(0),(y597),(0),(0),(.slice Ao39 y597.length co39),(by first|rfl|(simp;done)|(simp [*];done)|(simp [Int.tmod_eq_emod_of_nonneg];done)),H',⟨Nat.le_refl _⟩,⟨by (with_reducible repeat (first|apply yH|apply yI|apply yJ));exact Kd.R_mono (Kd.R_far (p:=⟨gb600,2,none⟩) (Kd.R_far (p:=⟨gb600,1,none⟩) (Kd.R_far (p:=⟨gb600,0,none⟩) (Kd.R_types HO599.out BK600.out (by decide)) (fun _ hk=>hk.2) (.slice Ao39 y597.length co39)) (fun _ hk=>hk.2) (.int .i64 0)) (fun _ hk=>hk.2) (.int .i64 0)) (fun _ hk=>trivial)⟩,⟨by (with_reducible repeat (first|refine yE ?_ _|refine yF ?_|refine yG ?_ _));refine blk_far ?_ NB592_600.out _;(with_reducible repeat (first|refine yE ?_ _|refine yF ?_|refine yG ?_ _));refine blk_far ?_ NB592_600.out _;(with_reducible repeat (first|refine yE ?_ _|refine yF ?_|refine yG ?_ _));refine blk_far ?_ NB592_600.out _;(with_reducible repeat (first|refine yE ?_ _|refine yF ?_|refine yG ?_ _));exact BK592.out⟩,⟨by (with_reducible repeat (first|refine yE ?_ _|refine yF ?_|refine yG ?_ _));refine blk_far ?_ NB593_600.out _;(with_reducible repeat (first|refine yE ?_ _|refine yF ?_|refine yG ?_ _));refine blk_far ?_ NB593_600.out _;(with_reducible repeat (first|refine yE ?_ _|refine yF ?_|refine yG ?_ _));refine blk_far ?_ NB593_600.out _;(with_reducible repeat (first|refine yE ?_ _|refine yF ?_|refine yG ?_ _));exact BK593.out⟩,⟨by (with_reducible repeat (first|refine yE ?_ _|refine yF ?_|refine yG ?_ _));refine blk_far ?_ NB594_600.out _;(with_reducible repeat (first|refine yE ?_ _|refine yF ?_|refine yG ?_ _));refine blk_far ?_ NB594_600.out _;(with_reducible repeat (first|refine yE ?_ _|refine yF ?_|refine yG ?_ _));refine blk_far ?_ NB594_600.out _;(with_reducible repeat (first|refine yE ?_ _|refine yF ?_|refine yG ?_ _));exact BK594.out⟩,⟨by (with_reducible repeat (first|refine yE ?_ _|refine yF ?_|refine yG ?_ _));refine blk_put (cs:=#[.slice Ao39 y597.length co39,.int .i64 0,.int .i64 0]) ?_ 2 _ rfl;(with_reducible repeat (first|refine yE ?_ _|refine yF ?_|refine yG ?_ _));refine blk_put (cs:=#[.slice Ao39 y597.length co39,.int .i64 0,.int .i64 0]) ?_ 1 _ rfl;(with_reducible repeat (first|refine yE ?_ _|refine yF ?_|refine yG ?_ _));refine blk_put (cs:=#[.slice none 0 0,.int .i64 0,.int .i64 0]) ?_ 0 _ rfl;(with_reducible repeat (first|refine yE ?_ _|refine yF ?_|refine yG ?_ _));exact BK600.out⟩,⟨by repeat (first|(with_reducible first|exact HB.out|apply yA|apply yB|apply yC|refine yD ?_ GE592.out|refine yD ?_ GE593.out|refine yD ?_ GE594.out|refine yD ?_ GE600.out)|exact HB.out)⟩⟩
    case round =>
     clear H'
     try clear c1
     try clear c2
     try clear p2
     try clear c3
     try clear c4
     try clear p6
     try clear c7
     try clear c8
     try clear c11
     try clear c13
     try clear c14
     try clear c15
     try clear c18
     try clear c22
     try clear c23
     try clear c26
     try clear c29
     try clear c30
     try clear c33
     try clear c34
     try clear c35
     try clear c38
     try clear c41
     try clear c42
     try clear c43
     try clear hcz16_0
     try clear hcz16_1
     try clear hcz16_2
     try clear hcz19_0
     try clear hcz19_1
     try clear hcz19_2
     try clear hcz21_0
     try clear hcz21_1
     try clear hcz21_2
     try clear hcz24_0
     try clear hcz24_1
     try clear hcz24_2
     try clear hcz27_0
     try clear hcz27_1
     try clear hcz27_2
     try clear hcz31_0
     try clear hcz31_1
     try clear hcz31_2
     try clear hcz36_0
     try clear hcz36_1
     try clear hcz36_2
     try clear hcz44_0
     try clear hcz44_1
     try clear hcz44_2
     try clear hcz9_0
     try clear hcz9_1
     try clear hcz9_2
     try clear hfz16_0
     try clear hfz16_1
     try clear hfz16_2
     try clear hfz19_0
     try clear hfz19_1
     try clear hfz19_2
     try clear hfz21_0
     try clear hfz21_1
     try clear hfz21_2
     try clear hfz24_0
     try clear hfz24_1
     try clear hfz24_2
     try clear hfz27_0
     try clear hfz27_1
     try clear hfz27_2
     try clear hfz31_0
     try clear hfz31_1
     try clear hfz31_2
     try clear hfz36_0
     try clear hfz36_1
     try clear hfz36_2
     try clear hfz44_0
     try clear hfz44_1
     try clear hfz44_2
     try clear hfz9_0
     try clear hfz9_1
     try clear hfz9_2
     try clear p2
     try clear p6
     obtain ⟨x8_2,x601000_2,x601001_2,x601002_2,u601000,rfl,HA,HK2,HO_601000,BK592,BK593,BK594,BK600,HB⟩:=hrel
     cases gk with
     | zero=>exact absurd HA.out (by simp [spec_MachBoth.l0])
     | succ k2 =>
      have H:=HA.out
      clear HA
      simp only [spec_MachBoth.l0] at H
      by_cases c45:x8_2<(l0_0.length:Int)
      ·rw [if_pos c45] at H
       have c45b0:decide (x8_2<(l0_0.length:Int))=true:=decide_eq_true c45
       clear c45
       have H':=Aside0.mk H
       clear H
       have hnb46:=NB592_593.out
       have hnc46:=NB593_592.out
       have hnb47:=NB592_594.out
       have hnc47:=NB594_592.out
       have hnb48:=NB592_600.out
       have hnc48:=NB600_592.out
       have hcz49_0:wr.cell? ⟨gb592,0,none⟩=some (.slice A0_0 l0_0.length c0_0):=(blk_cell BK592.out 0).trans rfl
       have hcz49_1:wr.cell? ⟨gb592,1,none⟩=some (.int .i64 a0_1):=(blk_cell BK592.out 1).trans rfl
       have hcz49_2:wr.cell? ⟨gb592,2,none⟩=some (.int .i64 a0_2):=(blk_cell BK592.out 2).trans rfl
       have hfz49_0:=blk_frozen BK592.out 0
       have hfz49_1:=blk_frozen BK592.out 1
       have hfz49_2:=blk_frozen BK592.out 2
       go_wp2
       go_loopg [9] k2 (fun kq v9 w'=>∃ (x9_3:Int) (x601000_3:List Int) (x601001_3:Int) (x601002_3:Int) (u601000:Value),v9=.int .i64 x9_3∧Aside0 (spec_MachBoth.l1 kq (l1_0.length:Int) x8_2 x9_3 l0_0 a0_1 a0_2 l1_0 a1_1 a1_2 x601000_3 x601001_3 x601002_3=some (r1,r2,r3,r4))∧Aside0 (kq≤k2)∧Aside0 (Kd.R (Kd.int .i64) 3 w' w.heap.size (fun _=>True) u601000 x601000_3)∧Aside0 (w'.heap[gb592]?=some (.cells #[(.slice A0_0 l0_0.length c0_0),.int .i64 a0_1,.int .i64 a0_2] 31 (0,0)))∧Aside0 (w'.heap[gb593]?=some (.cells #[(.slice A1_0 l1_0.length c1_0),.int .i64 a1_1,.int .i64 a1_2] 31 (0,0)))∧Aside0 (w'.heap[gb594]?=some (.cells #[(.slice none 0 0),.int .i64 0,.int .i64 0] 31 (0,0)))∧Aside0 (w'.heap[gb600]?=some (.cells #[u601000,.int .i64 x601001_3,.int .i64 x601002_3] 31 (0,0)))∧Aside0 (Below w.heap.size w w'))
       case atStart=>exact ⟨(0),(x601000_2),(x601001_2),(x601002_2),(u601000),(by first|rfl|(simp;done)|(simp [*];done)|(simp [Int.tmod_eq_emod_of_nonneg];done)),H',⟨Nat.le_refl _⟩,⟨by (with_reducible repeat (first|apply yH|apply yI|apply yJ));exact HO_601000.out⟩,⟨by (with_reducible repeat (first|refine yE ?_ _|refine yF ?_|refine yG ?_ _));exact BK592.out⟩,⟨by (with_reducible repeat (first|refine yE ?_ _|refine yF ?_|refine yG ?_ _));exact BK593.out⟩,⟨by (with_reducible repeat (first|refine yE ?_ _|refine yF ?_|refine yG ?_ _));exact BK594.out⟩,⟨by (with_reducible repeat (first|refine yE ?_ _|refine yF ?_|refine yG ?_ _));exact BK600.out⟩,⟨by repeat (first|(with_reducible first|exact HB.out|apply yA|apply yB|apply yC|refine yD ?_ GE592.out|refine yD ?_ GE593.out|refine yD ?_ GE594.out|refine yD ?_ GE600.out)|exact HB.out)⟩⟩
       case round =>
        clear H'
        try clear c1
        try clear c2
        try clear p2
        try clear c3
        try clear c4
        try clear p6
        try clear c7
        try clear c8
        try clear c11
        try clear c13
        try clear c14
        try clear c15
        try clear c18
        try clear c22
        try clear c23
        try clear c26
        try clear c29
        try clear c30
        try clear c33
        try clear c34
        try clear c35
        try clear c38
        try clear c41
        try clear c42
        try clear c43
        try clear c45
        try clear c45b0
        try clear c46
        try clear c47
        try clear c48
        try clear hcz16_0
        try clear hcz16_1
        try clear hcz16_2
        try clear hcz19_0
        try clear hcz19_1
        try clear hcz19_2
        try clear hcz21_0
        try clear hcz21_1
        try clear hcz21_2
        try clear hcz24_0
        try clear hcz24_1
        try clear hcz24_2
        try clear hcz27_0
        try clear hcz27_1
        try clear hcz27_2
        try clear hcz31_0
        try clear hcz31_1
        try clear hcz31_2
        try clear hcz36_0
        try clear hcz36_1
        try clear hcz36_2
        try clear hcz44_0
        try clear hcz44_1
        try clear hcz44_2
        try clear hcz49_0
        try clear hcz49_1
        try clear hcz49_2
        try clear hcz9_0
        try clear hcz9_1
        try clear hcz9_2
        try clear hfz16_0
        try clear hfz16_1
        try clear hfz16_2
        try clear hfz19_0
        try clear hfz19_1
        try clear hfz19_2
        try clear hfz21_0
        try clear hfz21_1
        try clear hfz21_2
        try clear hfz24_0
        try clear hfz24_1
        try clear hfz24_2
        try clear hfz27_0
        try clear hfz27_1
        try clear hfz27_2
        try clear hfz31_0
        try clear hfz31_1
        try clear hfz31_2
        try clear hfz36_0
        try clear hfz36_1
        try clear hfz36_2
        try clear hfz44_0
        try clear hfz44_1
        try clear hfz44_2
        try clear hfz49_0
        try clear hfz49_1
        try clear hfz49_2
        try clear hfz9_0
        try clear hfz9_1
        try clear hfz9_2
        try clear p2
        try clear p6
        obtain ⟨x9_3,x601000_3,x601001_3,x601002_3,u601000,rfl,HA,HK3,HO_601000,BK592,BK593,BK594,BK600,HB⟩:=hrel
        cases gk with
        | zero=>exact absurd HA.out (by simp [spec_MachBoth.l1])
        | succ k3 =>
         have H:=HA.out
         clear HA
         simp only [spec_MachBoth.l1] at H
         by_cases c50:x9_3<(l1_0.length:Int)
         ·rw [if_pos c50] at H
          have c50b0:decide (x9_3<(l1_0.length:Int))=true:=decide_eq_true c50
          clear c50
          have H':=Aside0.mk H
          clear H
          go_wp2
          go_loopg [10,11] k3 (fun kq v10 v11 w'=>∃ (x10_4:Int) (x11_4:Int),v10=.int .i64 x10_4∧v11=.int .i64 x11_4∧Aside0 (spec_MachBoth.l2 kq (l1_0.length:Int) x8_2 x9_3 x10_4 x11_4 l0_0 a0_1 a0_2 l1_0 a1_1 a1_2 x601000_3 x601001_3 x601002_3=some (r1,r2,r3,r4))∧Aside0 (kq≤k3)∧Aside0 (Kd.R (Kd.int .i64) 3 w' w.heap.size (fun _=>True) u601000 x601000_3)∧Aside0 (w'.heap[gb592]?=some (.cells #[(.slice A0_0 l0_0.length c0_0),.int .i64 a0_1,.int .i64 a0_2] 31 (0,0)))∧Aside0 (w'.heap[gb593]?=some (.cells #[(.slice A1_0 l1_0.length c1_0),.int .i64 a1_1,.int .i64 a1_2] 31 (0,0)))∧Aside0 (w'.heap[gb594]?=some (.cells #[(.slice none 0 0),.int .i64 0,.int .i64 0] 31 (0,0)))∧Aside0 (w'.heap[gb600]?=some (.cells #[u601000,.int .i64 x601001_3,.int .i64 x601002_3] 31 (0,0)))∧Aside0 (Below w.heap.size w w'))
          case atStart=>exact ⟨(0),(0),(by first|rfl|(simp;done)|(simp [*];done)|(simp [Int.tmod_eq_emod_of_nonneg];done)),(by first|rfl|(simp;done)|(simp [*];done)|(simp [Int.tmod_eq_emod_of_nonneg];done)),H',⟨Nat.le_refl _⟩,⟨by (with_reducible repeat (first|apply yH|apply yI|apply yJ));exact HO_601000.out⟩,⟨by (with_reducible repeat (first|refine yE ?_ _|refine yF ?_|refine yG ?_ _));exact BK592.out⟩,⟨by (with_reducible repeat (first|refine yE ?_ _|refine yF ?_|refine yG ?_ _));exact BK593.out⟩,⟨by (with_reducible repeat (first|refine yE ?_ _|refine yF ?_|refine yG ?_ _));exact BK594.out⟩,⟨by (with_reducible repeat (first|refine yE ?_ _|refine yF ?_|refine yG ?_ _));exact BK600.out⟩,⟨by repeat (first|(with_reducible first|exact HB.out|apply yA|apply yB|apply yC|refine yD ?_ GE592.out|refine yD ?_ GE593.out|refine yD ?_ GE594.out|refine yD ?_ GE600.out)|exact HB.out)⟩⟩
          case round =>
           clear H'
           try clear c1
           try clear c2
           try clear p2
           try clear c3
           try clear c4
           try clear c5
           try clear p6
           try clear c7
           try clear c8
           try clear c11
           try clear c13
           try clear c14
           try clear c15
           try clear c18
           try clear c22
           try clear c23
           try clear c26
           try clear c29
           try clear c30
           try clear c33
           try clear c34
           try clear c35
           try clear c38
           try clear c41
           try clear c42
           try clear c43
           try clear c45
           try clear c45b0
           try clear c46
           try clear c47
           try clear c48
           try clear c50
           try clear c50b0
           try clear hcz16_0
           try clear hcz16_1
           try clear hcz16_2
           try clear hcz19_0
           try clear hcz19_1
           try clear hcz19_2
           try clear hcz21_0
           try clear hcz21_1
           try clear hcz21_2
           try clear hcz24_0
           try clear hcz24_1
           try clear hcz24_2
           try clear hcz27_0
           try clear hcz27_1
           try clear hcz27_2
           try clear hcz31_0
           try clear hcz31_1
           try clear hcz31_2
           try clear hcz36_0
           try clear hcz36_1
           try clear hcz36_2
           try clear hcz44_0
           try clear hcz44_1
           try clear hcz44_2
           try clear hcz49_0
           try clear hcz49_1
           try clear hcz49_2
           try clear hcz9_0
           try clear hcz9_1
           try clear hcz9_2
           try clear hfz16_0
           try clear hfz16_1
           try clear hfz16_2
           try clear hfz19_0
           try clear hfz19_1
           try clear hfz19_2
           try clear hfz21_0
           try clear hfz21_1
           try clear hfz21_2
           try clear hfz24_0
           try clear hfz24_1
           try clear hfz24_2
           try clear hfz27_0
           try clear hfz27_1
           try clear hfz27_2
           try clear hfz31_0
           try clear hfz31_1
           try clear hfz31_2
           try clear hfz36_0
           try clear hfz36_1
           try clear hfz36_2
           try clear hfz44_0
           try clear hfz44_1
           try clear hfz44_2
           try clear hfz49_0
           try clear hfz49_1
           try clear hfz49_2
           try clear hfz9_0
           try clear hfz9_1
           try clear hfz9_2
           try clear p2
           try clear p6
           obtain ⟨x10_4,x11_4,rfl,rfl,HA,HK4,HO_601000,BK592,BK593,BK594,BK600,HB⟩:=hrel
           cases gk with
           | zero=>exact absurd HA.out (by simp [spec_MachBoth.l2])
           | succ k4 =>
            have H:=HA.out
            clear HA
            simp only [spec_MachBoth.l2] at H
            by_cases c51:x11_4<(l0_0.length:Int)
            ·rw [if_pos c51] at H
             have c51b0:decide (x11_4<(l0_0.length:Int))=true:=decide_eq_true c51
             clear c51
             have H':=Aside0.mk H
             clear H
             have hnb52:=NB592_593.out
             have hnc52:=NB593_592.out
             have hnb53:=NB592_594.out
             have hnc53:=NB594_592.out
             have hnb54:=NB592_600.out
             have hnc54:=NB600_592.out
             have hcz55_0:wr.cell? ⟨gb592,0,none⟩=some (.slice A0_0 l0_0.length c0_0):=(blk_cell BK592.out 0).trans rfl
             have hcz55_1:wr.cell? ⟨gb592,1,none⟩=some (.int .i64 a0_1):=(blk_cell BK592.out 1).trans rfl
             have hcz55_2:wr.cell? ⟨gb592,2,none⟩=some (.int .i64 a0_2):=(blk_cell BK592.out 2).trans rfl
             have hfz55_0:=blk_frozen BK592.out 0
             have hfz55_1:=blk_frozen BK592.out 1
             have hfz55_2:=blk_frozen BK592.out 2
             go_wp2
             go_loopg [10,12] k4 (fun kq v10 v12 w'=>∃ (x10_5:Int) (x12_5:Int),v10=.int .i64 x10_5∧v12=.int .i64 x12_5∧Aside0 (spec_MachBoth.l3 kq (l1_0.length:Int) x8_2 x9_3 x10_5 x11_4 x12_5 l0_0 a0_1 a0_2 l1_0 a1_1 a1_2 x601000_3 x601001_3 x601002_3=some (r1,r2,r3,r4))∧Aside0 (kq≤k4)∧Aside0 (Kd.R (Kd.int .i64) 3 w' w.heap.size (fun _=>True) u601000 x601000_3)∧Aside0 (w'.heap[gb592]?=some (.cells #[(.slice A0_0 l0_0.length c0_0),.int .i64 a0_1,.int .i64 a0_2] 31 (0,0)))∧Aside0 (w'.heap[gb593]?=some (.cells #[(.slice A1_0 l1_0.length c1_0),.int .i64 a1_1,.int .i64 a1_2] 31 (0,0)))∧Aside0 (w'.heap[gb594]?=some (.cells #[(.slice none 0 0),.int .i64 0,.int .i64 0] 31 (0,0)))∧Aside0 (w'.heap[gb600]?=some (.cells #[u601000,.int .i64 x601001_3,.int .i64 x601002_3] 31 (0,0)))∧Aside0 (Below w.heap.size w w'))
             case atStart=>exact ⟨(x10_4),(0),(by first|rfl|(simp;done)|(simp [*];done)|(simp [Int.tmod_eq_emod_of_nonneg];done)),(by first|rfl|(simp;done)|(simp [*];done)|(simp [Int.tmod_eq_emod_of_nonneg];done)),H',⟨Nat.le_refl _⟩,⟨by (with_reducible repeat (first|apply yH|apply yI|apply yJ));exact HO_601000.out⟩,⟨by (with_reducible repeat (first|refine yE ?_ _|refine yF ?_|refine yG ?_ _));exact BK592.out⟩,⟨by (with_reducible repeat (first|refine yE ?_ _|refine yF ?_|refine yG ?_ _));exact BK593.out⟩,⟨by (with_reducible repeat (first|refine yE ?_ _|refine yF ?_|refine yG ?_ _));exact BK594.out⟩,⟨by (with_reducible repeat (first|refine yE ?_ _|refine yF ?_|refine yG ?_ _));exact BK600.out⟩,⟨by repeat (first|(with_reducible first|exact HB.out|apply yA|apply yB|apply yC|refine yD ?_ GE592.out|refine yD ?_ GE593.out|refine yD ?_ GE594.out|refine yD ?_ GE600.out)|exact HB.out)⟩⟩
             case round =>
              clear H'
              try clear c1
              try clear c2
              try clear p2
              try clear c3
              try clear c4
              try clear c5
              try clear p6
              try clear c7
              try clear c8
              try clear c11
              try clear c13
              try clear c14
              try clear c15
              try clear c18
              try clear c22
              try clear c23
              try clear c26
              try clear c29
              try clear c30
              try clear c33
              try clear c34
              try clear c35
              try clear c38
              try clear c41
              try clear c42
              try clear c43
              try clear c45
              try clear c45b0
              try clear c46
              try clear c47
              try clear c48
              try clear c50
              try clear c50b0
              try clear c51
              try clear c51b0
              try clear c52
              try clear c53
              try clear c54
              try clear hcz16_0
              try clear hcz16_1
              try clear hcz16_2
              try clear hcz19_0
              try clear hcz19_1
              try clear hcz19_2
              try clear hcz21_0
              try clear hcz21_1
              try clear hcz21_2
              try clear hcz24_0
              try clear hcz24_1
              try clear hcz24_2
              try clear hcz27_0
              try clear hcz27_1
              try clear hcz27_2
              try clear hcz31_0
              try clear hcz31_1
              try clear hcz31_2
              try clear hcz36_0
              try clear hcz36_1
              try clear hcz36_2
              try clear hcz44_0
              try clear hcz44_1
              try clear hcz44_2
              try clear hcz49_0
              try clear hcz49_1
              try clear hcz49_2
              try clear hcz55_0
              try clear hcz55_1
              try clear hcz55_2
              try clear hcz9_0
              try clear hcz9_1
              try clear hcz9_2
              try clear hfz16_0
              try clear hfz16_1
              try clear hfz16_2
              try clear hfz19_0
              try clear hfz19_1
              try clear hfz19_2
              try clear hfz21_0
              try clear hfz21_1
              try clear hfz21_2
              try clear hfz24_0
              try clear hfz24_1
              try clear hfz24_2
              try clear hfz27_0
              try clear hfz27_1
              try clear hfz27_2
              try clear hfz31_0
              try clear hfz31_1
              try clear hfz31_2
              try clear hfz36_0
              try clear hfz36_1
              try clear hfz36_2
              try clear hfz44_0
              try clear hfz44_1
              try clear hfz44_2
              try clear hfz49_0
              try clear hfz49_1
              try clear hfz49_2
              try clear hfz55_0
              try clear hfz55_1
              try clear hfz55_2
              try clear hfz9_0
              try clear hfz9_1
              try clear hfz9_2
              try clear p2
              try clear p6
              obtain ⟨x10_5,x12_5,rfl,rfl,HA,HK5,HO_601000,BK592,BK593,BK594,BK600,HB⟩:=hrel
              cases gk with
              | zero=>exact absurd HA.out (by simp [spec_MachBoth.l3])
              | succ k5 =>
               have H:=HA.out
               clear HA
               simp only [spec_MachBoth.l3] at H
               by_cases c56:x12_5<(l1_0.length:Int)
               ·rw [if_pos c56] at H
                have c56b0:decide (x12_5<(l1_0.length:Int))=true:=decide_eq_true c56
                clear c56
                by_cases c57:0≤x8_2
                ·rw [if_pos c57] at H
                 have c57b0:decide (0≤x8_2)=true:=decide_eq_true c57
                 clear c57
                 by_cases c58:x8_2<(l0_0.length:Int)
                 ·rw [if_pos c58] at H
                  have c58b0:decide (x8_2<(l0_0.length:Int))=true:=decide_eq_true c58
                  clear c58
                  by_cases c59:0≤x11_4
                  ·rw [if_pos c59] at H
                   have c59b0:=eq_true c59
                   have c59b1:decide (0≤x11_4)=true:=decide_eq_true c59
                   clear c59
                   obtain ⟨ji60,hji60⟩:∃ j_:Int,(shr .i64 (rd l0_0 x8_2) x11_4)=j_:=⟨_,rfl⟩
                   replace H:(if 0≤x9_3 then (if x9_3<(l1_0.length:Int) then (if 0≤x12_5 then (if 0≤(wrap64 ((wrap64 ((l1_0.length:Int) * x11_4))+x12_5)) then (spec_MachBoth.l3 k5 (l1_0.length:Int) x8_2 x9_3 (Go.bits .or .i64 x10_5 (shl .i64 (Go.bits .and .i64 (Go.bits .and .i64 (ji60) 1) (Go.bits .and .i64 (shr .i64 (rd l1_0 x9_3) x12_5) 1)) (wrap64 ((wrap64 ((l1_0.length:Int) * x11_4))+x12_5)))) x11_4 (wrap64 (x12_5+1)) l0_0 a0_1 a0_2 l1_0 a1_1 a1_2 x601000_3 x601001_3 x601002_3) else (none)) else (none)) else (none)) else (none))=some (r1,r2,r3,r4):=by first|(rw [hji60] at H;exact H)|(simp only [hji60] at H ⊢;exact H)
                   have hji60_:((rd l0_0 x8_2) / 2 ^ min x11_4.toNat 64)=ji60:=hji60
                   have hji60z:x11_4≤64→((rd l0_0 x8_2) / 2 ^ x11_4.toNat)=ji60:=shr_small hji60
                   by_cases c61:0≤x9_3
                   ·rw [if_pos c61] at H
                    have c61b0:decide (0≤x9_3)=true:=decide_eq_true c61
                    clear c61
                    by_cases c62:x9_3<(l1_0.length:Int)
                    ·rw [if_pos c62] at H
                     have c62b0:decide (x9_3<(l1_0.length:Int))=true:=decide_eq_true c62
                     clear c62
                     by_cases c63:0≤x12_5
                     ·rw [if_pos c63] at H
                      have c63b0:=eq_true c63
                      have c63b1:decide (0≤x12_5)=true:=decide_eq_true c63
                      clear c63
                      obtain ⟨ji64,hji64⟩:∃ j_:Int,(shr .i64 (rd l1_0 x9_3) x12_5)=j_:=⟨_,rfl⟩
                      replace H:(if 0≤(wrap64 ((wrap64 ((l1_0.length:Int) * x11_4))+x12_5)) then (spec_MachBoth.l3 k5 (l1_0.length:Int) x8_2 x9_3 (Go.bits .or .i64 x10_5 (shl .i64 (Go.bits .and .i64 (Go.bits .and .i64 (ji60) 1) (Go.bits .and .i64 (ji64) 1)) (wrap64 ((wrap64 ((l1_0.length:Int) * x11_4))+x12_5)))) x11_4 (wrap64 (x12_5+1)) l0_0 a0_1 a0_2 l1_0 a1_1 a1_2 x601000_3 x601001_3 x601002_3) else (none))=some (r1,r2,r3,r4):=by first|(rw [hji64] at H;exact H)|(simp only [hji64] at H ⊢;exact H)
                      have hji64_:((rd l1_0 x9_3) / 2 ^ min x12_5.toNat 64)=ji64:=hji64
                      have hji64z:x12_5≤64→((rd l1_0 x9_3) / 2 ^ x12_5.toNat)=ji64:=shr_small hji64
                      obtain ⟨ji65,hji65⟩:∃ j_:Int,(wrap64 ((wrap64 ((l1_0.length:Int) * x11_4))+x12_5))=j_:=⟨_,rfl⟩
                      replace H:(if 0≤(ji65) then (spec_MachBoth.l3 k5 (l1_0.length:Int) x8_2 x9_3 (Go.bits .or .i64 x10_5 (shl .i64 (Go.bits .and .i64 (Go.bits .and .i64 (ji60) 1) (Go.bits .and .i64 (ji64) 1)) (ji65))) x11_4 (wrap64 (x12_5+1)) l0_0 a0_1 a0_2 l1_0 a1_1 a1_2 x601000_3 x601001_3 x601002_3) else (none))=some (r1,r2,r3,r4):=by first|(rw [hji65] at H;exact H)|(simp only [hji65] at H ⊢;exact H)
                      have hji65w:(IntKind.i64.wrap ((wrap64 ((l1_0.length:Int) * x11_4))+x12_5))=ji65:=(i64_w _).trans hji65
                      by_cases c66:0≤(ji65)
                      ·rw [if_pos c66] at H
                       have c66b0:=eq_true c66
                       have c66b1:decide (0≤(ji65))=true:=decide_eq_true c66
                       clear c66
                       obtain ⟨ji67,hji67⟩:∃ j_:Int,(shl .i64 (Go.bits .and .i64 (Go.bits .and .i64 (ji60) 1) (Go.bits .and .i64 (ji64) 1)) (ji65))=j_:=⟨_,rfl⟩
                       replace H:(spec_MachBoth.l3 k5 (l1_0.length:Int) x8_2 x9_3 (Go.bits .or .i64 x10_5 (ji67)) x11_4 (wrap64 (x12_5+1)) l0_0 a0_1 a0_2 l1_0 a1_1 a1_2 x601000_3 x601001_3 x601002_3)=some (r1,r2,r3,r4):=by first|(rw [hji67] at H;exact H)|(simp only [hji67] at H ⊢;exact H)
                       have hji67_:(IntKind.i64.wrap ((Go.bits .and .i64 (Go.bits .and .i64 (ji60) 1) (Go.bits .and .i64 (ji64) 1)) * 2 ^ min (ji65).toNat 64))=ji67:=hji67
                       have hji67z:(ji65)≤64→(IntKind.i64.wrap ((Go.bits .and .i64 (Go.bits .and .i64 (ji60) 1) (Go.bits .and .i64 (ji64) 1)) * 2 ^ (ji65).toNat))=ji67:=shl_small hji67
                       have hji67y:(wrap64 ((Go.bits .and .i64 (Go.bits .and .i64 (ji60) 1) (Go.bits .and .i64 (ji64) 1)) * 2 ^ min (ji65).toNat 64))=ji67:=(i64_w _).symm.trans hji67_
                       have hji67x:(ji65)≤64→(wrap64 ((Go.bits .and .i64 (Go.bits .and .i64 (ji60) 1) (Go.bits .and .i64 (ji64) 1)) * 2 ^ (ji65).toNat))=ji67:=fun h_=>(i64_w _).symm.trans (hji67z h_)
                       have H':=Aside0.mk H
                       clear H
                       try go_wp2
                       have n0_:=Aside0.mk (yJ HO_601000.out)
                       have n1_:=Aside0.mk (yF BK592.out)
                       have n2_:=Aside0.mk (yF BK593.out)
                       have n3_:=Aside0.mk (yF BK594.out)
                       have n4_:=Aside0.mk (yF BK600.out)
                       have n5_:=Aside0.mk (yC HB.out)
                       clear HO_601000
                       clear BK592
                       clear BK593
                       clear BK594
                       clear BK600
                       clear HB
                       have HO_601000:=n0_
                       have BK592:=n1_
                       have BK593:=n2_
                       have BK594:=n3_
                       have BK600:=n4_
                       have HB:=n5_
                       clear n0_ n1_ n2_ n3_ n4_ n5_
                       have p604:0≤(x8_2:Int):=of_decide_eq_true (by first|(with_reducible assumption)|assumption)
                       have q604:x8_2<(l0_0.length:Int):=of_decide_eq_true (by first|(with_reducible assumption)|assumption)
                       obtain ⟨ad604,e604,hx604_0⟩:=Kd.at_int HR0_0.out x8_2 p604 q604
                       have hw604_0:=hx604_0
                       cases e604
                       replace hx604_0:=(HB.out.cell (World.block_lt_of_cell? w _ hx604_0)).trans hx604_0
                       replace p604:=eq_true p604
                       replace q604:=eq_true q604
                       have p605:0≤(x9_3:Int):=of_decide_eq_true (by first|(with_reducible assumption)|assumption)
                       have q605:x9_3<(l1_0.length:Int):=of_decide_eq_true (by first|(with_reducible assumption)|assumption)
                       obtain ⟨ad605,e605,hx605_0⟩:=Kd.at_int HR1_0.out x9_3 p605 q605
                       have hw605_0:=hx605_0
                       cases e605
                       replace hx605_0:=(HB.out.cell (World.block_lt_of_cell? w _ hx605_0)).trans hx605_0
                       replace p605:=eq_true p605
                       replace q605:=eq_true q605
                       refine start_ (n:=26) (S:=fun w'=>w'.cell? ⟨gb592,0,none⟩=some (.slice (some ad604) l0_0.length c0_0)∧w'.cell? ⟨gb592,1,none⟩=some (.int .i64 a0_1)∧w'.cell? ⟨gb592,2,none⟩=some (.int .i64 a0_2)∧w'.cell? ⟨gb593,0,none⟩=some (.slice (some ad605) l1_0.length c1_0)∧w'.cell? ⟨gb593,1,none⟩=some (.int .i64 a1_1)∧w'.cell? ⟨gb593,2,none⟩=some (.int .i64 a1_2)∧w'.cell? (ad604.add (x8_2).toNat)=some (.int .i64 (rd l0_0 x8_2))∧w'.cell? (ad605.add (x9_3).toNat)=some (.int .i64 (rd l1_0 x9_3))) (ds:=[]) #[false,false,false,false,false,false,false,false,false,false,false,false,false,false,false,false,false,false,false,false,false,false,false,false,false,false] (by kernel_rfl) rfl rfl ⟨(blk_cell BK592.out 0).trans rfl,(blk_cell BK592.out 1).trans rfl,(blk_cell BK592.out 2).trans rfl,(blk_cell BK593.out 0).trans rfl,(blk_cell BK593.out 1).trans rfl,(blk_cell BK593.out 2).trans rfl,((HB.out.cell (World.block_lt_of_cell? w _ hw604_0)).trans hw604_0),((HB.out.cell (World.block_lt_of_cell? w _ hw605_0)).trans hw605_0)⟩ (fun hHeld=>?_);refine with_tabW spec_MachBoth.tab18 spec_MachBoth.bits18 (fun HT_ HW_=>?_)
                       generalize wr.drew=w68 at HO_601000 BK592 BK593 BK594 BK600 HB hx604_0 hx605_0 hHeld ⊢
                       refine pure_ (i:=0) (N:=some 59) (v:=?_) (a':=?_) #[true,false,false,false,false,false,false,false,false,false,false,false,false,false,false,false,false,false,false,false,false,false,false,false,false,false] rfl rfl (any_of HT_.out (by kernel_rfl)) (fun _ _ _ h=>h) (Or.inl ⟨by rfl,?_⟩) ?_ ?_
                       rotate_left
                       ·intro w'
                        go_simp
                        with_reducible rfl
                       rotate_left
                       ·simp only [Act.put,yK,yL,yM,i64_w,i32_w]
                        rfl
                       refine pure_ (i:=1) (N:=some 60) (v:=?_) (a':=?_) #[true,true,false,false,false,false,false,false,false,false,false,false,false,false,false,false,false,false,false,false,false,false,false,false,false,false] rfl rfl (any_of HT_.out (by kernel_rfl)) (fun _ _ _ h=>h) (Or.inl ⟨by rfl,?_⟩) ?_ ?_
                       rotate_left
                       ·intro w'
                        go_simp
                        with_reducible rfl
                       rotate_left
                       ·simp only [Act.put,yK,yL,yM,i64_w,i32_w]
                        rfl
                       refine pure_ (i:=3) (N:=some 62) (v:=?_) (a':=?_) #[true,true,false,true,false,false,false,false,false,false,false,false,false,false,false,false,false,false,false,false,false,false,false,false,false,false] rfl rfl (any_of HT_.out (by kernel_rfl)) (fun _ _ _ h=>h) (Or.inl ⟨by rfl,?_⟩) ?_ ?_
                       rotate_left
                       ·intro w'
                        go_simp
                        with_reducible rfl
                       rotate_left
                       ·simp only [Act.put,yK,yL,yM,i64_w,i32_w]
                        rfl
                       refine pure_ (i:=6) (N:=some 65) (v:=?_) (a':=?_) #[true,true,false,true,false,false,true,false,false,false,false,false,false,false,false,false,false,false,false,false,false,false,false,false,false,false] rfl rfl (any_of HT_.out (by kernel_rfl)) (fun _ _ _ h=>h) (Or.inl ⟨by rfl,?_⟩) ?_ ?_
                       rotate_left
                       ·intro w'
                        go_simp
                        with_reducible rfl
                       rotate_left
                       ·simp only [Act.put,yK,yL,yM,i64_w,i32_w]
                        rfl
                       refine pure_ (i:=9) (N:=some 68) (v:=?_) (a':=?_) #[true,true,false,true,false,false,true,false,false,true,false,false,false,false,false,false,false,false,false,false,false,false,false,false,false,false] rfl rfl (any_of HT_.out (by kernel_rfl)) (fun _ _ _ h=>h) (Or.inl ⟨by rfl,?_⟩) ?_ ?_
                       rotate_left
                       ·intro w'
                        go_simp
                        with_reducible rfl
                       rotate_left
                       ·simp only [Act.put,yK,yL,yM,i64_w,i32_w]
                        rfl
                       refine pure_ (i:=11) (N:=some 70) (v:=?_) (a':=?_) #[true,true,false,true,false,false,true,false,false,true,false,true,false,false,false,false,false,false,false,false,false,false,false,false,false,false] rfl rfl (any_of HT_.out (by kernel_rfl)) (fun _ _ _ h=>h) (Or.inl ⟨by rfl,?_⟩) ?_ ?_
                       rotate_left
                       ·intro w'
                        go_simp
                        with_reducible rfl
                       rotate_left
                       ·simp only [Act.put,yK,yL,yM,i64_w,i32_w]
                        rfl
                       refine pure_ (i:=14) (N:=some 73) (v:=?_) (a':=?_) #[true,true,false,true,false,false,true,false,false,true,false,true,false,false,true,false,false,false,false,false,false,false,false,false,false,false] rfl rfl (any_of HT_.out (by kernel_rfl)) (fun _ _ _ h=>h) (Or.inl ⟨by rfl,?_⟩) ?_ ?_
                       rotate_left
                       ·intro w'
                        go_simp
                        with_reducible rfl
                       rotate_left
                       ·simp only [Act.put,yK,yL,yM,i64_w,i32_w]
                        rfl
                       refine pure_ (i:=18) (N:=some 77) (v:=?_) (a':=?_) #[true,true,false,true,false,false,true,false,false,true,false,true,false,false,true,false,false,false,true,false,false,false,false,false,false,false] rfl rfl (any_of HT_.out (by kernel_rfl)) (fun _ _ _ h=>h) (Or.inl ⟨by rfl,?_⟩) ?_ ?_
                       rotate_left
                       ·intro w'
                        go_simp
                        with_reducible rfl
                       rotate_left
                       ·simp only [Act.put,yK,yL,yM,i64_w,i32_w]
                        rfl
                       refine pure_ (i:=19) (N:=some 78) (v:=?_) (a':=?_) #[true,true,false,true,false,false,true,false,false,true,false,true,false,false,true,false,false,false,true,true,false,false,false,false,false,false] rfl rfl (any_of HT_.out (by kernel_rfl)) (fun _ _ _ h=>h) (Or.inl ⟨by rfl,?_⟩) ?_ ?_
                       rotate_left
                       ·intro w'
                        go_simp
                        with_reducible rfl
                       rotate_left
                       ·simp only [Act.put,yK,yL,yM,i64_w,i32_w]
                        rfl
                       refine pure_ (i:=20) (N:=some 79) (v:=?_) (a':=?_) #[true,true,false,true,false,false,true,false,false,true,false,true,false,false,true,false,false,false,true,true,true,false,false,false,false,false] rfl rfl (any_of HT_.out (by kernel_rfl)) (fun _ _ _ h=>h) (Or.inl ⟨by rfl,?_⟩) ?_ ?_
                       rotate_left
                       ·intro w'
                        go_simp
                        with_reducible rfl
                       rotate_left
                       ·simp only [Act.put,yK,yL,yM,i64_w,i32_w]
                        rfl
                       refine pure_ (i:=21) (N:=some 80) (v:=?_) (a':=?_) #[true,true,false,true,false,false,true,false,false,true,false,true,false,false,true,false,false,false,true,true,true,true,false,false,false,false] rfl rfl (any_of HT_.out (by kernel_rfl)) (fun _ _ _ h=>h) (Or.inl ⟨by rfl,?_⟩) ?_ ?_
                       rotate_left
                       ·intro w'
                        go_simp
                        with_reducible rfl
                       rotate_left
                       ·simp only [Act.put,yK,yL,yM,i64_w,i32_w]
                        rfl
                       refine pure_ (i:=22) (N:=some 81) (v:=?_) (a':=?_) #[true,true,false,true,false,false,true,false,false,true,false,true,false,false,true,false,false,false,true,true,true,true,true,false,false,false] rfl rfl (any_of HT_.out (by kernel_rfl)) (fun _ _ _ h=>h) (Or.inl ⟨by rfl,?_⟩) ?_ ?_
                       rotate_left
                       ·intro w'
                        go_simp
                        with_reducible rfl
                       rotate_left
                       ·simp only [Act.put,yK,yL,yM,i64_w,i32_w]
                        rfl
                       refine take_ (i:=2) (N:=some 61) (v:=?_) (a':=?_) #[true,true,true,true,false,false,true,false,false,true,false,true,false,false,true,false,false,false,true,true,true,true,true,false,false,false] rfl rfl (take_ofW HT_.out HW_.out (by kernel_rfl)) (fun _ _ _ h=>h) (Or.inl ⟨by rfl,?_⟩) hHeld ?_ ?_
                       rotate_left
                       ·rintro w' ⟨s0,s1,s2,s3,s4,s5,s6,s7⟩
                        go_simp
                        with_reducible rfl
                       rotate_left
                       ·simp only [Act.put,yK,yL,yM,i64_w,i32_w]
                        rfl
                       refine pure_ (i:=4) (N:=some 63) (v:=?_) (a':=?_) #[true,true,true,true,true,false,true,false,false,true,false,true,false,false,true,false,false,false,true,true,true,true,true,false,false,false] rfl rfl (any_of HT_.out (by kernel_rfl)) (fun _ _ _ h=>h) (Or.inl ⟨by rfl,?_⟩) ?_ ?_
                       rotate_left
                       ·intro w'
                        go_simp
                        with_reducible rfl
                       rotate_left
                       ·simp only [Act.put,yK,yL,yM,i64_w,i32_w]
                        rfl
                       refine take_ (i:=5) (N:=some 64) (v:=?_) (a':=?_) #[true,true,true,true,true,true,true,false,false,true,false,true,false,false,true,false,false,false,true,true,true,true,true,false,false,false] rfl rfl (take_ofW HT_.out HW_.out (by kernel_rfl)) (fun _ _ _ h=>h) (Or.inl ⟨by rfl,?_⟩) hHeld ?_ ?_
                       rotate_left
                       ·rintro w' ⟨s0,s1,s2,s3,s4,s5,s6,s7⟩
                        go_simp
                        with_reducible rfl
                       rotate_left
                       ·simp only [Act.put,yK,yL,yM,i64_w,i32_w]
                        rfl
                       refine pure_ (i:=7) (N:=some 66) (v:=?_) (a':=?_) #[true,true,true,true,true,true,true,true,false,true,false,true,false,false,true,false,false,false,true,true,true,true,true,false,false,false] rfl rfl (any_of HT_.out (by kernel_rfl)) (fun _ _ _ h=>h) (Or.inl ⟨by rfl,?_⟩) ?_ ?_
                       rotate_left
                       ·intro w'
                        go_simp
                        with_reducible rfl
                       rotate_left
                       ·simp only [Act.put,yK,yL,yM,i64_w,i32_w]
                        rfl
                       refine pure_ (i:=8) (N:=some 67) (v:=?_) (a':=?_) #[true,true,true,true,true,true,true,true,true,true,false,true,false,false,true,false,false,false,true,true,true,true,true,false,false,false] rfl rfl (any_of HT_.out (by kernel_rfl)) (fun _ _ _ h=>h) (Or.inl ⟨by rfl,?_⟩) ?_ ?_
                       rotate_left
                       ·intro w'
                        go_simp
                        with_reducible rfl
                       rotate_left
                       ·simp only [Act.put,yK,yL,yM,i64_w,i32_w]
                        rfl
                       refine take_ (i:=10) (N:=some 69) (v:=?_) (a':=?_) #[true,true,true,true,true,true,true,true,true,true,true,true,false,false,true,false,false,false,true,true,true,true,true,false,false,false] rfl rfl (take_ofW HT_.out HW_.out (by kernel_rfl)) (fun _ _ _ h=>h) (Or.inl ⟨by rfl,?_⟩) hHeld ?_ ?_
                       rotate_left
                       ·rintro w' ⟨s0,s1,s2,s3,s4,s5,s6,s7⟩
                        go_simp
                        with_reducible rfl
                       rotate_left
                       ·simp only [Act.put,yK,yL,yM,i64_w,i32_w]
                        rfl
                       refine pure_ (i:=12) (N:=some 71) (v:=?_) (a':=?_) #[true,true,true,true,true,true,true,true,true,true,true,true,true,false,true,false,false,false,true,true,true,true,true,false,false,false] rfl rfl (any_of HT_.out (by kernel_rfl)) (fun _ _ _ h=>h) (Or.inl ⟨by rfl,?_⟩) ?_ ?_
                       rotate_left
                       ·intro w'
                        go_simp
                        with_reducible rfl
                       rotate_left
                       ·simp only [Act.put,yK,yL,yM,i64_w,i32_w]
                        rfl
                       refine take_ (i:=13) (N:=some 72) (v:=?_) (a':=?_) #[true,true,true,true,true,true,true,true,true,true,true,true,true,true,true,false,false,false,true,true,true,true,true,false,false,false] rfl rfl (take_ofW HT_.out HW_.out (by kernel_rfl)) (fun _ _ _ h=>h) (Or.inl ⟨by rfl,?_⟩) hHeld ?_ ?_
                       rotate_left
                       ·rintro w' ⟨s0,s1,s2,s3,s4,s5,s6,s7⟩
                        go_simp
                        with_reducible rfl
                       rotate_left
                       ·simp only [Act.put,yK,yL,yM,i64_w,i32_w]
                        rfl
                       refine pure_ (i:=15) (N:=some 74) (v:=?_) (a':=?_) #[true,true,true,true,true,true,true,true,true,true,true,true,true,true,true,true,false,false,true,true,true,true,true,false,false,false] rfl rfl (any_of HT_.out (by kernel_rfl)) (fun _ _ _ h=>h) (Or.inl ⟨by rfl,?_⟩) ?_ ?_
                       rotate_left
                       ·intro w'
                        go_simp
                        with_reducible rfl
                       rotate_left
                       ·simp only [Act.put,yK,yL,yM,i64_w,i32_w]
                        rfl
                       refine pure_ (i:=16) (N:=some 75) (v:=?_) (a':=?_) #[true,true,true,true,true,true,true,true,true,true,true,true,true,true,true,true,true,false,true,true,true,true,true,false,false,false] rfl rfl (any_of HT_.out (by kernel_rfl)) (fun _ _ _ h=>h) (Or.inl ⟨by rfl,?_⟩) ?_ ?_
                       rotate_left
                       ·intro w'
                        go_simp
                        with_reducible rfl
                       rotate_left
                       ·simp only [Act.put,yK,yL,yM,i64_w,i32_w]
                        rfl
                       refine pure_ (i:=17) (N:=some 76) (v:=?_) (a':=?_) #[true,true,true,true,true,true,true,true,true,true,true,true,true,true,true,true,true,true,true,true,true,true,true,false,false,false] rfl rfl (any_of HT_.out (by kernel_rfl)) (fun _ _ _ h=>h) (Or.inl ⟨by rfl,?_⟩) ?_ ?_
                       rotate_left
                       ·intro w'
                        go_simp
                        with_reducible rfl
                       rotate_left
                       ·simp only [Act.put,yK,yL,yM,i64_w,i32_w]
                        rfl
                       refine pure_ (i:=23) (N:=some 82) (v:=?_) (a':=?_) #[true,true,true,true,true,true,true,true,true,true,true,true,true,true,true,true,true,true,true,true,true,true,true,true,false,false] rfl rfl (any_of HT_.out (by kernel_rfl)) (fun _ _ _ h=>h) (Or.inl ⟨by rfl,?_⟩) ?_ ?_
                       rotate_left
                       ·intro w'
                        go_simp
                        with_reducible rfl
                       rotate_left
                       ·simp only [Act.put,yK,yL,yM,i64_w,i32_w]
                        rfl
                       refine pure_ (i:=24) (N:=some 83) (v:=?_) (a':=?_) #[true,true,true,true,true,true,true,true,true,true,true,true,true,true,true,true,true,true,true,true,true,true,true,true,true,false] rfl rfl (any_of HT_.out (by kernel_rfl)) (fun _ _ _ h=>h) (Or.inl ⟨by rfl,?_⟩) ?_ ?_
                       rotate_left
                       ·intro w'
                        go_simp
                        with_reducible rfl
                       rotate_left
                       ·simp only [Act.put,yK,yL,yM,i64_w,i32_w]
                        rfl
                       refine pure_ (i:=25) (N:=some 10) (v:=?_) (a':=?_) #[true,true,true,true,true,true,true,true,true,true,true,true,true,true,true,true,true,true,true,true,true,true,true,true,true,true] rfl rfl (any_of HT_.out (by kernel_rfl)) (fun _ _ _ h=>h) (Or.inl ⟨by rfl,?_⟩) ?_ ?_
                       rotate_left
                       ·intro w'
                        go_simp
                        with_reducible rfl
                       rotate_left
                       ·simp only [Act.put,yK,yL,yM,i64_w,i32_w]
                        rfl
                       refine done_ (done_of HT_.out (by kernel_rfl)) ?_
                       try go_wp2
                       go_roundg k5
                       case measure=>have:=HJ2.out;have:=HK2.out;have:=HK3.out;have:=HK4.out;have:=HK5.out;omega
                       case rel=>exact ⟨(Go.bits .or .i64 x10_5 (ji67)),(wrap64 (x12_5+1)),(by first|rfl|(simp;done)|(simp only [← hji67]<;>(first|rfl|simp))|(simp [*];done)),(by first|rfl|(simp;done)|(simp [*];done)|(simp [Int.tmod_eq_emod_of_nonneg];done)),H',⟨by have:=HJ2.out;have:=HK2.out;have:=HK3.out;have:=HK4.out;have:=HK5.out;omega⟩,⟨by (with_reducible repeat (first|apply yH|apply yI|apply yJ));exact HO_601000.out⟩,⟨by (with_reducible repeat (first|refine yE ?_ _|refine yF ?_|refine yG ?_ _));exact BK592.out⟩,⟨by (with_reducible repeat (first|refine yE ?_ _|refine yF ?_|refine yG ?_ _));exact BK593.out⟩,⟨by (with_reducible repeat (first|refine yE ?_ _|refine yF ?_|refine yG ?_ _));exact BK594.out⟩,⟨by (with_reducible repeat (first|refine yE ?_ _|refine yF ?_|refine yG ?_ _));exact BK600.out⟩,⟨by repeat (first|(with_reducible first|exact HB.out|apply yA|apply yB|apply yC|refine yD ?_ GE592.out|refine yD ?_ GE593.out|refine yD ?_ GE594.out|refine yD ?_ GE600.out)|exact HB.out)⟩⟩
                      ·rw [if_neg c66] at H
                       exact absurd H (by simp)
                     ·rw [if_neg c63] at H
                      exact absurd H (by simp)
                    ·rw [if_neg c62] at H
                     exact absurd H (by simp)
                   ·rw [if_neg c61] at H
                    exact absurd H (by simp)
                  ·rw [if_neg c59] at H
                   exact absurd H (by simp)
                 ·rw [if_neg c58] at H
                  exact absurd H (by simp)
                ·rw [if_neg c57] at H
                 exact absurd H (by simp)
               ·rw [if_neg c56] at H
                have c56b0:decide (x12_5<(l1_0.length:Int))=false:=decide_eq_false c56
                clear c56
                have H':=Aside0.mk H
                clear H
                go_wp2
                go_roundg k5
                case measure=>have:=HJ2.out;have:=HK2.out;have:=HK3.out;have:=HK4.out;have:=HK5.out;omega
                case rel=>exact ⟨(x10_5),(wrap64 (x11_4+1)),(by first|rfl|(simp;done)|(simp [*];done)|(simp [Int.tmod_eq_emod_of_nonneg];done)),(by first|rfl|(simp;done)|(simp [*];done)|(simp [Int.tmod_eq_emod_of_nonneg];done)),H',⟨by have:=HJ2.out;have:=HK2.out;have:=HK3.out;have:=HK4.out;have:=HK5.out;omega⟩,⟨by (with_reducible repeat (first|apply yH|apply yI|apply yJ));exact HO_601000.out⟩,⟨by (with_reducible repeat (first|refine yE ?_ _|refine yF ?_|refine yG ?_ _));exact BK592.out⟩,⟨by (with_reducible repeat (first|refine yE ?_ _|refine yF ?_|refine yG ?_ _));exact BK593.out⟩,⟨by (with_reducible repeat (first|refine yE ?_ _|refine yF ?_|refine yG ?_ _));exact BK594.out⟩,⟨by (with_reducible repeat (first|refine yE ?_ _|refine yF ?_|refine yG ?_ _));exact BK600.out⟩,⟨by repeat (first|(with_reducible first|exact HB.out|apply yA|apply yB|apply yC|refine yD ?_ GE592.out|refine yD ?_ GE593.out|refine yD ?_ GE594.out|refine yD ?_ GE600.out)|exact HB.out)⟩⟩
            ·rw [if_neg c51] at H
             have c51b0:decide (x11_4<(l0_0.length:Int))=false:=decide_eq_false c51
             clear c51
             by_cases c69:x601000_3.length<17592186044416
             ·rw [if_pos c69] at H
              have LMc69:=Aside0.mk c69
              clear c69
              obtain ⟨y601,hy601⟩:∃ y_:List Int,y_=(x601000_3++[x10_4]):=⟨_,rfl⟩
              replace H:(if 0≤x8_2 then (if 0≤x9_3 then (if 0≤(wrap64 ((wrap64 ((l1_0.length:Int) * x8_2))+x9_3)) then (spec_MachBoth.l1 k4 (l1_0.length:Int) x8_2 (wrap64 (x9_3+1)) l0_0 a0_1 a0_2 l1_0 a1_1 a1_2 y601 (Go.bits .or .i64 x601001_3 (shl .i64 (Go.bits .and .i64 (Go.bits .and .i64 (shr .i64 a0_1 x8_2) 1) (Go.bits .and .i64 (shr .i64 a1_1 x9_3) 1)) (wrap64 ((wrap64 ((l1_0.length:Int) * x8_2))+x9_3)))) (Go.bits .or .i64 x601002_3 (shl .i64 (Go.bits .and .i64 (Go.bits .and .i64 (shr .i64 a0_2 x8_2) 1) (Go.bits .and .i64 (shr .i64 a1_2 x9_3) 1)) (wrap64 ((wrap64 ((l1_0.length:Int) * x8_2))+x9_3))))) else (none)) else (none)) else (none))=some (r1,r2,r3,r4):=by first|(rw [hy601];with_reducible exact H)|(have H2_:=(Option.bind_some _ _).symm.trans H;rw [hy601];with_reducible exact H2_)|(have H2_:=(Option.bind_some _ _).symm.trans H;with_reducible exact H2_)|with_reducible exact H|(rw [hy601];exact H)|exact H
              have Ny601:=Aside0.mk hy601
              clear hy601
              by_cases c70:0≤x8_2
              ·rw [if_pos c70] at H
               have c70b0:=eq_true c70
               have c70b1:decide (0≤x8_2)=true:=decide_eq_true c70
               clear c70
               obtain ⟨ji71,hji71⟩:∃ j_:Int,(shr .i64 a0_1 x8_2)=j_:=⟨_,rfl⟩
               replace H:(if 0≤x9_3 then (if 0≤(wrap64 ((wrap64 ((l1_0.length:Int) * x8_2))+x9_3)) then (spec_MachBoth.l1 k4 (l1_0.length:Int) x8_2 (wrap64 (x9_3+1)) l0_0 a0_1 a0_2 l1_0 a1_1 a1_2 y601 (Go.bits .or .i64 x601001_3 (shl .i64 (Go.bits .and .i64 (Go.bits .and .i64 (ji71) 1) (Go.bits .and .i64 (shr .i64 a1_1 x9_3) 1)) (wrap64 ((wrap64 ((l1_0.length:Int) * x8_2))+x9_3)))) (Go.bits .or .i64 x601002_3 (shl .i64 (Go.bits .and .i64 (Go.bits .and .i64 (shr .i64 a0_2 x8_2) 1) (Go.bits .and .i64 (shr .i64 a1_2 x9_3) 1)) (wrap64 ((wrap64 ((l1_0.length:Int) * x8_2))+x9_3))))) else (none)) else (none))=some (r1,r2,r3,r4):=by first|(rw [hji71] at H;exact H)|(simp only [hji71] at H ⊢;exact H)
               have hji71_:(a0_1 / 2 ^ min x8_2.toNat 64)=ji71:=hji71
               have hji71z:x8_2≤64→(a0_1 / 2 ^ x8_2.toNat)=ji71:=shr_small hji71
               by_cases c72:0≤x9_3
               ·rw [if_pos c72] at H
                have c72b0:=eq_true c72
                have c72b1:decide (0≤x9_3)=true:=decide_eq_true c72
                clear c72
                obtain ⟨ji73,hji73⟩:∃ j_:Int,(shr .i64 a1_1 x9_3)=j_:=⟨_,rfl⟩
                replace H:(if 0≤(wrap64 ((wrap64 ((l1_0.length:Int) * x8_2))+x9_3)) then (spec_MachBoth.l1 k4 (l1_0.length:Int) x8_2 (wrap64 (x9_3+1)) l0_0 a0_1 a0_2 l1_0 a1_1 a1_2 y601 (Go.bits .or .i64 x601001_3 (shl .i64 (Go.bits .and .i64 (Go.bits .and .i64 (ji71) 1) (Go.bits .and .i64 (ji73) 1)) (wrap64 ((wrap64 ((l1_0.length:Int) * x8_2))+x9_3)))) (Go.bits .or .i64 x601002_3 (shl .i64 (Go.bits .and .i64 (Go.bits .and .i64 (shr .i64 a0_2 x8_2) 1) (Go.bits .and .i64 (shr .i64 a1_2 x9_3) 1)) (wrap64 ((wrap64 ((l1_0.length:Int) * x8_2))+x9_3))))) else (none))=some (r1,r2,r3,r4):=by first|(rw [hji73] at H;exact H)|(simp only [hji73] at H ⊢;exact H)
                have hji73_:(a1_1 / 2 ^ min x9_3.toNat 64)=ji73:=hji73
                have hji73z:x9_3≤64→(a1_1 / 2 ^ x9_3.toNat)=ji73:=shr_small hji73
                obtain ⟨ji74,hji74⟩:∃ j_:Int,(wrap64 ((wrap64 ((l1_0.length:Int) * x8_2))+x9_3))=j_:=⟨_,rfl⟩
                replace H:(if 0≤(ji74) then (spec_MachBoth.l1 k4 (l1_0.length:Int) x8_2 (wrap64 (x9_3+1)) l0_0 a0_1 a0_2 l1_0 a1_1 a1_2 y601 (Go.bits .or .i64 x601001_3 (shl .i64 (Go.bits .and .i64 (Go.bits .and .i64 (ji71) 1) (Go.bits .and .i64 (ji73) 1)) (ji74))) (Go.bits .or .i64 x601002_3 (shl .i64 (Go.bits .and .i64 (Go.bits .and .i64 (shr .i64 a0_2 x8_2) 1) (Go.bits .and .i64 (shr .i64 a1_2 x9_3) 1)) (ji74)))) else (none))=some (r1,r2,r3,r4):=by first|(rw [hji74] at H;exact H)|(simp only [hji74] at H ⊢;exact H)
                have hji74w:(IntKind.i64.wrap ((wrap64 ((l1_0.length:Int) * x8_2))+x9_3))=ji74:=(i64_w _).trans hji74
                by_cases c75:0≤(ji74)
                ·rw [if_pos c75] at H
                 have c75b0:=eq_true c75
                 have c75b1:decide (0≤(ji74))=true:=decide_eq_true c75
                 clear c75
                 obtain ⟨ji76,hji76⟩:∃ j_:Int,(shl .i64 (Go.bits .and .i64 (Go.bits .and .i64 (ji71) 1) (Go.bits .and .i64 (ji73) 1)) (ji74))=j_:=⟨_,rfl⟩
                 replace H:(spec_MachBoth.l1 k4 (l1_0.length:Int) x8_2 (wrap64 (x9_3+1)) l0_0 a0_1 a0_2 l1_0 a1_1 a1_2 y601 (Go.bits .or .i64 x601001_3 (ji76)) (Go.bits .or .i64 x601002_3 (shl .i64 (Go.bits .and .i64 (Go.bits .and .i64 (shr .i64 a0_2 x8_2) 1) (Go.bits .and .i64 (shr .i64 a1_2 x9_3) 1)) (ji74))))=some (r1,r2,r3,r4):=by first|(rw [hji76] at H;exact H)|(simp only [hji76] at H ⊢;exact H)
                 have hji76_:(IntKind.i64.wrap ((Go.bits .and .i64 (Go.bits .and .i64 (ji71) 1) (Go.bits .and .i64 (ji73) 1)) * 2 ^ min (ji74).toNat 64))=ji76:=hji76
                 have hji76z:(ji74)≤64→(IntKind.i64.wrap ((Go.bits .and .i64 (Go.bits .and .i64 (ji71) 1) (Go.bits .and .i64 (ji73) 1)) * 2 ^ (ji74).toNat))=ji76:=shl_small hji76
                 have hji76y:(wrap64 ((Go.bits .and .i64 (Go.bits .and .i64 (ji71) 1) (Go.bits .and .i64 (ji73) 1)) * 2 ^ min (ji74).toNat 64))=ji76:=(i64_w _).symm.trans hji76_
                 have hji76x:(ji74)≤64→(wrap64 ((Go.bits .and .i64 (Go.bits .and .i64 (ji71) 1) (Go.bits .and .i64 (ji73) 1)) * 2 ^ (ji74).toNat))=ji76:=fun h_=>(i64_w _).symm.trans (hji76z h_)
                 have c77b0:=eq_true (of_decide_eq_true (by first|(with_reducible assumption)|assumption):0≤x8_2)
                 obtain ⟨ji78,hji78⟩:∃ j_:Int,(shr .i64 a0_2 x8_2)=j_:=⟨_,rfl⟩
                 replace H:(spec_MachBoth.l1 k4 (l1_0.length:Int) x8_2 (wrap64 (x9_3+1)) l0_0 a0_1 a0_2 l1_0 a1_1 a1_2 y601 (Go.bits .or .i64 x601001_3 (ji76)) (Go.bits .or .i64 x601002_3 (shl .i64 (Go.bits .and .i64 (Go.bits .and .i64 (ji78) 1) (Go.bits .and .i64 (shr .i64 a1_2 x9_3) 1)) (ji74))))=some (r1,r2,r3,r4):=by first|(rw [hji78] at H;exact H)|(simp only [hji78] at H ⊢;exact H)
                 have hji78_:(a0_2 / 2 ^ min x8_2.toNat 64)=ji78:=hji78
                 have hji78z:x8_2≤64→(a0_2 / 2 ^ x8_2.toNat)=ji78:=shr_small hji78
                 have c79b0:=eq_true (of_decide_eq_true (by first|(with_reducible assumption)|assumption):0≤x9_3)
                 obtain ⟨ji80,hji80⟩:∃ j_:Int,(shr .i64 a1_2 x9_3)=j_:=⟨_,rfl⟩
                 replace H:(spec_MachBoth.l1 k4 (l1_0.length:Int) x8_2 (wrap64 (x9_3+1)) l0_0 a0_1 a0_2 l1_0 a1_1 a1_2 y601 (Go.bits .or .i64 x601001_3 (ji76)) (Go.bits .or .i64 x601002_3 (shl .i64 (Go.bits .and .i64 (Go.bits .and .i64 (ji78) 1) (Go.bits .and .i64 (ji80) 1)) (ji74))))=some (r1,r2,r3,r4):=by first|(rw [hji80] at H;exact H)|(simp only [hji80] at H ⊢;exact H)
                 have hji80_:(a1_2 / 2 ^ min x9_3.toNat 64)=ji80:=hji80
                 have hji80z:x9_3≤64→(a1_2 / 2 ^ x9_3.toNat)=ji80:=shr_small hji80
                 have c81b0:=eq_true (of_decide_eq_true (by first|(with_reducible assumption)|assumption):0≤(ji74))
                 obtain ⟨ji82,hji82⟩:∃ j_:Int,(shl .i64 (Go.bits .and .i64 (Go.bits .and .i64 (ji78) 1) (Go.bits .and .i64 (ji80) 1)) (ji74))=j_:=⟨_,rfl⟩
                 replace H:(spec_MachBoth.l1 k4 (l1_0.length:Int) x8_2 (wrap64 (x9_3+1)) l0_0 a0_1 a0_2 l1_0 a1_1 a1_2 y601 (Go.bits .or .i64 x601001_3 (ji76)) (Go.bits .or .i64 x601002_3 (ji82)))=some (r1,r2,r3,r4):=by first|(rw [hji82] at H;exact H)|(simp only [hji82] at H ⊢;exact H)
                 have hji82_:(IntKind.i64.wrap ((Go.bits .and .i64 (Go.bits .and .i64 (ji78) 1) (Go.bits .and .i64 (ji80) 1)) * 2 ^ min (ji74).toNat 64))=ji82:=hji82
                 have hji82z:(ji74)≤64→(IntKind.i64.wrap ((Go.bits .and .i64 (Go.bits .and .i64 (ji78) 1) (Go.bits .and .i64 (ji80) 1)) * 2 ^ (ji74).toNat))=ji82:=shl_small hji82
                 have hji82y:(wrap64 ((Go.bits .and .i64 (Go.bits .and .i64 (ji78) 1) (Go.bits .and .i64 (ji80) 1)) * 2 ^ min (ji74).toNat 64))=ji82:=(i64_w _).symm.trans hji82_
                 have hji82x:(ji74)≤64→(wrap64 ((Go.bits .and .i64 (Go.bits .and .i64 (ji78) 1) (Go.bits .and .i64 (ji80) 1)) * 2 ^ (ji74).toNat))=ji82:=fun h_=>(i64_w _).symm.trans (hji82z h_)
                 have H':=Aside0.mk H
                 clear H
                 have hnb83:=NB592_593.out
                 have hnc83:=NB593_592.out
                 have hnb84:=NB592_594.out
                 have hnc84:=NB594_592.out
                 have hnb85:=NB592_600.out
                 have hnc85:=NB600_592.out
                 have hcz86_0:wr.cell? ⟨gb592,0,none⟩=some (.slice A0_0 l0_0.length c0_0):=(blk_cell BK592.out 0).trans rfl
                 have hcz86_1:wr.cell? ⟨gb592,1,none⟩=some (.int .i64 a0_1):=(blk_cell BK592.out 1).trans rfl
                 have hcz86_2:wr.cell? ⟨gb592,2,none⟩=some (.int .i64 a0_2):=(blk_cell BK592.out 2).trans rfl
                 have hfz86_0:=blk_frozen BK592.out 0
                 have hfz86_1:=blk_frozen BK592.out 1
                 have hfz86_2:=blk_frozen BK592.out 2
                 have hnb87:=NB600_593.out
                 have hnc87:=NB593_600.out
                 have hnb88:=NB600_594.out
                 have hnc88:=NB594_600.out
                 have hcz89_0:wr.cell? ⟨gb600,0,none⟩=some (u601000):=(blk_cell BK600.out 0).trans rfl
                 have hcz89_1:wr.cell? ⟨gb600,1,none⟩=some (.int .i64 x601001_3):=(blk_cell BK600.out 1).trans rfl
                 have hcz89_2:wr.cell? ⟨gb600,2,none⟩=some (.int .i64 x601002_3):=(blk_cell BK600.out 2).trans rfl
                 have hfz89_0:=blk_frozen BK600.out 0
                 have hfz89_1:=blk_frozen BK600.out 1
                 have hfz89_2:=blk_frozen BK600.out 2
                 try go_wp2_with (first|((with_reducible refine gate_builtin (b:=.append) (xs:=#[.tmp 85,.tmp 87]) rfl ?_);(try (refine gate_guard (by rfl) ?_;dsimp only));at_builtin;refine Kd.R_append (Kd.int .i64) (w0:=w) w.heap.size rfl (.tmp 85) (.tmp 87) 29 3 (.int .i64 0) 8 rfl Try.underlying29 info3 rfl (by decide) (by omega) u601000 x601000_3 x10_4 [.int .i64 x10_4] (fun _=>True) (fun _=>False) rfl rfl ?aP (fun _ hk=>hk.elim) ?aF ?aO ?aB ?aS ?aL ?_;(case aP=>exact rfl);(case aB=>exact (by repeat (first|(with_reducible first|exact HB.out|apply yA|apply yB|apply yC|refine yD ?_ GE592.out|refine yD ?_ GE593.out|refine yD ?_ GE594.out|refine yD ?_ GE600.out)|exact HB.out)));(case aF=>exact (fun _ _=>trivial));(case aO=>exact (by (with_reducible repeat (first|apply yH|apply yI|apply yJ));exact HO_601000.out));(case aS=>exact (yQ (by repeat (first|(with_reducible first|exact HB.out|apply yA|apply yB|apply yC|refine yD ?_ GE592.out|refine yD ?_ GE593.out|refine yD ?_ GE594.out|refine yD ?_ GE600.out)|exact HB.out))));(case aL=>have:=LMc69.out;omega);intro v602 w90 ho hb hg hat;rw [← Ny601.out] at ho;have n0_:=Aside0.mk (blk_grown (g:=gb592) (o:=.cells #[.slice A0_0 l0_0.length c0_0,.int .i64 a0_1,.int .i64 a0_2] 31 (0,0)) (by (with_reducible repeat (first|refine yE ?_ _|refine yF ?_|refine yG ?_ _));exact BK592.out) hg (Kd.R_ne HO_601000.out BK592.out (by decide)));have n1_:=Aside0.mk (blk_grown (g:=gb593) (o:=.cells #[.slice A1_0 l1_0.length c1_0,.int .i64 a1_1,.int .i64 a1_2] 31 (0,0)) (by (with_reducible repeat (first|refine yE ?_ _|refine yF ?_|refine yG ?_ _));exact BK593.out) hg (Kd.R_ne HO_601000.out BK593.out (by decide)));have n2_:=Aside0.mk (blk_grown (g:=gb594) (o:=.cells #[.slice none 0 0,.int .i64 0,.int .i64 0] 31 (0,0)) (by (with_reducible repeat (first|refine yE ?_ _|refine yF ?_|refine yG ?_ _));exact BK594.out) hg (Kd.R_ne HO_601000.out BK594.out (by decide)));have n3_:=Aside0.mk (blk_grown (g:=gb600) (o:=.cells #[u601000,.int .i64 x601001_3,.int .i64 x601002_3] 31 (0,0)) (by (with_reducible repeat (first|refine yE ?_ _|refine yF ?_|refine yG ?_ _));exact BK600.out) hg (Kd.R_ne HO_601000.out BK600.out (by decide)));have n4_:=Aside0.mk (hb);have n5_:=Aside0.mk (ho);clear BK592;clear BK593;clear BK594;clear BK600;clear HB;clear HO_601000;have BK592:=n0_;have BK593:=n1_;have BK594:=n2_;have BK600:=n3_;have HB:=n4_;have HO603:=n5_;clear n0_ n1_ n2_ n3_ n4_ n5_;clear ho hb hg hat;obtain ⟨Ao91,co91,eo91⟩:=Kd.R_slice HO603.out;subst eo91;have hcz92_0:w90.cell? ⟨gb600,0,none⟩=some (u601000):=(blk_cell BK600.out 0).trans rfl;have hcz92_1:w90.cell? ⟨gb600,1,none⟩=some (.int .i64 x601001_3):=(blk_cell BK600.out 1).trans rfl;have hcz92_2:w90.cell? ⟨gb600,2,none⟩=some (.int .i64 x601002_3):=(blk_cell BK600.out 2).trans rfl;have hfz92_0:=blk_frozen BK600.out 0;have hfz92_1:=blk_frozen BK600.out 1;have hfz92_2:=blk_frozen BK600.out 2))
                 have n0_:Aside0 (Kd.R (Kd.int .i64) 3 (w90.setCell ⟨gb600,0,none⟩ (.slice Ao91 y601.length co91)) w.heap.size (fun _=>True) (.slice Ao91 y601.length co91) y601):=⟨by (with_reducible repeat (first|apply yH|apply yI|apply yJ));exact Kd.R_mono (Kd.R_far (p:=⟨gb600,0,none⟩) (Kd.R_types HO603.out BK600.out (by decide)) (fun _ hk=>hk.2) (.slice Ao91 y601.length co91)) (fun _ hk=>trivial)⟩
                 have n1_:Aside0 ((w90.setCell ⟨gb600,0,none⟩ (.slice Ao91 y601.length co91)).heap[gb592]?=some (.cells #[.slice A0_0 l0_0.length c0_0,.int .i64 a0_1,.int .i64 a0_2] 31 (0,0))):=⟨by (with_reducible repeat (first|refine yE ?_ _|refine yF ?_|refine yG ?_ _));refine blk_far ?_ NB592_600.out _;(with_reducible repeat (first|refine yE ?_ _|refine yF ?_|refine yG ?_ _));exact BK592.out⟩
                 have n2_:Aside0 ((w90.setCell ⟨gb600,0,none⟩ (.slice Ao91 y601.length co91)).heap[gb593]?=some (.cells #[.slice A1_0 l1_0.length c1_0,.int .i64 a1_1,.int .i64 a1_2] 31 (0,0))):=⟨by (with_reducible repeat (first|refine yE ?_ _|refine yF ?_|refine yG ?_ _));refine blk_far ?_ NB593_600.out _;(with_reducible repeat (first|refine yE ?_ _|refine yF ?_|refine yG ?_ _));exact BK593.out⟩
                 have n3_:Aside0 ((w90.setCell ⟨gb600,0,none⟩ (.slice Ao91 y601.length co91)).heap[gb594]?=some (.cells #[.slice none 0 0,.int .i64 0,.int .i64 0] 31 (0,0))):=⟨by (with_reducible repeat (first|refine yE ?_ _|refine yF ?_|refine yG ?_ _));refine blk_far ?_ NB594_600.out _;(with_reducible repeat (first|refine yE ?_ _|refine yF ?_|refine yG ?_ _));exact BK594.out⟩
                 have n4_:Aside0 ((w90.setCell ⟨gb600,0,none⟩ (.slice Ao91 y601.length co91)).heap[gb600]?=some (.cells #[.slice Ao91 y601.length co91,.int .i64 x601001_3,.int .i64 x601002_3] 31 (0,0))):=⟨by (with_reducible repeat (first|refine yE ?_ _|refine yF ?_|refine yG ?_ _));refine blk_put (cs:=#[u601000,.int .i64 x601001_3,.int .i64 x601002_3]) ?_ 0 _ rfl;(with_reducible repeat (first|refine yE ?_ _|refine yF ?_|refine yG ?_ _));exact BK600.out⟩
                 have n5_:Aside0 (Below w.heap.size w (w90.setCell ⟨gb600,0,none⟩ (.slice Ao91 y601.length co91))):=⟨by repeat (first|(with_reducible first|exact HB.out|apply yA|apply yB|apply yC|refine yD ?_ GE592.out|refine yD ?_ GE593.out|refine yD ?_ GE594.out|refine yD ?_ GE600.out)|exact HB.out)⟩
                 (try clear HO603)
                 (try clear BK592)
                 (try clear BK593)
                 (try clear BK594)
                 (try clear BK600)
                 (try clear HB)
                 generalize (w90.setCell ⟨gb600,0,none⟩ (.slice Ao91 y601.length co91))=w93 at n0_ n1_ n2_ n3_ n4_ n5_ ⊢
                 have HO603:=n0_
                 have BK592:=n1_
                 have BK593:=n2_
                 have BK594:=n3_
                 have BK600:=n4_
                 have HB:=n5_
                 clear n0_ n1_ n2_ n3_ n4_ n5_
                 have n0_:=Aside0.mk (yJ HO603.out)
                 have n1_:=Aside0.mk (yF BK592.out)
                 have n2_:=Aside0.mk (yF BK593.out)
                 have n3_:=Aside0.mk (yF BK594.out)
                 have n4_:=Aside0.mk (yF BK600.out)
                 have n5_:=Aside0.mk (yC HB.out)
                 clear HO603
                 clear BK592
                 clear BK593
                 clear BK594
                 clear BK600
                 clear HB
                 have HO603:=n0_
                 have BK592:=n1_
                 have BK593:=n2_
                 have BK594:=n3_
                 have BK600:=n4_
                 have HB:=n5_
                 clear n0_ n1_ n2_ n3_ n4_ n5_
                 refine start_ (n:=22) (S:=fun w'=>w'.cell? ⟨gb600,0,none⟩=some (.slice Ao91 y601.length co91)∧w'.cell? ⟨gb600,1,none⟩=some (.int .i64 x601001_3)∧w'.cell? ⟨gb600,2,none⟩=some (.int .i64 x601002_3)∧w'.cell? ⟨gb592,0,none⟩=some (.slice A0_0 l0_0.length c0_0)∧w'.cell? ⟨gb592,1,none⟩=some (.int .i64 a0_1)∧w'.cell? ⟨gb592,2,none⟩=some (.int .i64 a0_2)∧w'.cell? ⟨gb593,0,none⟩=some (.slice A1_0 l1_0.length c1_0)∧w'.cell? ⟨gb593,1,none⟩=some (.int .i64 a1_1)∧w'.cell? ⟨gb593,2,none⟩=some (.int .i64 a1_2)) (ds:=[21]) #[false,false,false,false,false,false,false,false,false,false,false,false,false,false,false,false,false,false,false,false,false,false] (by kernel_rfl) rfl rfl ⟨(blk_cell BK600.out 0).trans rfl,(blk_cell BK600.out 1).trans rfl,(blk_cell BK600.out 2).trans rfl,(blk_cell BK592.out 0).trans rfl,(blk_cell BK592.out 1).trans rfl,(blk_cell BK592.out 2).trans rfl,(blk_cell BK593.out 0).trans rfl,(blk_cell BK593.out 1).trans rfl,(blk_cell BK593.out 2).trans rfl⟩ (fun hHeld=>?_);refine with_tabW spec_MachBoth.tab20 spec_MachBoth.bits20 (fun HT_ HW_=>?_)
                 generalize w93.drew=w94 at HO603 BK592 BK593 BK594 BK600 HB hHeld ⊢
                 refine pure_ (i:=0) (N:=some 90) (v:=?_) (a':=?_) #[true,false,false,false,false,false,false,false,false,false,false,false,false,false,false,false,false,false,false,false,false,false] rfl rfl (any_of HT_.out (by kernel_rfl)) (fun _ _ _ h=>h) (Or.inl ⟨by rfl,?_⟩) ?_ ?_
                 rotate_left
                 ·intro w'
                  go_simp
                  with_reducible rfl
                 rotate_left
                 ·simp only [Act.put,yK,yL,yM,i64_w,i32_w]
                  rfl
                 refine pure_ (i:=2) (N:=some 92) (v:=?_) (a':=?_) #[true,false,true,false,false,false,false,false,false,false,false,false,false,false,false,false,false,false,false,false,false,false] rfl rfl (any_of HT_.out (by kernel_rfl)) (fun _ _ _ h=>h) (Or.inl ⟨by rfl,?_⟩) ?_ ?_
                 rotate_left
                 ·intro w'
                  go_simp
                  with_reducible rfl
                 rotate_left
                 ·simp only [Act.put,yK,yL,yM,i64_w,i32_w]
                  rfl
                 refine pure_ (i:=4) (N:=some 94) (v:=?_) (a':=?_) #[true,false,true,false,true,false,false,false,false,false,false,false,false,false,false,false,false,false,false,false,false,false] rfl rfl (any_of HT_.out (by kernel_rfl)) (fun _ _ _ h=>h) (Or.inl ⟨by rfl,?_⟩) ?_ ?_
                 rotate_left
                 ·intro w'
                  go_simp
                  with_reducible rfl
                 rotate_left
                 ·simp only [Act.put,yK,yL,yM,i64_w,i32_w]
                  rfl
                 refine pure_ (i:=7) (N:=some 97) (v:=?_) (a':=?_) #[true,false,true,false,true,false,false,true,false,false,false,false,false,false,false,false,false,false,false,false,false,false] rfl rfl (any_of HT_.out (by kernel_rfl)) (fun _ _ _ h=>h) (Or.inl ⟨by rfl,?_⟩) ?_ ?_
                 rotate_left
                 ·intro w'
                  go_simp
                  with_reducible rfl
                 rotate_left
                 ·simp only [Act.put,yK,yL,yM,i64_w,i32_w]
                  rfl
                 refine pure_ (i:=9) (N:=some 99) (v:=?_) (a':=?_) #[true,false,true,false,true,false,false,true,false,true,false,false,false,false,false,false,false,false,false,false,false,false] rfl rfl (any_of HT_.out (by kernel_rfl)) (fun _ _ _ h=>h) (Or.inl ⟨by rfl,?_⟩) ?_ ?_
                 rotate_left
                 ·intro w'
                  go_simp
                  with_reducible rfl
                 rotate_left
                 ·simp only [Act.put,yK,yL,yM,i64_w,i32_w]
                  rfl
                 refine pure_ (i:=13) (N:=some 103) (v:=?_) (a':=?_) #[true,false,true,false,true,false,false,true,false,true,false,false,false,true,false,false,false,false,false,false,false,false] rfl rfl (any_of HT_.out (by kernel_rfl)) (fun _ _ _ h=>h) (Or.inl ⟨by rfl,?_⟩) ?_ ?_
                 rotate_left
                 ·intro w'
                  go_simp
                  with_reducible rfl
                 rotate_left
                 ·simp only [Act.put,yK,yL,yM,i64_w,i32_w]
                  rfl
                 refine pure_ (i:=14) (N:=some 104) (v:=?_) (a':=?_) #[true,false,true,false,true,false,false,true,false,true,false,false,false,true,true,false,false,false,false,false,false,false] rfl rfl (any_of HT_.out (by kernel_rfl)) (fun _ _ _ h=>h) (Or.inl ⟨by rfl,?_⟩) ?_ ?_
                 rotate_left
                 ·intro w'
                  go_simp
                  with_reducible rfl
                 rotate_left
                 ·simp only [Act.put,yK,yL,yM,i64_w,i32_w]
                  rfl
                 refine pure_ (i:=15) (N:=some 105) (v:=?_) (a':=?_) #[true,false,true,false,true,false,false,true,false,true,false,false,false,true,true,true,false,false,false,false,false,false] rfl rfl (any_of HT_.out (by kernel_rfl)) (fun _ _ _ h=>h) (Or.inl ⟨by rfl,?_⟩) ?_ ?_
                 rotate_left
                 ·intro w'
                  go_simp
                  with_reducible rfl
                 rotate_left
                 ·simp only [Act.put,yK,yL,yM,i64_w,i32_w]
                  rfl
                 refine pure_ (i:=16) (N:=some 106) (v:=?_) (a':=?_) #[true,false,true,false,true,false,false,true,false,true,false,false,false,true,true,true,true,false,false,false,false,false] rfl rfl (any_of HT_.out (by kernel_rfl)) (fun _ _ _ h=>h) (Or.inl ⟨by rfl,?_⟩) ?_ ?_
                 rotate_left
                 ·intro w'
                  go_simp
                  with_reducible rfl
                 rotate_left
                 ·simp only [Act.put,yK,yL,yM,i64_w,i32_w]
                  rfl
                 refine pure_ (i:=17) (N:=some 107) (v:=?_) (a':=?_) #[true,false,true,false,true,false,false,true,false,true,false,false,false,true,true,true,true,true,false,false,false,false] rfl rfl (any_of HT_.out (by kernel_rfl)) (fun _ _ _ h=>h) (Or.inl ⟨by rfl,?_⟩) ?_ ?_
                 rotate_left
                 ·intro w'
                  go_simp
                  with_reducible rfl
                 rotate_left
                 ·simp only [Act.put,yK,yL,yM,i64_w,i32_w]
                  rfl
                 refine take_ (i:=1) (N:=some 91) (v:=?_) (a':=?_) #[true,true,true,false,true,false,false,true,false,true,false,false,false,true,true,true,true,true,false,false,false,false] rfl rfl (take_ofW HT_.out HW_.out (by kernel_rfl)) (fun _ _ _ h=>h) (Or.inl ⟨by rfl,?_⟩) hHeld ?_ ?_
                 rotate_left
                 ·rintro w' ⟨s0,s1,s2,s3,s4,s5,s6,s7,s8⟩
                  go_simp
                  with_reducible rfl
                 rotate_left
                 ·simp only [Act.put,yK,yL,yM,i64_w,i32_w]
                  rfl
                 refine take_ (i:=3) (N:=some 93) (v:=?_) (a':=?_) #[true,true,true,true,true,false,false,true,false,true,false,false,false,true,true,true,true,true,false,false,false,false] rfl rfl (take_ofW HT_.out HW_.out (by kernel_rfl)) (fun _ _ _ h=>h) (Or.inl ⟨by rfl,?_⟩) hHeld ?_ ?_
                 rotate_left
                 ·rintro w' ⟨s0,s1,s2,s3,s4,s5,s6,s7,s8⟩
                  go_simp
                  with_reducible rfl
                 rotate_left
                 ·simp only [Act.put,yK,yL,yM,i64_w,i32_w]
                  rfl
                 refine pure_ (i:=5) (N:=some 95) (v:=?_) (a':=?_) #[true,true,true,true,true,true,false,true,false,true,false,false,false,true,true,true,true,true,false,false,false,false] rfl rfl (any_of HT_.out (by kernel_rfl)) (fun _ _ _ h=>h) (Or.inl ⟨by rfl,?_⟩) ?_ ?_
                 rotate_left
                 ·intro w'
                  go_simp
                  with_reducible rfl
                 rotate_left
                 ·simp only [Act.put,yK,yL,yM,i64_w,i32_w]
                  rfl
                 refine pure_ (i:=6) (N:=some 96) (v:=?_) (a':=?_) #[true,true,true,true,true,true,true,true,false,true,false,false,false,true,true,true,true,true,false,false,false,false] rfl rfl (any_of HT_.out (by kernel_rfl)) (fun _ _ _ h=>h) (Or.inl ⟨by rfl,?_⟩) ?_ ?_
                 rotate_left
                 ·intro w'
                  go_simp
                  with_reducible rfl
                 rotate_left
                 ·simp only [Act.put,yK,yL,yM,i64_w,i32_w]
                  rfl
                 refine take_ (i:=8) (N:=some 98) (v:=?_) (a':=?_) #[true,true,true,true,true,true,true,true,true,true,false,false,false,true,true,true,true,true,false,false,false,false] rfl rfl (take_ofW HT_.out HW_.out (by kernel_rfl)) (fun _ _ _ h=>h) (Or.inl ⟨by rfl,?_⟩) hHeld ?_ ?_
                 rotate_left
                 ·rintro w' ⟨s0,s1,s2,s3,s4,s5,s6,s7,s8⟩
                  go_simp
                  with_reducible rfl
                 rotate_left
                 ·simp only [Act.put,yK,yL,yM,i64_w,i32_w]
                  rfl
                 refine pure_ (i:=10) (N:=some 100) (v:=?_) (a':=?_) #[true,true,true,true,true,true,true,true,true,true,true,false,false,true,true,true,true,true,false,false,false,false] rfl rfl (any_of HT_.out (by kernel_rfl)) (fun _ _ _ h=>h) (Or.inl ⟨by rfl,?_⟩) ?_ ?_
                 rotate_left
                 ·intro w'
                  go_simp
                  with_reducible rfl
                 rotate_left
                 ·simp only [Act.put,yK,yL,yM,i64_w,i32_w]
                  rfl
                 refine pure_ (i:=11) (N:=some 101) (v:=?_) (a':=?_) #[true,true,true,true,true,true,true,true,true,true,true,true,false,true,true,true,true,true,false,false,false,false] rfl rfl (any_of HT_.out (by kernel_rfl)) (fun _ _ _ h=>h) (Or.inl ⟨by rfl,?_⟩) ?_ ?_
                 rotate_left
                 ·intro w'
                  go_simp
                  with_reducible rfl
                 rotate_left
                 ·simp only [Act.put,yK,yL,yM,i64_w,i32_w]
                  rfl
                 refine pure_ (i:=12) (N:=some 102) (v:=?_) (a':=?_) #[true,true,true,true,true,true,true,true,true,true,true,true,true,true,true,true,true,true,false,false,false,false] rfl rfl (any_of HT_.out (by kernel_rfl)) (fun _ _ _ h=>h) (Or.inl ⟨by rfl,?_⟩) ?_ ?_
                 rotate_left
                 ·intro w'
                  go_simp
                  with_reducible rfl
                 rotate_left
                 ·simp only [Act.put,yK,yL,yM,i64_w,i32_w]
                  rfl
                 refine pure_ (i:=18) (N:=some 108) (v:=?_) (a':=?_) #[true,true,true,true,true,true,true,true,true,true,true,true,true,true,true,true,true,true,true,false,false,false] rfl rfl (any_of HT_.out (by kernel_rfl)) (fun _ _ _ h=>h) (Or.inl ⟨by rfl,?_⟩) ?_ ?_
                 rotate_left
                 ·intro w'
                  go_simp
                  with_reducible rfl
                 rotate_left
                 ·simp only [Act.put,yK,yL,yM,i64_w,i32_w]
                  rfl
                 refine pure_ (i:=19) (N:=some 109) (v:=?_) (a':=?_) #[true,true,true,true,true,true,true,true,true,true,true,true,true,true,true,true,true,true,true,true,false,false] rfl rfl (any_of HT_.out (by kernel_rfl)) (fun _ _ _ h=>h) (Or.inl ⟨by rfl,?_⟩) ?_ ?_
                 rotate_left
                 ·intro w'
                  go_simp
                  with_reducible rfl
                 rotate_left
                 ·simp only [Act.put,yK,yL,yM,i64_w,i32_w]
                  rfl
                 refine pure_ (i:=20) (N:=some 110) (v:=?_) (a':=?_) #[true,true,true,true,true,true,true,true,true,true,true,true,true,true,true,true,true,true,true,true,true,false] rfl rfl (any_of HT_.out (by kernel_rfl)) (fun _ _ _ h=>h) (Or.inl ⟨by rfl,?_⟩) ?_ ?_
                 rotate_left
                 ·intro w'
                  go_simp
                  with_reducible rfl
                 rotate_left
                 ·simp only [Act.put,yK,yL,yM,i64_w,i32_w]
                  rfl
                 refine last_ (i:=21) (N:=none) #[true,true,true,true,true,true,true,true,true,true,true,true,true,true,true,true,true,true,true,true,true,true] rfl rfl (one_of HT_.out (by kernel_rfl)) (by decide) (fun K hK=>?_)
                 have hs95:w94.cell? ⟨gb600,1,none⟩=some (.int .i64 x601001_3):=(blk_cell BK600.out 1).trans rfl
                 have hfs95:=blk_frozen BK600.out 1
                 have hns95_0:=NB592_600.out
                 have hns95_1:=NB593_600.out
                 have hns95_2:=NB594_600.out
                 have hms95_0:=NB600_592.out
                 have hms95_1:=NB600_593.out
                 have hms95_2:=NB600_594.out
                 refine skip_ (w1:=?_) (by rfl) rfl ?_ ?_
                 rotate_left
                 ·go_simp
                  rfl
                 refine hK.out _ _ ?_
                 clear hK K
                 refine done_ (done_of HT_.out (by kernel_rfl)) ?_
                 try go_wp2
                 have n0_:Aside0 (Kd.R (Kd.int .i64) 3 (w94.setCell ⟨gb600,1,none⟩ (.int .i64 (Go.bits .or .i64 x601001_3 (ji76)))) w.heap.size (fun _=>True) (.slice Ao91 y601.length co91) y601):=⟨by (with_reducible repeat (first|apply yH|apply yI|apply yJ));exact Kd.R_mono (Kd.R_far (p:=⟨gb600,1,none⟩) (Kd.R_types HO603.out BK600.out (by decide)) (fun _ hk=>hk.2) (.int .i64 (Go.bits .or .i64 x601001_3 (ji76)))) (fun _ hk=>trivial)⟩
                 have n1_:Aside0 ((w94.setCell ⟨gb600,1,none⟩ (.int .i64 (Go.bits .or .i64 x601001_3 (ji76)))).heap[gb592]?=some (.cells #[.slice A0_0 l0_0.length c0_0,.int .i64 a0_1,.int .i64 a0_2] 31 (0,0))):=⟨by (with_reducible repeat (first|refine yE ?_ _|refine yF ?_|refine yG ?_ _));refine blk_far ?_ NB592_600.out _;(with_reducible repeat (first|refine yE ?_ _|refine yF ?_|refine yG ?_ _));exact BK592.out⟩
                 have n2_:Aside0 ((w94.setCell ⟨gb600,1,none⟩ (.int .i64 (Go.bits .or .i64 x601001_3 (ji76)))).heap[gb593]?=some (.cells #[.slice A1_0 l1_0.length c1_0,.int .i64 a1_1,.int .i64 a1_2] 31 (0,0))):=⟨by (with_reducible repeat (first|refine yE ?_ _|refine yF ?_|refine yG ?_ _));refine blk_far ?_ NB593_600.out _;(with_reducible repeat (first|refine yE ?_ _|refine yF ?_|refine yG ?_ _));exact BK593.out⟩
                 have n3_:Aside0 ((w94.setCell ⟨gb600,1,none⟩ (.int .i64 (Go.bits .or .i64 x601001_3 (ji76)))).heap[gb594]?=some (.cells #[.slice none 0 0,.int .i64 0,.int .i64 0] 31 (0,0))):=⟨by (with_reducible repeat (first|refine yE ?_ _|refine yF ?_|refine yG ?_ _));refine blk_far ?_ NB594_600.out _;(with_reducible repeat (first|refine yE ?_ _|refine yF ?_|refine yG ?_ _));exact BK594.out⟩
                 have n4_:Aside0 ((w94.setCell ⟨gb600,1,none⟩ (.int .i64 (Go.bits .or .i64 x601001_3 (ji76)))).heap[gb600]?=some (.cells #[.slice Ao91 y601.length co91,.int .i64 (Go.bits .or .i64 x601001_3 (ji76)),.int .i64 x601002_3] 31 (0,0))):=⟨by (with_reducible repeat (first|refine yE ?_ _|refine yF ?_|refine yG ?_ _));refine blk_put (cs:=#[.slice Ao91 y601.length co91,.int .i64 x601001_3,.int .i64 x601002_3]) ?_ 1 _ rfl;(with_reducible repeat (first|refine yE ?_ _|refine yF ?_|refine yG ?_ _));exact BK600.out⟩
                 have n5_:Aside0 (Below w.heap.size w (w94.setCell ⟨gb600,1,none⟩ (.int .i64 (Go.bits .or .i64 x601001_3 (ji76))))):=⟨by repeat (first|(with_reducible first|exact HB.out|apply yA|apply yB|apply yC|refine yD ?_ GE592.out|refine yD ?_ GE593.out|refine yD ?_ GE594.out|refine yD ?_ GE600.out)|exact HB.out)⟩
                 (try clear HO603)
                 (try clear BK592)
                 (try clear BK593)
                 (try clear BK594)
                 (try clear BK600)
                 (try clear HB)
                 generalize (w94.setCell ⟨gb600,1,none⟩ (.int .i64 (Go.bits .or .i64 x601001_3 (ji76))))=w96 at n0_ n1_ n2_ n3_ n4_ n5_ ⊢
                 have HO603:=n0_
                 have BK592:=n1_
                 have BK593:=n2_
                 have BK594:=n3_
                 have BK600:=n4_
                 have HB:=n5_
                 clear n0_ n1_ n2_ n3_ n4_ n5_
                 have n0_:=Aside0.mk (yJ HO603.out)
                 have n1_:=Aside0.mk (yF BK592.out)
                 have n2_:=Aside0.mk (yF BK593.out)
                 have n3_:=Aside0.mk (yF BK594.out)
                 have n4_:=Aside0.mk (yF BK600.out)
                 have n5_:=Aside0.mk (yC HB.out)
                 clear HO603
                 clear BK592
                 clear BK593
                 clear BK594
                 clear BK600
                 clear HB
                 have HO603:=n0_
                 have BK592:=n1_
                 have BK593:=n2_
                 have BK594:=n3_
                 have BK600:=n4_
                 have HB:=n5_
                 clear n0_ n1_ n2_ n3_ n4_ n5_
                 refine start_ (n:=22) (S:=fun w'=>w'.cell? ⟨gb600,0,none⟩=some (.slice Ao91 y601.length co91)∧w'.cell? ⟨gb600,1,none⟩=some (.int .i64 (Go.bits .or .i64 x601001_3 (ji76)))∧w'.cell? ⟨gb600,2,none⟩=some (.int .i64 x601002_3)∧w'.cell? ⟨gb592,0,none⟩=some (.slice A0_0 l0_0.length c0_0)∧w'.cell? ⟨gb592,1,none⟩=some (.int .i64 a0_1)∧w'.cell? ⟨gb592,2,none⟩=some (.int .i64 a0_2)∧w'.cell? ⟨gb593,0,none⟩=some (.slice A1_0 l1_0.length c1_0)∧w'.cell? ⟨gb593,1,none⟩=some (.int .i64 a1_1)∧w'.cell? ⟨gb593,2,none⟩=some (.int .i64 a1_2)) (ds:=[21]) #[false,false,false,false,false,false,false,false,false,false,false,false,false,false,false,false,false,false,false,false,false,false] (by kernel_rfl) rfl rfl ⟨(blk_cell BK600.out 0).trans rfl,(blk_cell BK600.out 1).trans rfl,(blk_cell BK600.out 2).trans rfl,(blk_cell BK592.out 0).trans rfl,(blk_cell BK592.out 1).trans rfl,(blk_cell BK592.out 2).trans rfl,(blk_cell BK593.out 0).trans rfl,(blk_cell BK593.out 1).trans rfl,(blk_cell BK593.out 2).trans rfl⟩ (fun hHeld=>?_);refine with_tabW spec_MachBoth.tab21 spec_MachBoth.bits21 (fun HT_ HW_=>?_)
                 generalize w96.drew=w97 at HO603 BK592 BK593 BK594 BK600 HB hHeld ⊢
                 refine pure_ (i:=0) (N:=some 111) (v:=?_) (a':=?_) #[true,false,false,false,false,false,false,false,false,false,false,false,false,false,false,false,false,false,false,false,false,false] rfl rfl (any_of HT_.out (by kernel_rfl)) (fun _ _ _ h=>h) (Or.inl ⟨by rfl,?_⟩) ?_ ?_
                 rotate_left
                 ·intro w'
                  go_simp
                  with_reducible rfl
                 rotate_left
                 ·simp only [Act.put,yK,yL,yM,i64_w,i32_w]
                  rfl
                 refine pure_ (i:=2) (N:=some 113) (v:=?_) (a':=?_) #[true,false,true,false,false,false,false,false,false,false,false,false,false,false,false,false,false,false,false,false,false,false] rfl rfl (any_of HT_.out (by kernel_rfl)) (fun _ _ _ h=>h) (Or.inl ⟨by rfl,?_⟩) ?_ ?_
                 rotate_left
                 ·intro w'
                  go_simp
                  with_reducible rfl
                 rotate_left
                 ·simp only [Act.put,yK,yL,yM,i64_w,i32_w]
                  rfl
                 refine pure_ (i:=4) (N:=some 115) (v:=?_) (a':=?_) #[true,false,true,false,true,false,false,false,false,false,false,false,false,false,false,false,false,false,false,false,false,false] rfl rfl (any_of HT_.out (by kernel_rfl)) (fun _ _ _ h=>h) (Or.inl ⟨by rfl,?_⟩) ?_ ?_
                 rotate_left
                 ·intro w'
                  go_simp
                  with_reducible rfl
                 rotate_left
                 ·simp only [Act.put,yK,yL,yM,i64_w,i32_w]
                  rfl
                 refine pure_ (i:=7) (N:=some 118) (v:=?_) (a':=?_) #[true,false,true,false,true,false,false,true,false,false,false,false,false,false,false,false,false,false,false,false,false,false] rfl rfl (any_of HT_.out (by kernel_rfl)) (fun _ _ _ h=>h) (Or.inl ⟨by rfl,?_⟩) ?_ ?_
                 rotate_left
                 ·intro w'
                  go_simp
                  with_reducible rfl
                 rotate_left
                 ·simp only [Act.put,yK,yL,yM,i64_w,i32_w]
                  rfl
                 refine pure_ (i:=9) (N:=some 120) (v:=?_) (a':=?_) #[true,false,true,false,true,false,false,true,false,true,false,false,false,false,false,false,false,false,false,false,false,false] rfl rfl (any_of HT_.out (by kernel_rfl)) (fun _ _ _ h=>h) (Or.inl ⟨by rfl,?_⟩) ?_ ?_
                 rotate_left
                 ·intro w'
                  go_simp
                  with_reducible rfl
                 rotate_left
                 ·simp only [Act.put,yK,yL,yM,i64_w,i32_w]
                  rfl
                 refine pure_ (i:=13) (N:=some 124) (v:=?_) (a':=?_) #[true,false,true,false,true,false,false,true,false,true,false,false,false,true,false,false,false,false,false,false,false,false] rfl rfl (any_of HT_.out (by kernel_rfl)) (fun _ _ _ h=>h) (Or.inl ⟨by rfl,?_⟩) ?_ ?_
                 rotate_left
                 ·intro w'
                  go_simp
                  with_reducible rfl
                 rotate_left
                 ·simp only [Act.put,yK,yL,yM,i64_w,i32_w]
                  rfl
                 refine pure_ (i:=14) (N:=some 125) (v:=?_) (a':=?_) #[true,false,true,false,true,false,false,true,false,true,false,false,false,true,true,false,false,false,false,false,false,false] rfl rfl (any_of HT_.out (by kernel_rfl)) (fun _ _ _ h=>h) (Or.inl ⟨by rfl,?_⟩) ?_ ?_
                 rotate_left
                 ·intro w'
                  go_simp
                  with_reducible rfl
                 rotate_left
                 ·simp only [Act.put,yK,yL,yM,i64_w,i32_w]
                  rfl
                 refine pure_ (i:=15) (N:=some 126) (v:=?_) (a':=?_) #[true,false,true,false,true,false,false,true,false,true,false,false,false,true,true,true,false,false,false,false,false,false] rfl rfl (any_of HT_.out (by kernel_rfl)) (fun _ _ _ h=>h) (Or.inl ⟨by rfl,?_⟩) ?_ ?_
                 rotate_left
                 ·intro w'
                  go_simp
                  with_reducible rfl
                 rotate_left
                 ·simp only [Act.put,yK,yL,yM,i64_w,i32_w]
                  rfl
                 refine pure_ (i:=16) (N:=some 127) (v:=?_) (a':=?_) #[true,false,true,false,true,false,false,true,false,true,false,false,false,true,true,true,true,false,false,false,false,false] rfl rfl (any_of HT_.out (by kernel_rfl)) (fun _ _ _ h=>h) (Or.inl ⟨by rfl,?_⟩) ?_ ?_
                 rotate_left
                 ·intro w'
                  go_simp
                  with_reducible rfl
                 rotate_left
                 ·simp only [Act.put,yK,yL,yM,i64_w,i32_w]
                  rfl
                 refine pure_ (i:=17) (N:=some 128) (v:=?_) (a':=?_) #[true,false,true,false,true,false,false,true,false,true,false,false,false,true,true,true,true,true,false,false,false,false] rfl rfl (any_of HT_.out (by kernel_rfl)) (fun _ _ _ h=>h) (Or.inl ⟨by rfl,?_⟩) ?_ ?_
                 rotate_left
                 ·intro w'
                  go_simp
                  with_reducible rfl
                 rotate_left
                 ·simp only [Act.put,yK,yL,yM,i64_w,i32_w]
                  rfl
                 refine take_ (i:=1) (N:=some 112) (v:=?_) (a':=?_) #[true,true,true,false,true,false,false,true,false,true,false,false,false,true,true,true,true,true,false,false,false,false] rfl rfl (take_ofW HT_.out HW_.out (by kernel_rfl)) (fun _ _ _ h=>h) (Or.inl ⟨by rfl,?_⟩) hHeld ?_ ?_
                 rotate_left
                 ·rintro w' ⟨s0,s1,s2,s3,s4,s5,s6,s7,s8⟩
                  go_simp
                  with_reducible rfl
                 rotate_left
                 ·simp only [Act.put,yK,yL,yM,i64_w,i32_w]
                  rfl
                 refine take_ (i:=3) (N:=some 114) (v:=?_) (a':=?_) #[true,true,true,true,true,false,false,true,false,true,false,false,false,true,true,true,true,true,false,false,false,false] rfl rfl (take_ofW HT_.out HW_.out (by kernel_rfl)) (fun _ _ _ h=>h) (Or.inl ⟨by rfl,?_⟩) hHeld ?_ ?_
                 rotate_left
                 ·rintro w' ⟨s0,s1,s2,s3,s4,s5,s6,s7,s8⟩
                  go_simp
                  with_reducible rfl
                 rotate_left
                 ·simp only [Act.put,yK,yL,yM,i64_w,i32_w]
                  rfl
                 refine pure_ (i:=5) (N:=some 116) (v:=?_) (a':=?_) #[true,true,true,true,true,true,false,true,false,true,false,false,false,true,true,true,true,true,false,false,false,false] rfl rfl (any_of HT_.out (by kernel_rfl)) (fun _ _ _ h=>h) (Or.inl ⟨by rfl,?_⟩) ?_ ?_
                 rotate_left
                 ·intro w'
                  go_simp
                  with_reducible rfl
                 rotate_left
                 ·simp only [Act.put,yK,yL,yM,i64_w,i32_w]
                  rfl
                 refine pure_ (i:=6) (N:=some 117) (v:=?_) (a':=?_) #[true,true,true,true,true,true,true,true,false,true,false,false,false,true,true,true,true,true,false,false,false,false] rfl rfl (any_of HT_.out (by kernel_rfl)) (fun _ _ _ h=>h) (Or.inl ⟨by rfl,?_⟩) ?_ ?_
                 rotate_left
                 ·intro w'
                  go_simp
                  with_reducible rfl
                 rotate_left
                 ·simp only [Act.put,yK,yL,yM,i64_w,i32_w]
                  rfl
                 refine take_ (i:=8) (N:=some 119) (v:=?_) (a':=?_) #[true,true,true,true,true,true,true,true,true,true,false,false,false,true,true,true,true,true,false,false,false,false] rfl rfl (take_ofW HT_.out HW_.out (by kernel_rfl)) (fun _ _ _ h=>h) (Or.inl ⟨by rfl,?_⟩) hHeld ?_ ?_
                 rotate_left
                 ·rintro w' ⟨s0,s1,s2,s3,s4,s5,s6,s7,s8⟩
                  go_simp
                  with_reducible rfl
                 rotate_left
                 ·simp only [Act.put,yK,yL,yM,i64_w,i32_w]
                  rfl
                 refine pure_ (i:=10) (N:=some 121) (v:=?_) (a':=?_) #[true,true,true,true,true,true,true,true,true,true,true,false,false,true,true,true,true,true,false,false,false,false] rfl rfl (any_of HT_.out (by kernel_rfl)) (fun _ _ _ h=>h) (Or.inl ⟨by rfl,?_⟩) ?_ ?_
                 rotate_left
                 ·intro w'
                  go_simp
                  with_reducible rfl
                 rotate_left
                 ·simp only [Act.put,yK,yL,yM,i64_w,i32_w]
                  rfl
                 refine pure_ (i:=11) (N:=some 122) (v:=?_) (a':=?_) #[true,true,true,true,true,true,true,true,true,true,true,true,false,true,true,true,true,true,false,false,false,false] rfl rfl (any_of HT_.out (by kernel_rfl)) (fun _ _ _ h=>h) (Or.inl ⟨by rfl,?_⟩) ?_ ?_
                 rotate_left
                 ·intro w'
                  go_simp
                  with_reducible rfl
                 rotate_left
                 ·simp only [Act.put,yK,yL,yM,i64_w,i32_w]
                  rfl
                 refine pure_ (i:=12) (N:=some 123) (v:=?_) (a':=?_) #[true,true,true,true,true,true,true,true,true,true,true,true,true,true,true,true,true,true,false,false,false,false] rfl rfl (any_of HT_.out (by kernel_rfl)) (fun _ _ _ h=>h) (Or.inl ⟨by rfl,?_⟩) ?_ ?_
                 rotate_left
                 ·intro w'
                  go_simp
                  with_reducible rfl
                 rotate_left
                 ·simp only [Act.put,yK,yL,yM,i64_w,i32_w]
                  rfl
                 refine pure_ (i:=18) (N:=some 129) (v:=?_) (a':=?_) #[true,true,true,true,true,true,true,true,true,true,true,true,true,true,true,true,true,true,true,false,false,false] rfl rfl (any_of HT_.out (by kernel_rfl)) (fun _ _ _ h=>h) (Or.inl ⟨by rfl,?_⟩) ?_ ?_
                 rotate_left
                 ·intro w'
                  go_simp
                  with_reducible rfl
                 rotate_left
                 ·simp only [Act.put,yK,yL,yM,i64_w,i32_w]
                  rfl
                 refine pure_ (i:=19) (N:=some 130) (v:=?_) (a':=?_) #[true,true,true,true,true,true,true,true,true,true,true,true,true,true,true,true,true,true,true,true,false,false] rfl rfl (any_of HT_.out (by kernel_rfl)) (fun _ _ _ h=>h) (Or.inl ⟨by rfl,?_⟩) ?_ ?_
                 rotate_left
                 ·intro w'
                  go_simp
                  with_reducible rfl
                 rotate_left
                 ·simp only [Act.put,yK,yL,yM,i64_w,i32_w]
                  rfl
                 refine pure_ (i:=20) (N:=some 131) (v:=?_) (a':=?_) #[true,true,true,true,true,true,true,true,true,true,true,true,true,true,true,true,true,true,true,true,true,false] rfl rfl (any_of HT_.out (by kernel_rfl)) (fun _ _ _ h=>h) (Or.inl ⟨by rfl,?_⟩) ?_ ?_
                 rotate_left
                 ·intro w'
                  go_simp
                  with_reducible rfl
                 rotate_left
                 ·simp only [Act.put,yK,yL,yM,i64_w,i32_w]
                  rfl
                 refine last_ (i:=21) (N:=none) #[true,true,true,true,true,true,true,true,true,true,true,true,true,true,true,true,true,true,true,true,true,true] rfl rfl (one_of HT_.out (by kernel_rfl)) (by decide) (fun K hK=>?_)
                 have hs98:w97.cell? ⟨gb600,2,none⟩=some (.int .i64 x601002_3):=(blk_cell BK600.out 2).trans rfl
                 have hfs98:=blk_frozen BK600.out 2
                 have hns98_0:=NB592_600.out
                 have hns98_1:=NB593_600.out
                 have hns98_2:=NB594_600.out
                 have hms98_0:=NB600_592.out
                 have hms98_1:=NB600_593.out
                 have hms98_2:=NB600_594.out
                 refine skip_ (w1:=?_) (by rfl) rfl ?_ ?_
                 rotate_left
                 ·go_simp
                  rfl
                 refine hK.out _ _ ?_
                 clear hK K
                 refine done_ (done_of HT_.out (by kernel_rfl)) ?_
                 try go_wp2
                 go_roundg k4
                 case measure=>have:=HJ2.out;have:=HK2.out;have:=HK3.out;have:=HK4.out;omega
                 case rel=>exact ⟨(wrap64 (x9_3+1)),(y601),(Go.bits .or .i64 x601001_3 (ji76)),(Go.bits .or .i64 x601002_3 (ji82)),(.slice Ao91 y601.length co91),(by first|rfl|(simp;done)|(simp [*];done)|(simp [Int.tmod_eq_emod_of_nonneg];done)),H',⟨by have:=HJ2.out;have:=HK2.out;have:=HK3.out;have:=HK4.out;omega⟩,⟨by (with_reducible repeat (first|apply yH|apply yI|apply yJ));exact Kd.R_mono (Kd.R_far (p:=⟨gb600,2,none⟩) (Kd.R_types HO603.out BK600.out (by decide)) (fun _ hk=>hk.2) (.int .i64 (Go.bits .or .i64 x601002_3 (ji82)))) (fun _ hk=>trivial)⟩,⟨by (with_reducible repeat (first|refine yE ?_ _|refine yF ?_|refine yG ?_ _));refine blk_far ?_ NB592_600.out _;(with_reducible repeat (first|refine yE ?_ _|refine yF ?_|refine yG ?_ _));exact BK592.out⟩,⟨by (with_reducible repeat (first|refine yE ?_ _|refine yF ?_|refine yG ?_ _));refine blk_far ?_ NB593_600.out _;(with_reducible repeat (first|refine yE ?_ _|refine yF ?_|refine yG ?_ _));exact BK593.out⟩,⟨by (with_reducible repeat (first|refine yE ?_ _|refine yF ?_|refine yG ?_ _));refine blk_far ?_ NB594_600.out _;(with_reducible repeat (first|refine yE ?_ _|refine yF ?_|refine yG ?_ _));exact BK594.out⟩,⟨by (with_reducible repeat (first|refine yE ?_ _|refine yF ?_|refine yG ?_ _));refine blk_put (cs:=#[.slice Ao91 y601.length co91,.int .i64 (Go.bits .or .i64 x601001_3 (ji76)),.int .i64 x601002_3]) ?_ 2 _ rfl;(with_reducible repeat (first|refine yE ?_ _|refine yF ?_|refine yG ?_ _));exact BK600.out⟩,⟨by repeat (first|(with_reducible first|exact HB.out|apply yA|apply yB|apply yC|refine yD ?_ GE592.out|refine yD ?_ GE593.out|refine yD ?_ GE594.out|refine yD ?_ GE600.out)|exact HB.out)⟩⟩
                ·rw [if_neg c75] at H
                 exact absurd H (by simp)
               ·rw [if_neg c72] at H
                exact absurd H (by simp)
              ·rw [if_neg c70] at H
               exact absurd H (by simp)
             ·rw [if_neg c69] at H
              exact absurd H (by simp)
         ·rw [if_neg c50] at H
          have c50b0:decide (x9_3<(l1_0.length:Int))=false:=decide_eq_false c50
          clear c50
          have H':=Aside0.mk H
          clear H
          go_wp2
          go_roundg k3
          case measure=>have:=HJ2.out;have:=HK2.out;have:=HK3.out;omega
          case rel=>exact ⟨(wrap64 (x8_2+1)),(x601000_3),(x601001_3),(x601002_3),(u601000),(by first|rfl|(simp;done)|(simp [*];done)|(simp [Int.tmod_eq_emod_of_nonneg];done)),H',⟨by have:=HJ2.out;have:=HK2.out;have:=HK3.out;omega⟩,⟨by (with_reducible repeat (first|apply yH|apply yI|apply yJ));exact HO_601000.out⟩,⟨by (with_reducible repeat (first|refine yE ?_ _|refine yF ?_|refine yG ?_ _));exact BK592.out⟩,⟨by (with_reducible repeat (first|refine yE ?_ _|refine yF ?_|refine yG ?_ _));exact BK593.out⟩,⟨by (with_reducible repeat (first|refine yE ?_ _|refine yF ?_|refine yG ?_ _));exact BK594.out⟩,⟨by (with_reducible repeat (first|refine yE ?_ _|refine yF ?_|refine yG ?_ _));exact BK600.out⟩,⟨by repeat (first|(with_reducible first|exact HB.out|apply yA|apply yB|apply yC|refine yD ?_ GE592.out|refine yD ?_ GE593.out|refine yD ?_ GE594.out|refine yD ?_ GE600.out)|exact HB.out)⟩⟩
      ·rw [if_neg c45] at H
       have c45b0:decide (x8_2<(l0_0.length:Int))=false:=decide_eq_false c45
       clear c45
       simp only [Option.some.injEq,Prod.mk.injEq] at H
       obtain ⟨rfl,rfl,rfl,rfl⟩:=H
       have hnb99:=NB592_593.out
       have hnc99:=NB593_592.out
       have hnb100:=NB592_594.out
       have hnc100:=NB594_592.out
       have hnb101:=NB592_600.out
       have hnc101:=NB600_592.out
       have hcz102_0:wr.cell? ⟨gb592,0,none⟩=some (.slice A0_0 l0_0.length c0_0):=(blk_cell BK592.out 0).trans rfl
       have hcz102_1:wr.cell? ⟨gb592,1,none⟩=some (.int .i64 a0_1):=(blk_cell BK592.out 1).trans rfl
       have hcz102_2:wr.cell? ⟨gb592,2,none⟩=some (.int .i64 a0_2):=(blk_cell BK592.out 2).trans rfl
       have hfz102_0:=blk_frozen BK592.out 0
       have hfz102_1:=blk_frozen BK592.out 1
       have hfz102_2:=blk_frozen BK592.out 2
       have hnb103:=NB600_593.out
       have hnc103:=NB593_600.out
       have hnb104:=NB600_594.out
       have hnc104:=NB594_600.out
       have hcz105_0:wr.cell? ⟨gb600,0,none⟩=some (u601000):=(blk_cell BK600.out 0).trans rfl
       have hcz105_1:wr.cell? ⟨gb600,1,none⟩=some (.int .i64 x601001_2):=(blk_cell BK600.out 1).trans rfl
       have hcz105_2:wr.cell? ⟨gb600,2,none⟩=some (.int .i64 x601002_2):=(blk_cell BK600.out 2).trans rfl
       have hfz105_0:=blk_frozen BK600.out 0
       have hfz105_1:=blk_frozen BK600.out 1
       have hfz105_2:=blk_frozen BK600.out 2
       obtain ⟨Ao106,co106,eo106⟩:=Kd.R_slice HO_601000.out
       subst eo106
       have hnb107:=NB594_593.out
       have hnc107:=NB593_594.out
       have hcz108_0:wr.cell? ⟨gb594,0,none⟩=some (.slice none 0 0):=(blk_cell BK594.out 0).trans rfl
       have hcz108_1:wr.cell? ⟨gb594,1,none⟩=some (.int .i64 0):=(blk_cell BK594.out 1).trans rfl
       have hcz108_2:wr.cell? ⟨gb594,2,none⟩=some (.int .i64 0):=(blk_cell BK594.out 2).trans rfl
       have hfz108_0:=blk_frozen BK594.out 0
       have hfz108_1:=blk_frozen BK594.out 1
       have hfz108_2:=blk_frozen BK594.out 2
       go_wp2
       refine bodyPost_ret (results_ct rfl _ _ gb594 31 #[.slice Ao106 x601000_2.length co106,.int .i64 x601001_2,.int .i64 x601002_2] (0,0) _ rfl (by (with_reducible repeat (first|refine yE ?_ _|refine yF ?_|refine yG ?_ _));refine blk_put (cs:=#[.slice Ao106 x601000_2.length co106,.int .i64 x601001_2,.int .i64 0]) ?_ 2 _ rfl;(with_reducible repeat (first|refine yE ?_ _|refine yF ?_|refine yG ?_ _));refine blk_put (cs:=#[.slice Ao106 x601000_2.length co106,.int .i64 0,.int .i64 0]) ?_ 1 _ rfl;(with_reducible repeat (first|refine yE ?_ _|refine yF ?_|refine yG ?_ _));refine blk_put (cs:=#[.slice none 0 0,.int .i64 0,.int .i64 0]) ?_ 0 _ rfl;(with_reducible repeat (first|refine yE ?_ _|refine yF ?_|refine yG ?_ _));exact BK594.out) Try.underlying31 rfl (by kernel_rfl)) rfl ?_
       exact ⟨_,by first|rfl|(simp [errW_none,errW_some]<;>rfl)|(simp [*,errW_none,errW_some]<;>rfl)|(simp [errW_none,errW_some];exact ⟨rfl,rfl⟩),by (with_reducible repeat (first|apply yH|apply yI|apply yJ));exact Kd.R_mono (Kd.R_far (p:=⟨gb594,2,none⟩) (Kd.R_far (p:=⟨gb594,1,none⟩) (Kd.R_far (p:=⟨gb594,0,none⟩) (Kd.R_types HO_601000.out BK594.out (by decide)) (fun _ hk=>hk.2) (.slice Ao106 x601000_2.length co106)) (fun _ hk=>hk.2) (.int .i64 x601001_2)) (fun _ hk=>hk.2) (.int .i64 x601002_2)) (fun _ hk=>trivial),by repeat (first|(with_reducible first|exact HB.out|apply yA|apply yB|apply yC|refine yD ?_ GE592.out|refine yD ?_ GE593.out|refine yD ?_ GE594.out|refine yD ?_ GE600.out)|exact HB.out)⟩

end Go.Proofs.Ytneadgionjlicaa.P

namespace Go.Proofs.Ytneadgionjlicaa.P
open Go.RowKit Go.Proofs.YtneadgionjlicaaW.PrintWords Go.Proofs.YtneadgionjlicaaW.PrintLast Go.Proofs.YtneadgionjlicaaW.PrintMore
attribute [local go_sem] max2_int min2_int max_two min_two max_three min_three max_four min_four   -- for this text's walks alone
set_option linter.unusedVariables false
set_option linter.unusedSimpArgs false

/-! ### stringslite_HasSuffix: function 87 -/
def stringslite_HasSuffix.f (a0:ByteArray) (a1:ByteArray):Option (Bool):=if (a0.size:Int) ≥ (a1.size:Int) then (if 0≤(wrap64 ((a0.size:Int) - (a1.size:Int))) then (if (wrap64 ((a0.size:Int) - (a1.size:Int)))≤(a0.size:Int) then (some ((a0.extract ((wrap64 ((a0.size:Int) - (a1.size:Int))):Int).toNat a0.size).toList == a1.toList)) else (none)) else (none)) else (some false)
set_option maxHeartbeats 8000000 in
set_option maxRecDepth 100000 in
theorem stringslite_HasSuffix.calls (a0:ByteArray) (a1:ByteArray) (r:Bool) (w:World) (h:stringslite_HasSuffix.f a0 a1=some r) :
  Calls Try.prog 87 #[.string a0,.string a1] w fun e w'=>e=.returned (.bool r)∧Drawn0 w w':=by
 have H:(if (a0.size:Int) ≥ (a1.size:Int) then (if 0≤(wrap64 ((a0.size:Int) - (a1.size:Int))) then (if (wrap64 ((a0.size:Int) - (a1.size:Int)))≤(a0.size:Int) then (some ((a0.extract ((wrap64 ((a0.size:Int) - (a1.size:Int))):Int).toNat a0.size).toList == a1.toList)) else (none)) else (none)) else (some false))=some r:=h
 clear h
 by_cases c3:(a0.size:Int) ≥ (a1.size:Int)
 ·rw [if_pos c3] at H
  have c3b0:decide ((a1.size:Int)≤(a0.size:Int))=true:=decide_eq_true c3
  have c3b1:decide (a1.size≤a0.size)=true:=decide_eq_true (Int.ofNat_le.mp c3)
  clear c3
  obtain ⟨ji4,hji4⟩:∃ j_:Int,(wrap64 ((a0.size:Int) - (a1.size:Int)))=j_:=⟨_,rfl⟩
  replace H:(if 0≤(ji4) then (if (ji4)≤(a0.size:Int) then (some ((a0.extract ((ji4):Int).toNat a0.size).toList == a1.toList)) else (none)) else (none))=some r:=by first|(rw [hji4] at H;exact H)|(simp only [hji4] at H ⊢;exact H)
  have hji4w:(IntKind.i64.wrap ((a0.size:Int) - (a1.size:Int)))=ji4:=(i64_w _).trans hji4
  by_cases c5:0≤(ji4)
  ·rw [if_pos c5] at H
   have c5b0:=eq_true c5
   have c5b1:decide (0≤(ji4))=true:=decide_eq_true c5
   clear c5
   by_cases c6:(ji4)≤(a0.size:Int)
   ·rw [if_pos c6] at H
    have c6b0:=eq_true c6
    have c6b1:decide ((ji4)≤(a0.size:Int))=true:=decide_eq_true c6
    clear c6
    obtain rfl:=Option.some.inj H
    go_enter Try.func87,Try.ntmps87
    go_wp2
    go_ret
    exact ⟨by first|rfl|(simp;done)|(simp only [← hji4]<;>(first|rfl|simp))|(simp [*];done),by repeat (first|exact Drawn0.refl _|apply Drawn0.step)⟩
   ·rw [if_neg c6] at H
    exact absurd H (by simp)
  ·rw [if_neg c5] at H
   exact absurd H (by simp)
 ·rw [if_neg c3] at H
  have c3b0:decide ((a1.size:Int)≤(a0.size:Int))=false:=decide_eq_false c3
  have c3b1:decide (a1.size≤a0.size)=false:=decide_eq_false (fun h=>c3 (Int.ofNat_le.mpr h))
  clear c3
  obtain rfl:=Option.some.inj H
  go_enter Try.func87,Try.ntmps87
  go_wp2
  go_ret
  exact ⟨by first|rfl|(simp;done)|(simp [*];done),by repeat (first|exact Drawn0.refl _|apply Drawn0.step)⟩

end Go.Proofs.Ytneadgionjlicaa.P

namespace Go.Proofs.Ytneadgionjlicaa.P
open Go.RowKit Go.Proofs.YtneadgionjlicaaW.PrintWords Go.Proofs.YtneadgionjlicaaW.PrintLast Go.Proofs.YtneadgionjlicaaW.PrintMore
attribute [local go_sem] max2_int min2_int max_two min_two max_three min_three max_four min_four   -- for this text's walks alone
set_option linter.unusedVariables false
set_option linter.unusedSimpArgs false

/-! ### stringslite_CutSuffix: function 76 -/
def stringslite_CutSuffix.f (a0:ByteArray) (a1:ByteArray):Option (ByteArray × Bool):=(stringslite_HasSuffix.f a0 a1).bind fun t142=>(if t142=true then (if 0≤(wrap64 ((a0.size:Int) - (a1.size:Int))) then (if (wrap64 ((a0.size:Int) - (a1.size:Int)))≤(a0.size:Int) then (some (a0.extract 0 ((wrap64 ((a0.size:Int) - (a1.size:Int))):Int).toNat,true)) else (none)) else (none)) else (some (a0,false)))
set_option maxHeartbeats 8000000 in
set_option maxRecDepth 100000 in
theorem stringslite_CutSuffix.calls (a0:ByteArray) (a1:ByteArray) (r1:ByteArray) (r2:Bool) (w:World) (h:stringslite_CutSuffix.f a0 a1=some (r1,r2)) :
  Calls Try.prog 76 #[.string a0,.string a1] w fun e w'=>e=.returned (.tuple #[.string r1,.bool r2])∧Drawn0 w w':=by
 have H:((stringslite_HasSuffix.f a0 a1).bind fun t142=>(if t142=true then (if 0≤(wrap64 ((a0.size:Int) - (a1.size:Int))) then (if (wrap64 ((a0.size:Int) - (a1.size:Int)))≤(a0.size:Int) then (some (a0.extract 0 ((wrap64 ((a0.size:Int) - (a1.size:Int))):Int).toNat,true)) else (none)) else (none)) else (some (a0,false))))=some (r1,r2):=h
 clear h
 replace H:=Option.bind_eq_some_iff.mp H
 obtain ⟨t142,A30,H⟩:=H
 replace H:(if t142=true then (if 0≤(wrap64 ((a0.size:Int) - (a1.size:Int))) then (if (wrap64 ((a0.size:Int) - (a1.size:Int)))≤(a0.size:Int) then (some (a0.extract 0 ((wrap64 ((a0.size:Int) - (a1.size:Int))):Int).toNat,true)) else (none)) else (none)) else (some (a0,false)))=some (r1,r2):=H
 have A3:=Aside0.mk A30
 clear A30
 by_cases c4:t142=true
 ·subst c4
  have H1:(if 0≤(wrap64 ((a0.size:Int) - (a1.size:Int))) then (if (wrap64 ((a0.size:Int) - (a1.size:Int)))≤(a0.size:Int) then (some (a0.extract 0 ((wrap64 ((a0.size:Int) - (a1.size:Int))):Int).toNat,true)) else (none)) else (none))=some (r1,r2):=by rw [if_pos rfl] at H;exact H
  clear H
  have H:=H1
  clear H1
  obtain ⟨ji5,hji5⟩:∃ j_:Int,(wrap64 ((a0.size:Int) - (a1.size:Int)))=j_:=⟨_,rfl⟩
  replace H:(if 0≤(ji5) then (if (ji5)≤(a0.size:Int) then (some (a0.extract 0 ((ji5):Int).toNat,true)) else (none)) else (none))=some (r1,r2):=by first|(rw [hji5] at H;exact H)|(simp only [hji5] at H ⊢;exact H)
  (try rw [hji5] at A3)
  have hji5w:(IntKind.i64.wrap ((a0.size:Int) - (a1.size:Int)))=ji5:=(i64_w _).trans hji5
  by_cases c6:0≤(ji5)
  ·rw [if_pos c6] at H
   have c6b0:=eq_true c6
   have c6b1:decide (0≤(ji5))=true:=decide_eq_true c6
   clear c6
   by_cases c7:(ji5)≤(a0.size:Int)
   ·rw [if_pos c7] at H
    have c7b0:=eq_true c7
    have c7b1:decide ((ji5)≤(a0.size:Int))=true:=decide_eq_true c7
    clear c7
    simp only [Option.some.injEq,Prod.mk.injEq] at H
    obtain ⟨rfl,rfl⟩:=H
    go_enter Try.func76,Try.ntmps76
    go_wp2_with (first|((with_reducible refine gate_callee (f:=87) rfl ?_);refine goesL_ (some 8) rfl rfl Try.func87 (by kernel_rfl) rfl #[.string a0,.string a1] rfl (by (try simp only [List.map_toArray,List.map_cons,List.map_nil]);first|done|rfl|(simp only [List.length_drop,List.length_take];rfl)) ?_;(with_reducible refine (stringslite_HasSuffix.calls a0 a1 true _ A3.out).mono ?_);rintro e w' ⟨rfl,⟨nd,rfl⟩⟩;refine ⟨_,rfl,?_⟩))
    go_ret2
    exact ⟨by first|rfl|(simp;done)|(simp only [← hji5]<;>(first|rfl|simp))|(simp [*];done),by repeat (first|exact Drawn0.refl _|apply Drawn0.step)⟩
   ·rw [if_neg c7] at H
    exact absurd H (by simp)
  ·rw [if_neg c6] at H
   exact absurd H (by simp)
 ·replace c4:=Bool.eq_false_iff.mpr c4
  subst c4
  have H1:(some (a0,false))=some (r1,r2):=by rw [if_neg (show ¬ (false=true) by decide)] at H;exact H
  clear H
  have H:=H1
  clear H1
  simp only [Option.some.injEq,Prod.mk.injEq] at H
  obtain ⟨rfl,rfl⟩:=H
  go_enter Try.func76,Try.ntmps76
  go_wp2_with (first|((with_reducible refine gate_callee (f:=87) rfl ?_);refine goesL_ (some 8) rfl rfl Try.func87 (by kernel_rfl) rfl #[.string a0,.string a1] rfl (by (try simp only [List.map_toArray,List.map_cons,List.map_nil]);first|done|rfl|(simp only [List.length_drop,List.length_take];rfl)) ?_;(with_reducible refine (stringslite_HasSuffix.calls a0 a1 false _ A3.out).mono ?_);rintro e w' ⟨rfl,⟨nd,rfl⟩⟩;refine ⟨_,rfl,?_⟩))
  go_ret2
  exact ⟨by first|rfl|(simp;done)|(simp [*];done),by repeat (first|exact Drawn0.refl _|apply Drawn0.step)⟩

end Go.Proofs.Ytneadgionjlicaa.P

namespace Go.Proofs.Ytneadgionjlicaa.P
open Go.RowKit Go.Proofs.YtneadgionjlicaaW.PrintWords Go.Proofs.YtneadgionjlicaaW.PrintLast Go.Proofs.YtneadgionjlicaaW.PrintMore
attribute [local go_sem] max2_int min2_int max_two min_two max_three min_three max_four min_four   -- for this text's walks alone
set_option linter.unusedVariables false
set_option linter.unusedSimpArgs false

/-! ### strings_CutSuffix: function 56 -/
def strings_CutSuffix.f (a0:ByteArray) (a1:ByteArray):Option (ByteArray × Bool):=(stringslite_CutSuffix.f a0 a1).bind fun bt143=>(some (bt143.1,bt143.2))
set_option maxHeartbeats 8000000 in
set_option maxRecDepth 100000 in
theorem strings_CutSuffix.calls (a0:ByteArray) (a1:ByteArray) (r1:ByteArray) (r2:Bool) (w:World) (h:strings_CutSuffix.f a0 a1=some (r1,r2)) :
  Calls Try.prog 56 #[.string a0,.string a1] w fun e w'=>e=.returned (.tuple #[.string r1,.bool r2])∧Drawn0 w w':=by
 have H:((stringslite_CutSuffix.f a0 a1).bind fun bt143=>(some (bt143.1,bt143.2)))=some (r1,r2):=h
 clear h
 replace H:=Option.bind_eq_some_iff.mp H
 obtain ⟨⟨t143,t144⟩,A30,H⟩:=H
 replace H:(some (t143,t144))=some (r1,r2):=H
 have A3:=Aside0.mk A30
 clear A30
 simp only [Option.some.injEq,Prod.mk.injEq] at H
 obtain ⟨rfl,rfl⟩:=H
 go_enter Try.func56,Try.ntmps56
 go_wp2_with (first|((with_reducible refine gate_callee (f:=76) rfl ?_);refine goesL_ (some 8) rfl rfl Try.func76 (by kernel_rfl) rfl #[.string a0,.string a1] rfl (by (try simp only [List.map_toArray,List.map_cons,List.map_nil]);first|done|rfl|(simp only [List.length_drop,List.length_take];rfl)) ?_;(with_reducible refine (stringslite_CutSuffix.calls a0 a1 t143 t144 _ A3.out).mono ?_);rintro e w' ⟨rfl,⟨nd,rfl⟩⟩;refine ⟨_,rfl,?_⟩))
 go_ret2
 exact ⟨by first|rfl|(simp;done)|(simp [*];done),by repeat (first|exact Drawn0.refl _|apply Drawn0.step)⟩

end Go.Proofs.Ytneadgionjlicaa.P

-- The plain words of texts of signs.
namespace Go.Proofs.Ytneadgionjlicaa.P
open Go.RowKit Go.Proofs.YtneadgionjlicaaW.PrintWords Go.Proofs.YtneadgionjlicaaW.PrintLast Go.Proofs.YtneadgionjlicaaW.PrintMore
set_option linter.unusedVariables false
set_option linter.unusedSimpArgs false
theorem w64 {x : Int} (h0 : -9223372036854775808 ≤ x) (h1 : x ≤ 9223372036854775807) : wrap64 x = x := by unfold wrap64; omega
theorem wsucc {i : Nat} (h : i ≤ 4611686018427387904) : wrap64 ((i : Int) + 1) = ((i + 1 : Nat) : Int) := by rw [w64 (by omega) (by omega)]; omega
theorem wadd {i j : Nat} (h : i + j ≤ 4611686018427387904) : wrap64 ((i : Int) + (j : Int)) = ((i + j : Nat) : Int) := by rw [w64 (by omega) (by omega)]; omega
theorem wsub {i j : Nat} (h : j ≤ i) (h2 : i ≤ 4611686018427387904) : wrap64 ((i : Int) - (j : Int)) = ((i - j : Nat) : Int) := by rw [w64 (by omega) (by omega)]; omega
theorem wpred {i : Nat} (h : 1 ≤ i) (h2 : i ≤ 4611686018427387904) : wrap64 ((i : Int) - 1) = ((i - 1 : Nat) : Int) := by rw [w64 (by omega) (by omega)]; omega
theorem wmul {i j : Nat} (h : i * j ≤ 4611686018427387904) : wrap64 ((i : Int) * (j : Int)) = ((i * j : Nat) : Int) := by
  have e : (i : Int) * (j : Int) = ((i * j : Nat) : Int) := (Int.natCast_mul i j).symm
  rw [e, w64 (by omega) (by omega)]
theorem tmod_nat (i j : Nat) : Int.tmod (i : Int) (j : Int) = ((i % j : Nat) : Int) := by rw [Int.tmod_eq_emod_of_nonneg (by omega)]; rfl
theorem tdiv_nat (i j : Nat) : Int.tdiv (i : Int) (j : Int) = ((i / j : Nat) : Int) := by rw [Int.tdiv_eq_ediv_of_nonneg (by omega)]; rfl
theorem rdOf_nat (l : List Bool) (i : Nat) : rdOf false l (i : Int) = l.getD i false := by simp [rdOf]
/-- The signs that a text of bytes tells. -/
def bitsL : List UInt8 → Option (List Bool)
  | [] => some []
  | c :: cs => if c = 48 then (bitsL cs).map (false :: ·) else if c = 49 then (bitsL cs).map (true :: ·) else none

def chrs (s : ByteArray) : List UInt8 := s.data.toList
theorem chrs_length (s : ByteArray) : (chrs s).length = s.size := by simp [chrs]
theorem bt_chr (s : ByteArray) {i : Nat} (h : i < s.size) : bt s (i : Int) = (((chrs s)[i]'(by rw [chrs_length]; exact h)).toNat : Int) := by
  unfold bt
  rw [dif_pos (by simpa using h)]
  simp [chrs, ByteArray.getElem_eq_getElem_data]
theorem u8_eq {c : UInt8} {n : Nat} (hn : n < 256) : ((c.toNat : Int) = (n : Int)) ↔ c = UInt8.ofNat n := by
  constructor
  · intro h
    apply UInt8.toNat_inj.1
    rw [UInt8.toNat_ofNat_of_lt' hn]; omega
  · rintro rfl
    rw [UInt8.toNat_ofNat_of_lt' hn]

theorem chrs_extract (s : ByteArray) (a b : Nat) : chrs (s.extract a b) = ((chrs s).take b).drop a := by
  simp [chrs, ByteArray.data_extract, List.drop_take]
theorem chrs_inj {s t : ByteArray} (h : chrs s = chrs t) : s = t := by
  cases s; cases t; simp only [chrs] at h; congr 1; exact Array.toList_inj.1 h
theorem bt_eq (s : ByteArray) {i : Nat} (h : i < s.size) (n : Nat) (hn : n < 256) : (bt s (i : Int) = (n : Int)) ↔ (chrs s)[i]'(by rw [chrs_length]; exact h) = UInt8.ofNat n := by
  rw [bt_chr s h]; exact u8_eq hn
theorem bt_eq' (s : ByteArray) {i : Nat} (h : i < s.size) (n : Nat) (hn : n < 256) : (bt s (i : Int) = (n : Int)) ↔ (chrs s)[i]? = some (UInt8.ofNat n) := by
  rw [bt_eq s h n hn, List.getElem?_eq_getElem (by rw [chrs_length]; exact h)]; simp

/-- A sign as a byte. -/
def sgn (b : Bool) : UInt8 := if b then 49 else 48
/-- The text of a tail and a ring. -/
def textOf (t r : List Bool) : ByteArray := ⟨(t.map sgn ++ [40] ++ r.map sgn ++ [41]).toArray⟩
theorem chrs_textOf (t r : List Bool) : chrs (textOf t r) = t.map sgn ++ [40] ++ r.map sgn ++ [41] := rfl
def sgnI (b : Bool) : Int := if b then 49 else 48
theorem drop_getD {l : List Bool} {i : Nat} (h : i < l.length) : l.drop i = l.getD i false :: l.drop (i + 1) := by
  rw [List.drop_eq_getElem_cons h]; simp [List.getD_eq_getElem?_getD, h]
theorem drawn0_below {w w1 : World} (h : Drawn0 w w1) : Below w.heap.size w w1 := by
  obtain ⟨q, rfl⟩ := h
  exact pw_below_drewN (Below.refl _ _) q

end Go.Proofs.Ytneadgionjlicaa.P

-- impl.told writes signs as a text (a strings.Builder of its own).
namespace Go.Proofs.Ytneadgionjlicaa.P
open Go.RowKit Go.Proofs.YtneadgionjlicaaW.PrintWords Go.Proofs.YtneadgionjlicaaW.PrintLast Go.Proofs.YtneadgionjlicaaW.PrintMore
set_option linter.unusedVariables false
set_option linter.unusedSimpArgs false

def impl_told.f (l0 : List Bool) : Option ByteArray := if l0.length ≤ 70368744177664 then some ⟨(l0.map sgn).toArray⟩ else none

theorem builder_info : (Try.prog.info? 107).map (·.size) = some 2 := by kernel_rfl
theorem builder_lies : liesAt Try.prog Try.prog.depth 107 (2 / Try.prog.cellsOf 107) 0 107 1 = true := by kernel_rfl

set_option maxHeartbeats 4000000 in
set_option maxRecDepth 100000 in
theorem builder_copyCheck_used (b : Nat) (w : World) (h0 : w.cell? ⟨b, 0, none⟩ = some (.pointer (some ⟨b, 0, none⟩))) :
    Calls Try.prog 95 #[.pointer (some ⟨b, 0, none⟩)] w fun e w' => e = .returned (.tuple #[]) ∧ w' = w := by
  obtain ⟨j, hj, _⟩ := Option.map_eq_some_iff.1 builder_info
  go_enter Try.func95, Try.ntmps95
  go_wp2
  rw [Lib.run_neq_ptr_same w _ Try.underlying105 hj]
  go_wp2
  go_end0
  exact ⟨rfl, rfl⟩

set_option maxHeartbeats 4000000 in
set_option maxRecDepth 100000 in
theorem builder_copyCheck_fresh (b : Nat) (w : World) (h0 : w.cell? ⟨b, 0, none⟩ = some (.pointer none)) (hsh : w.shape? b = some (107, 2)) (hfz : w.frozen? ⟨b, 0, none⟩ = false) :
    Calls Try.prog 95 #[.pointer (some ⟨b, 0, none⟩)] w fun e w' => e = .returned (.tuple #[]) ∧ w' = w.setCell ⟨b, 0, none⟩ (.pointer (some ⟨b, 0, none⟩)) := by
  obtain ⟨j, hj, hjs⟩ := Option.map_eq_some_iff.1 builder_info
  go_enter Try.func95, Try.ntmps95
  go_wp2
  rw [Lib.run_to_unsafe w ⟨b, 0, none⟩ Try.underlying105 Try.underlying118 hj (by rw [hjs]; decide) hsh (Nat.zero_lt_succ 1)]
  simp only [Result.andThen]
  rw [Oper.upon_value]
  go_wp2
  rw [run_callFunc_extern Try.func98 (by kernel_rfl) (by kernel_rfl) (by kernel_rfl) (e := Extern.AbiNoEscape.same) (by kernel_rfl)]
  rw [Lib.run_noEscape]
  simp only [Result.andThen]
  rw [Oper.upon_value]
  go_wp2
  rw [Lib.run_from_unsafe w ⟨b, 0, none⟩ Try.underlying118 Try.underlying105 hj hsh builder_lies]
  simp only [Result.andThen]
  rw [Oper.upon_value]
  go_wp2
  go_end0
  exact ⟨rfl, rfl⟩

theorem builder_copyCheck (B b : Nat) (bs : List Value) (w : World) (h : Lib.IsBuilder 107 5 B b bs w) :
    Calls Try.prog 95 #[.pointer (some ⟨b, 0, none⟩)] w fun e w' => e = .returned (.tuple #[]) ∧ (Lib.BuilderAt 107 5 B b (.pointer (some ⟨b, 0, none⟩)) bs w' ∧ Below B w w') := by
  rcases h with h | h
  · refine (builder_copyCheck_fresh b w h.cell0 h.shape h.frozen0).mono ?_
    rintro e w' ⟨rfl, rfl⟩
    exact ⟨rfl, h.used _, (Below.refl B w).setCell (p := ⟨b, 0, none⟩) h.1 _⟩
  · refine (builder_copyCheck_used b w h.cell0).mono ?_
    rintro e w' ⟨rfl, rfl⟩
    exact ⟨rfl, h, Below.refl B _⟩

theorem byte_info : (Try.prog.info? 5).map (fun i => (i.zero, i.size, i.bytes)) = some (some (.int .u8 0), 1, 1) := by kernel_rfl

set_option maxHeartbeats 4000000 in
set_option maxRecDepth 100000 in
theorem builder_WriteByte (B b : Nat) (bs : List Value) (c : Int) (w : World) (h : Lib.IsBuilder 107 5 B b bs w) (hlen : bs.length + 1 ≤ 140737488355328) (hBw : B ≤ w.heap.size) :
    Calls Try.prog 89 #[.pointer (some ⟨b, 0, none⟩), .int .u8 c] w fun e w' => e = .returned .nilIface ∧ (Lib.BuilderAt 107 5 B b (.pointer (some ⟨b, 0, none⟩)) (bs ++ [.int .u8 c]) w' ∧ Below B w w') := by
  obtain ⟨i0, hi, hz0, hz1, hz2⟩ := info_parts byte_info
  go_enter Try.func89, Try.ntmps89
  go_wp2_with (go_at_call 95; refine (builder_copyCheck B b bs _ h).mono ?_)
  rintro e w1 ⟨rfl, h1, hb1⟩
  obtain ⟨hB, v, hbk, hown, hne⟩ := h1
  have c0 : w1.cell? ⟨b, 0, none⟩ = some (.pointer (some ⟨b, 0, none⟩)) := by rw [Lib.cell_of_heap hbk]; rfl
  have c1 : w1.cell? ⟨b, 1, none⟩ = some v := by rw [Lib.cell_of_heap hbk]; rfl
  go_wp2_with (at_builtin; refine wpList_append_own _ rfl _ _ 22 rfl B 5 i0 (.int .u8 0) 1 1 Try.underlying22 hi hz0 hz1 hz2 rfl (by decide) _ _ _ rfl (hown.alloc _) ⟨w1.heap.size, 0, none⟩ 1 1 [.int .u8 c] rfl rfl ?c1 ?c2 ?c3 ?c4 ?c5 ?_)
  case c1 =>
    intro j u hj
    match j, hj with
    | 0, hj => simp at hj; subst hj; simp [Addr.add]
  case c2 => intro u hu; simp at hu; subst hu; rfl
  case c3 => unfold maxLen; omega
  case c4 => omega
  case c5 => have := hb1.size; simp; omega
  intro v' w2 hown' hgrow _
  have hlt : b < w1.heap.size := by
    rcases Nat.lt_or_ge b w1.heap.size with h' | h'
    · exact h'
    · simp [Array.getElem?_eq_none h'] at hbk
  have hb2 : w2.heap[b]? = some (.cells #[.pointer (some ⟨b, 0, none⟩), v] 107 (0, 0)) := by
    rw [hgrow.block b (by simp; omega) (fun e => hne e.symm), Lib.alloc_old w1 _ b hlt]
    exact hbk
  have d0 : w2.cell? ⟨b, 0, none⟩ = some (.pointer (some ⟨b, 0, none⟩)) := by rw [Lib.cell_of_heap hb2]; rfl
  have d1 : w2.cell? ⟨b, 1, none⟩ = some v := by rw [Lib.cell_of_heap hb2]; rfl
  have f1 : w2.frozen? ⟨b, 1, none⟩ = false := Lib.frozen_of_heap hb2 1
  obtain ⟨g, cap, rfl⟩ : ∃ g cap, v' = .slice (some ⟨g, 0, none⟩) (bs.length + 1) cap := by
    rcases hown'.2 with ⟨_, h0⟩ | ⟨g, cap, cur, hv, _⟩
    · omega
    · exact ⟨g, cap, hv⟩
  go_wp2
  go_ret
  refine ⟨rfl, ?_, ?_⟩
  · exact Lib.BuilderAt.put (T := 107) (e := 5) hB hb2 (bs' := bs ++ [.int .u8 c]) (by simpa using hown') (by decide)
  · exact ((hb1.alloc (by have := hb1.size; omega) _).grown hgrow (by have := hb1.size; simp; omega) (fun k hk => (hown.lt k hk).1)).setCell (p := ⟨b, 1, none⟩) hB _

theorem reads_bool {w : World} {A : Option Addr} {n : Nat} {xs : List Bool} (h : Kd.C Kd.bool w A n xs) (i : Nat) (hi : i < n) : ∃ ad, A = some ad ∧ w.cell? (ad.add i) = some (.bool (xs.getD i false)) := by
  have h2 := Kd.reads_of_C (d := false) (h1 := fun _ => rfl) h
  obtain ⟨ad, e, hc⟩ := h2.2.2 (by omega)
  exact ⟨ad, e, hc i hi⟩

theorem byteCells_sgn (l : List Bool) : Lib.byteCells (l.map sgn) = l.map fun b => Value.int .u8 (if b then 49 else 48) := by
  simp only [Lib.byteCells, List.map_map]
  apply List.map_congr_left
  intro b _
  cases b <;> rfl

theorem take_cells {l : List Bool} {k : Nat} {b : Bool} (h : k < l.length) (hb : l.getD k false = b) : Lib.byteCells ((l.take (k + 1)).map sgn) = Lib.byteCells ((l.take k).map sgn) ++ [.int .u8 (if b then 49 else 48)] := by
  have e : l[k] = b := by rw [← hb, List.getD_eq_getElem?_getD, List.getElem?_eq_getElem h]; rfl
  rw [List.take_succ_eq_append_getElem h, List.map_append, e]
  simp only [Lib.byteCells, List.map_append, List.map_cons, List.map_nil]
  cases b <;> rfl

set_option maxHeartbeats 8000000 in
set_option maxRecDepth 100000 in
theorem impl_told.calls (A0 : Option Addr) (c0 : Nat) (l0 : List Bool) (r : ByteArray) (w : World) (hr0 : Kd.C Kd.bool w A0 l0.length l0) (hc0 : l0.length ≤ c0) (h : impl_told.f l0 = some r) :
    Calls Try.prog 85 #[.slice A0 l0.length c0] w fun e w' => e = .returned (.string r) ∧ Below w.heap.size w w' := by
  have hlen : l0.length ≤ 70368744177664 := by
    unfold impl_told.f at h
    split at h
    · assumption
    · cases h
  have hr : (⟨(l0.map sgn).toArray⟩ : ByteArray) = r := by
    unfold impl_told.f at h
    rw [if_pos hlen] at h
    injection h
  have HR := Aside0.mk hr0
  have HX := Aside0.mk hr
  have HL := Aside0.mk hlen
  clear hr0 h hc0 hr
  go_enter Try.func85, Try.ntmps85
  go_wp2
  go_loopg [8] l0.length (fun gg s8 wr => ∃ k : Nat, k ≤ l0.length ∧ l0.length - k ≤ gg ∧ s8 = .int .i64 k ∧ Aside0 (Lib.IsBuilder 107 5 w.heap.size w.heap.size (Lib.byteCells ((l0.take k).map sgn)) wr) ∧ Aside0 (Below w.heap.size w wr))
  case atStart =>
    refine ⟨0, Nat.zero_le _, by omega, rfl, ⟨.inl ⟨Nat.le_refl _, .slice none 0 0, ?_, ?_, ?_⟩⟩, ⟨below_alloc (Below.refl _ _) _⟩⟩
    · exact heap_alloc_new _ _
    · exact World.ownsRow_nil _ _ _ _
    · simp [Value.ownBlock]
  case round =>
    obtain ⟨k, hk, hgg, rfl, HI, HB⟩ := hrel
    by_cases hlt : k < l0.length
    · obtain ⟨ad, rfl, hcell⟩ := reads_bool (Kd.C_below HR.out HB.out) k hlt
      have hw := builder_WriteByte w.heap.size w.heap.size _ (if l0.getD k false then 49 else 48) wr HI.out (by rw [Lib.byteCells_length]; simp; have := HL.out; omega) HB.out.size
      have hB := HB
      clear HB HI
      cases hv : l0.getD k false with
      | true =>
        rw [hv] at hcell hw
        simp only [if_true] at hw
        have HV := Aside0.mk hv
        clear hv
        go_wp2_with (go_at_call 89; refine hw.mono ?_; rintro e w1 ⟨rfl, hi, hb⟩)
        go_roundg (l0.length - (k + 1))
        case measure => omega
        case rel =>
          refine ⟨k + 1, by omega, by omega, by go_num, ⟨.inr ?_⟩, ⟨hB.out.trans hb⟩⟩
          rw [take_cells hlt HV.out]
          exact hi
      | false =>
        rw [hv] at hcell hw
        simp only [Bool.false_eq_true, if_false] at hw
        have HV := Aside0.mk hv
        clear hv
        go_wp2_with (go_at_call 89; refine hw.mono ?_; rintro e w1 ⟨rfl, hi, hb⟩)
        go_roundg (l0.length - (k + 1))
        case measure => omega
        case rel =>
          refine ⟨k + 1, by omega, by omega, by go_num, ⟨.inr ?_⟩, ⟨hB.out.trans hb⟩⟩
          rw [take_cells hlt HV.out]
          exact hi
    · have e : l0.take k = l0 := List.take_of_length_le (by omega)
      rw [e] at HI
      have hs := Try.Builder_String_any w.heap.size w.heap.size (l0.map sgn) wr HI.out HB.out.size
      rw [HX.out] at hs
      have hB := HB
      clear HB HI HR e
      go_wp2_with (go_at_call 90; refine hs.mono ?_; rintro e w1 ⟨rfl, hb⟩)
      go_ret
      exact ⟨rfl, hB.out.trans hb⟩
end Go.Proofs.Ytneadgionjlicaa.P

-- stringslite.Index at a separator of one byte: the place of that byte.
namespace Go.Proofs.Ytneadgionjlicaa.P
open Go.RowKit Go.Proofs.YtneadgionjlicaaW.PrintWords Go.Proofs.YtneadgionjlicaaW.PrintLast Go.Proofs.YtneadgionjlicaaW.PrintMore
set_option linter.unusedVariables false
set_option linter.unusedSimpArgs false

def stringslite_Index.f (a0 a1 : ByteArray) : Option Int := if a1.size = 1 then some (if (chrs a0).findIdx (· == (chrs a1).headD 0) < a0.size then (((chrs a0).findIdx (· == (chrs a1).headD 0) : Nat) : Int) else -1) else none

theorem indexByte_find (c : UInt8) : ∀ l : List UInt8, Lib.indexByte l c = if l.findIdx (· == c) < l.length then ((l.findIdx (· == c) : Nat) : Int) else -1
  | [] => rfl
  | b :: l => by
    simp only [Lib.indexByte, List.findIdx_cons, List.length_cons]
    rw [indexByte_find c l]
    have hle := l.findIdx_le_length (p := (· == c))
    generalize l.findIdx (· == c) = p at hle ⊢
    by_cases h : (b == c) = true
    · simp [h]
    · simp only [h, Bool.false_eq_true, if_false, cond_false]
      by_cases h2 : p < l.length
      · rw [if_pos h2, if_neg (by simp), if_pos (by omega)]; omega
      · rw [if_neg h2, if_pos (by decide), if_neg (by omega)]

set_option maxHeartbeats 4000000 in
set_option maxRecDepth 100000 in
theorem stringslite_IndexByte.calls (s : ByteArray) (c : Int) (w : World) :
    Calls Try.prog 91 #[.string s, .int .u8 c] w fun e w' => e = .returned (.int .i64 (Lib.indexByte s.data.toList c.toNat.toUInt8)) ∧ w' = w := by
  go_enter Try.func91, Try.ntmps91
  go_wp2
  rw [run_callFunc_extern Try.func96 (by kernel_rfl) (by kernel_rfl) (by kernel_rfl) (e := Extern.BytealgIndexByte.indexByte) (by kernel_rfl), Lib.run_indexByteString]
  simp only [Result.andThen]
  rw [Oper.upon_value]
  go_wp2
  go_ret
  exact ⟨rfl, rfl⟩

set_option maxHeartbeats 4000000 in
set_option maxRecDepth 100000 in
theorem stringslite_Index.one (a0 : ByteArray) (c : UInt8) (w : World) :
    Calls Try.prog 86 #[.string a0, .string ⟨#[c]⟩] w fun e w' => e = .returned (.int .i64 (Lib.indexByte a0.data.toList c)) ∧ w' = w := by
  by_cases hc : ([c] == a0.toList) = true
  · go_enter Try.func86, Try.ntmps86
    go_wp2
    go_ret
    refine ⟨?_, rfl⟩
    have e : a0.data.toList = [c] := by rw [← ByteArray.toList_eq]; exact (beq_iff_eq.1 hc).symm
    rw [e]; simp [Lib.indexByte]
  · replace hc : ([c] == a0.toList) = false := by simpa using hc
    go_enter Try.func86, Try.ntmps86
    go_wp2_with (go_at_call 91; refine (stringslite_IndexByte.calls _ _ _).mono ?_; rintro e w' ⟨rfl, rfl⟩)
    go_ret
    exact ⟨by simp; rfl, rfl⟩

theorem stringslite_Index.calls (a0 : ByteArray) (a1 : ByteArray) (r : Int) (w : World) (h : stringslite_Index.f a0 a1 = some r) : Calls Try.prog 86 #[.string a0, .string a1] w fun e w' => e = .returned (.int .i64 r) ∧ Drawn0 w w' := by
  unfold stringslite_Index.f at h
  by_cases h1 : a1.size = 1
  · rw [if_pos h1] at h
    obtain ⟨c, rfl⟩ : ∃ c, a1 = ⟨#[c]⟩ := by
      cases a1 with
      | mk d =>
        have : d.size = 1 := h1
        obtain ⟨c, rfl⟩ := Array.size_eq_one_iff.1 this
        exact ⟨c, rfl⟩
    have e : Lib.indexByte a0.data.toList c = r := by
      rw [indexByte_find]
      injection h
    refine (stringslite_Index.one a0 c w).mono ?_
    rintro e' w' ⟨rfl, rfl⟩
    exact ⟨by rw [e], ⟨0, rfl⟩⟩
  · rw [if_neg h1] at h; cases h
end Go.Proofs.Ytneadgionjlicaa.P
