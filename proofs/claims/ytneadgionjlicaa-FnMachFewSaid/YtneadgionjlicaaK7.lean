/- What these laws reach, joined by a program of this session: contracts (written by that program over the kit's print, or by hand) and plain lemmas. -/
import Derived.Test.YtneadgionjlicaaK1
import Derived.Test.YtneadgionjlicaaK2
import Derived.Test.YtneadgionjlicaaK3
import Derived.Test.YtneadgionjlicaaK4
import Derived.Test.YtneadgionjlicaaK5
import Derived.Test.YtneadgionjlicaaK6
open Go.Proofs.YtneadgionjlicaaW.PrintWords renaming below_alloc → yA, pw_below_drewN → yB, below_drew1 → yC, below_set → yD, blk_drewN → yE, blk_drew → yF, blk_alloc → yG, below_step → yP, below_size → yQ
open Go.Proofs.YtneadgionjlicaaW.PrintWords.Kd renaming R_alloc → yH, R_drewN → yI, R_drew → yJ
open List renaming setIfInBounds_toArray → yK, set_cons_zero → yL, set_cons_succ → yM
namespace Go.Proofs.Ytneadgionjlicaa.P
open Go.RowKit Go.Proofs.YtneadgionjlicaaW.PrintWords Go.Proofs.YtneadgionjlicaaW.PrintLast Go.Proofs.YtneadgionjlicaaW.PrintMore
attribute [local go_sem] max2_int min2_int max_two min_two max_three min_three max_four min_four   -- for this text's walks alone
set_option linter.unusedVariables false
set_option linter.unusedSimpArgs false

/-! ### impl_tidied: function 72 -/
def impl_tidied.f (k:Nat) (a0:ByteArray):Option (List Bool × List Bool × Bool):=(impl_setOf.f k a0).bind fun bt457=>(if bt457.2.2=true then ((impl_set_tidy.f k bt457.1 bt457.2.1).bind fun bt465=>(some (bt465.1,bt465.2,true))) else (some (([]:List Bool),([]:List Bool),false)))
theorem impl_tidied.mono:∀ a0 k,LeO (impl_tidied.f k a0) (impl_tidied.f (k+1) a0):=by
 intro a0 k
 unfold impl_tidied.f
 repeat' first
   | (with_reducible exact impl_setOf.mono _ _)
   | (with_reducible exact impl_set_tidy.mono _ _ _)
   | (with_reducible exact LeO.refl _)
   | (with_reducible exact LeO.none _)
   | (with_reducible refine LeO.ite ?_ ?_)
   | (with_reducible refine LeO.bind ?_ (fun _=>?_))
   | exact impl_setOf.mono _ _
   | exact impl_set_tidy.mono _ _ _
   | exact LeO.none _
   | refine LeO.ite ?_ ?_
   | refine LeO.bind ?_ (fun _=>?_)
set_option maxHeartbeats 8000000 in
set_option maxRecDepth 100000 in
theorem impl_tidied.calls (k:Nat) (a0:ByteArray) (r1:List Bool) (r2:List Bool) (r3:Bool) (w:World) (h:impl_tidied.f k a0=some (r1,r2,r3)) :
  Calls Try.prog 72 #[.string a0] w fun e w'=>∃ v0_ v1_:Value,e=.returned (.tuple #[.agg #[v0_,v1_],.bool r3])∧Kd.R Kd.bool 4 w' w.heap.size (fun k_=>some k_≠(v1_:Value).ownBlock) v0_ r1∧Kd.R Kd.bool 4 w' w.heap.size (fun k_=>some k_≠(v0_:Value).ownBlock) v1_ r2∧Below w.heap.size w w':=by
 have hu48:=Try.underlying48
 have HB:=Aside0.mk (Below.refl w.heap.size w)
 have H:((impl_setOf.f k a0).bind fun bt457=>(if bt457.2.2=true then ((impl_set_tidy.f k bt457.1 bt457.2.1).bind fun bt465=>(some (bt465.1,bt465.2,true))) else (some (([]:List Bool),([]:List Bool),false))))=some (r1,r2,r3):=h
 clear h
 replace H:=Option.bind_eq_some_iff.mp H
 obtain ⟨⟨t457,t460,t463⟩,A20,H⟩:=H
 replace H:(if t463=true then ((impl_set_tidy.f k t457 t460).bind fun bt465=>(some (bt465.1,bt465.2,true))) else (some (([]:List Bool),([]:List Bool),false)))=some (r1,r2,r3):=H
 have A2:=Aside0.mk A20
 clear A20
 by_cases c3:t463=true
 ·subst c3
  have H1:((impl_set_tidy.f k t457 t460).bind fun bt465=>(some (bt465.1,bt465.2,true)))=some (r1,r2,r3):=by rw [if_pos rfl] at H;exact H
  clear H
  have H:=H1
  clear H1
  replace H:=Option.bind_eq_some_iff.mp H
  obtain ⟨⟨t465,t468⟩,A40,H⟩:=H
  replace H:(some (t465,t468,true))=some (r1,r2,r3):=H
  have A4:=Aside0.mk A40
  clear A40
  simp only [Option.some.injEq,Prod.mk.injEq] at H
  obtain ⟨rfl,rfl,rfl⟩:=H
  go_enter Try.func72,Try.ntmps72
  go_wp2_with (first|((with_reducible refine gate_dst (N:=2) rfl ?_);refine box_event ?hg (N:=2) ?hd (cs:=#[.slice none 0 0,.slice none 0 0]) (t:=48) ?hr ?_;(case hd=>rfl);(case hg=>rfl);(case hr=>first|(go_simp;done)|(go_simp;rfl));intro gb456 hg w5 hbox hb;have n0_:=Aside0.mk (yP (by repeat (first|(with_reducible first|exact HB.out|apply yA|apply yB|apply yC)|exact HB.out)) hb);have n1_:=Aside0.mk (hbox);have n2_:=Aside0.mk ((by rw [hg];exact (yQ (by repeat (first|(with_reducible first|exact HB.out|apply yA|apply yB|apply yC)|exact HB.out))):w.heap.size≤gb456));have n3_:=Aside0.mk ((by rw [hg];exact (yQ (by repeat (first|(with_reducible first|exact HB.out|apply yA|apply yB|apply yC)|exact HB.out))):w.heap.size≤gb456));clear HB;have HB:=n0_;have BK456:=n1_;have GW456:=n2_;have GE456:=n3_;clear n0_ n1_ n2_ n3_;clear hb hbox hg)|((with_reducible refine gate_callee (f:=30) rfl ?_);refine goesL_ (some 8) rfl rfl Try.func30 (by kernel_rfl) rfl #[.string a0] rfl (by (try simp only [List.map_toArray,List.map_cons,List.map_nil]);first|done|rfl|(simp only [List.length_drop,List.length_take];rfl)) ?_;(with_reducible refine (impl_setOf.calls k a0 t457 t460 true _ A2.out).mono ?_);rintro e w6 ⟨v458,v461,rfl,ho0,ho1,hb⟩;refine ⟨_,rfl,?_⟩;have n0_:=Aside0.mk (Kd.R_lower ho0 (yQ (by repeat (first|(with_reducible first|exact HB.out|apply yA|apply yB|apply yC|refine yD ?_ GE456.out)|exact HB.out))));have n1_:=Aside0.mk (Kd.R_lower ho1 (yQ (by repeat (first|(with_reducible first|exact HB.out|apply yA|apply yB|apply yC|refine yD ?_ GE456.out)|exact HB.out))));have n2_:=Aside0.mk (blk_below (g:=gb456) (o:=.cells #[.slice none 0 0,.slice none 0 0] 48 (0,0)) (by (with_reducible repeat (first|refine yE ?_ _|refine yF ?_|refine yG ?_ _));exact BK456.out) hb);have n3_:=Aside0.mk (yP (by repeat (first|(with_reducible first|exact HB.out|apply yA|apply yB|apply yC|refine yD ?_ GE456.out)|exact HB.out)) hb);clear BK456;clear HB;have HO459:=n0_;have HO462:=n1_;have BK456:=n2_;have HB:=n3_;clear n0_ n1_ n2_ n3_;(try clear hb);(try clear hb2);(try clear hk);(try clear hi);(try clear ho0);(try clear ho1))|((with_reducible refine gate_dst (N:=4) rfl ?_);refine box_event ?hg (N:=4) ?hd (cs:=#[.slice none 0 0,.slice none 0 0]) (t:=48) ?hr ?_;(case hd=>rfl);(case hg=>rfl);(case hr=>first|(go_simp;done)|(go_simp;rfl));intro gb464 hg w7 hbox hb;have n0_:=Aside0.mk (Kd.R_below (by (with_reducible repeat (first|apply yH|apply yI|apply yJ));exact HO459.out) hb);have n1_:=Aside0.mk (Kd.R_below (by (with_reducible repeat (first|apply yH|apply yI|apply yJ));exact HO462.out) hb);have n2_:=Aside0.mk (blk_below (g:=gb456) (o:=.cells #[.slice none 0 0,.slice none 0 0] 48 (0,0)) (by (with_reducible repeat (first|refine yE ?_ _|refine yF ?_|refine yG ?_ _));exact BK456.out) hb);have n3_:=Aside0.mk (yP (by repeat (first|(with_reducible first|exact HB.out|apply yA|apply yB|apply yC|refine yD ?_ GE456.out)|exact HB.out)) hb);have n4_:=Aside0.mk (hbox);have n5_:=Aside0.mk ((by rw [hg];exact (yQ (by repeat (first|(with_reducible first|exact HB.out|apply yA|apply yB|apply yC|refine yD ?_ GE456.out)|exact HB.out))):w.heap.size≤gb464));have n6_:=Aside0.mk ((by rw [hg];exact (yQ (by repeat (first|(with_reducible first|exact HB.out|apply yA|apply yB|apply yC|refine yD ?_ GE456.out)|exact HB.out))):w.heap.size≤gb464));have n7_:=Aside0.mk ((by rw [hg];exact Nat.ne_of_lt (blk_lt (g:=gb456) (o:=.cells #[.slice none 0 0,.slice none 0 0] 48 (0,0)) (by (with_reducible repeat (first|refine yE ?_ _|refine yF ?_|refine yG ?_ _));exact BK456.out)):gb456≠gb464));have n8_:=Aside0.mk ((by rw [hg];exact Nat.ne_of_gt (blk_lt (g:=gb456) (o:=.cells #[.slice none 0 0,.slice none 0 0] 48 (0,0)) (by (with_reducible repeat (first|refine yE ?_ _|refine yF ?_|refine yG ?_ _));exact BK456.out)):gb464≠gb456));clear HO459;clear HO462;clear BK456;clear HB;have HO459:=n0_;have HO462:=n1_;have BK456:=n2_;have HB:=n3_;have BK464:=n4_;have GW464:=n5_;have GE464:=n6_;have NB456_464:=n7_;have NB464_456:=n8_;clear n0_ n1_ n2_ n3_ n4_ n5_ n6_ n7_ n8_;clear hb hbox hg;obtain ⟨Ao8,co8,eo8⟩:=Kd.R_slice HO459.out;subst eo8;have hnb9:=NB464_456.out;have hnc9:=NB456_464.out;have hcz10_0:w7.cell? ⟨gb464,0,none⟩=some (.slice none 0 0):=(blk_cell BK464.out 0).trans rfl;have hcz10_1:w7.cell? ⟨gb464,1,none⟩=some (.slice none 0 0):=(blk_cell BK464.out 1).trans rfl;have hfz10_0:=blk_frozen BK464.out 0;have hfz10_1:=blk_frozen BK464.out 1;obtain ⟨Ao11,co11,eo11⟩:=Kd.R_slice HO462.out;subst eo11)|((with_reducible refine gate_callee (f:=70) rfl ?_);refine goesL_ (some 15) rfl rfl Try.func70 (by kernel_rfl) rfl #[.agg #[.slice Ao8 t457.length co8,.slice Ao11 t460.length co11]] rfl (by (try simp only [List.map_toArray,List.map_cons,List.map_nil]);first|done|rfl|(simp only [List.length_drop,List.length_take];rfl)) ?_;(with_reducible refine (impl_set_tidy.calls k _ _ t457 _ _ t460 t465 t468 _ ?side1 ?side2 ?side3 ?side4 A4.out).mono ?_);(case side1=>refine (Kd.R_reads' (e:=4) (base:=w.heap.size) (ok:=fun k_=>some k_≠(.slice Ao11 t460.length co11:Value).ownBlock) (n:=t457.length) (c:=co8) ?_).2.2;exact (by (with_reducible repeat (first|apply yH|apply yI|apply yJ));exact (Kd.R_mono (Kd.R_far (p:=⟨gb464,1,none⟩) (Kd.R_far (p:=⟨gb464,0,none⟩) (Kd.R_types HO459.out BK464.out (by decide)) (fun _ hk=>hk.2) (.slice Ao8 t457.length co8)) (fun _ hk=>hk.2) (.slice Ao11 t460.length co11)) (fun _ h_=>h_.1))));(case side2=>exact (Kd.R_reads' HO459.out).2.1);(case side3=>refine (Kd.R_reads' (e:=4) (base:=w.heap.size) (ok:=fun k_=>some k_≠(.slice Ao8 t457.length co8:Value).ownBlock) (n:=t460.length) (c:=co11) ?_).2.2;exact (by (with_reducible repeat (first|apply yH|apply yI|apply yJ));exact (Kd.R_mono (Kd.R_far (p:=⟨gb464,1,none⟩) (Kd.R_far (p:=⟨gb464,0,none⟩) (Kd.R_types HO462.out BK464.out (by decide)) (fun _ hk=>hk.2) (.slice Ao8 t457.length co8)) (fun _ hk=>hk.2) (.slice Ao11 t460.length co11)) (fun _ h_=>h_.1))));(case side4=>exact (Kd.R_reads' HO462.out).2.1);rintro e w12 ⟨v466,v469,rfl,ho0,ho1,hb⟩;refine ⟨_,rfl,?_⟩;have n0_:=Aside0.mk (Kd.R_mono (Kd.R_told (Kd.R_told (Kd.R_old (by (with_reducible repeat (first|apply yH|apply yI|apply yJ));exact (Kd.R_mono (Kd.R_far (p:=⟨gb464,1,none⟩) (Kd.R_far (p:=⟨gb464,0,none⟩) (Kd.R_types HO459.out BK464.out (by decide)) (fun _ hk=>hk.2) (.slice Ao8 t457.length co8)) (fun _ hk=>hk.2) (.slice Ao11 t460.length co11)) (fun _ h_=>h_.1))) hb) (Kd.R_base ho0)) (Kd.R_base ho1)) (fun _ h_=>h_.1));have n1_:=Aside0.mk (Kd.R_mono (Kd.R_told (Kd.R_told (Kd.R_old (by (with_reducible repeat (first|apply yH|apply yI|apply yJ));exact (Kd.R_mono (Kd.R_far (p:=⟨gb464,1,none⟩) (Kd.R_far (p:=⟨gb464,0,none⟩) (Kd.R_types HO462.out BK464.out (by decide)) (fun _ hk=>hk.2) (.slice Ao8 t457.length co8)) (fun _ hk=>hk.2) (.slice Ao11 t460.length co11)) (fun _ h_=>h_.1))) hb) (Kd.R_base ho0)) (Kd.R_base ho1)) (fun _ h_=>h_.1));have n2_:=Aside0.mk (Kd.R_lower (Kd.R_new' (Kd.R_new' ho0 (Kd.R_lt (by (with_reducible repeat (first|apply yH|apply yI|apply yJ));exact (Kd.R_mono (Kd.R_far (p:=⟨gb464,1,none⟩) (Kd.R_far (p:=⟨gb464,0,none⟩) (Kd.R_types HO459.out BK464.out (by decide)) (fun _ hk=>hk.2) (.slice Ao8 t457.length co8)) (fun _ hk=>hk.2) (.slice Ao11 t460.length co11)) (fun _ h_=>h_.1))))) (Kd.R_lt (by (with_reducible repeat (first|apply yH|apply yI|apply yJ));exact (Kd.R_mono (Kd.R_far (p:=⟨gb464,1,none⟩) (Kd.R_far (p:=⟨gb464,0,none⟩) (Kd.R_types HO462.out BK464.out (by decide)) (fun _ hk=>hk.2) (.slice Ao8 t457.length co8)) (fun _ hk=>hk.2) (.slice Ao11 t460.length co11)) (fun _ h_=>h_.1))))) (yQ (by repeat (first|(with_reducible first|exact HB.out|apply yA|apply yB|apply yC|refine yD ?_ GE456.out|refine yD ?_ GE464.out)|exact HB.out))));have n3_:=Aside0.mk (Kd.R_lower (Kd.R_new' (Kd.R_new' ho1 (Kd.R_lt (by (with_reducible repeat (first|apply yH|apply yI|apply yJ));exact (Kd.R_mono (Kd.R_far (p:=⟨gb464,1,none⟩) (Kd.R_far (p:=⟨gb464,0,none⟩) (Kd.R_types HO459.out BK464.out (by decide)) (fun _ hk=>hk.2) (.slice Ao8 t457.length co8)) (fun _ hk=>hk.2) (.slice Ao11 t460.length co11)) (fun _ h_=>h_.1))))) (Kd.R_lt (by (with_reducible repeat (first|apply yH|apply yI|apply yJ));exact (Kd.R_mono (Kd.R_far (p:=⟨gb464,1,none⟩) (Kd.R_far (p:=⟨gb464,0,none⟩) (Kd.R_types HO462.out BK464.out (by decide)) (fun _ hk=>hk.2) (.slice Ao8 t457.length co8)) (fun _ hk=>hk.2) (.slice Ao11 t460.length co11)) (fun _ h_=>h_.1))))) (yQ (by repeat (first|(with_reducible first|exact HB.out|apply yA|apply yB|apply yC|refine yD ?_ GE456.out|refine yD ?_ GE464.out)|exact HB.out))));have n4_:=Aside0.mk (blk_below (g:=gb456) (o:=.cells #[.slice none 0 0,.slice none 0 0] 48 (0,0)) (by (with_reducible repeat (first|refine yE ?_ _|refine yF ?_|refine yG ?_ _));refine blk_far ?_ NB456_464.out _;(with_reducible repeat (first|refine yE ?_ _|refine yF ?_|refine yG ?_ _));refine blk_far ?_ NB456_464.out _;(with_reducible repeat (first|refine yE ?_ _|refine yF ?_|refine yG ?_ _));exact BK456.out) hb);have n5_:=Aside0.mk (blk_below (g:=gb464) (o:=.cells #[.slice Ao8 t457.length co8,.slice Ao11 t460.length co11] 48 (0,0)) (by (with_reducible repeat (first|refine yE ?_ _|refine yF ?_|refine yG ?_ _));refine blk_put (cs:=#[.slice Ao8 t457.length co8,.slice none 0 0]) ?_ 1 _ rfl;(with_reducible repeat (first|refine yE ?_ _|refine yF ?_|refine yG ?_ _));refine blk_put (cs:=#[.slice none 0 0,.slice none 0 0]) ?_ 0 _ rfl;(with_reducible repeat (first|refine yE ?_ _|refine yF ?_|refine yG ?_ _));exact BK464.out) hb);have n6_:=Aside0.mk (yP (by repeat (first|(with_reducible first|exact HB.out|apply yA|apply yB|apply yC|refine yD ?_ GE456.out|refine yD ?_ GE464.out)|exact HB.out)) hb);clear HO459;clear HO462;clear BK456;clear BK464;clear HB;have HO459:=n0_;have HO462:=n1_;have HO467:=n2_;have HO470:=n3_;have BK456:=n4_;have BK464:=n5_;have HB:=n6_;clear n0_ n1_ n2_ n3_ n4_ n5_ n6_;(try clear hb);(try clear hb2);(try clear hk);(try clear hi);(try clear ho0);(try clear ho1);obtain ⟨Ao13,co13,eo13⟩:=Kd.R_slice HO467.out;subst eo13;have hcz14_0:w12.cell? ⟨gb456,0,none⟩=some (.slice none 0 0):=(blk_cell BK456.out 0).trans rfl;have hcz14_1:w12.cell? ⟨gb456,1,none⟩=some (.slice none 0 0):=(blk_cell BK456.out 1).trans rfl;have hfz14_0:=blk_frozen BK456.out 0;have hfz14_1:=blk_frozen BK456.out 1;obtain ⟨Ao15,co15,eo15⟩:=Kd.R_slice HO470.out;subst eo15))
  refine bodyPost_ret (results_ct rfl _ _ gb456 48 #[.slice Ao13 t465.length co13,.slice Ao15 t468.length co15] (0,0) _ rfl (by (with_reducible repeat (first|refine yE ?_ _|refine yF ?_|refine yG ?_ _));refine blk_put (cs:=#[.slice Ao13 t465.length co13,.slice none 0 0]) ?_ 1 _ rfl;(with_reducible repeat (first|refine yE ?_ _|refine yF ?_|refine yG ?_ _));refine blk_put (cs:=#[.slice none 0 0,.slice none 0 0]) ?_ 0 _ rfl;(with_reducible repeat (first|refine yE ?_ _|refine yF ?_|refine yG ?_ _));exact BK456.out) Try.underlying48 rfl (by kernel_rfl)) rfl ?_
  exact ⟨_,_,by first|rfl|(simp [errW_none,errW_some]<;>rfl)|(simp [*,errW_none,errW_some]<;>rfl)|(simp [errW_none,errW_some];exact ⟨rfl,rfl⟩),by (with_reducible repeat (first|apply yH|apply yI|apply yJ));exact Kd.R_mono (Kd.R_far (p:=⟨gb456,1,none⟩) (Kd.R_far (p:=⟨gb456,0,none⟩) (Kd.R_types HO467.out BK456.out (by decide)) (fun _ hk=>hk.2) (.slice Ao13 t465.length co13)) (fun _ hk=>hk.2) (.slice Ao15 t468.length co15)) (fun _ hk=>hk.1.1.1),by (with_reducible repeat (first|apply yH|apply yI|apply yJ));exact Kd.R_mono (Kd.R_far (p:=⟨gb456,1,none⟩) (Kd.R_far (p:=⟨gb456,0,none⟩) (Kd.R_types HO470.out BK456.out (by decide)) (fun _ hk=>hk.2) (.slice Ao13 t465.length co13)) (fun _ hk=>hk.2) (.slice Ao15 t468.length co15)) (fun _ hk=>hk.1.1.1),by repeat (first|(with_reducible first|exact HB.out|apply yA|apply yB|apply yC|refine yD ?_ GE456.out|refine yD ?_ GE464.out)|exact HB.out)⟩
 ·replace c3:=Bool.eq_false_iff.mpr c3
  subst c3
  have H1:(some (([]:List Bool),([]:List Bool),false))=some (r1,r2,r3):=by rw [if_neg (show ¬ (false=true) by decide)] at H;exact H
  clear H
  have H:=H1
  clear H1
  simp only [Option.some.injEq,Prod.mk.injEq] at H
  obtain ⟨rfl,rfl,rfl⟩:=H
  go_enter Try.func72,Try.ntmps72
  go_wp2_with (first|((with_reducible refine gate_dst (N:=2) rfl ?_);refine box_event ?hg (N:=2) ?hd (cs:=#[.slice none 0 0,.slice none 0 0]) (t:=48) ?hr ?_;(case hd=>rfl);(case hg=>rfl);(case hr=>first|(go_simp;done)|(go_simp;rfl));intro gb456 hg w16 hbox hb;have n0_:=Aside0.mk (yP (by repeat (first|(with_reducible first|exact HB.out|apply yA|apply yB|apply yC)|exact HB.out)) hb);have n1_:=Aside0.mk (hbox);have n2_:=Aside0.mk ((by rw [hg];exact (yQ (by repeat (first|(with_reducible first|exact HB.out|apply yA|apply yB|apply yC)|exact HB.out))):w.heap.size≤gb456));have n3_:=Aside0.mk ((by rw [hg];exact (yQ (by repeat (first|(with_reducible first|exact HB.out|apply yA|apply yB|apply yC)|exact HB.out))):w.heap.size≤gb456));clear HB;have HB:=n0_;have BK456:=n1_;have GW456:=n2_;have GE456:=n3_;clear n0_ n1_ n2_ n3_;clear hb hbox hg)|((with_reducible refine gate_callee (f:=30) rfl ?_);refine goesL_ (some 8) rfl rfl Try.func30 (by kernel_rfl) rfl #[.string a0] rfl (by (try simp only [List.map_toArray,List.map_cons,List.map_nil]);first|done|rfl|(simp only [List.length_drop,List.length_take];rfl)) ?_;(with_reducible refine (impl_setOf.calls k a0 t457 t460 false _ A2.out).mono ?_);rintro e w17 ⟨v458,v461,rfl,ho0,ho1,hb⟩;refine ⟨_,rfl,?_⟩;have n0_:=Aside0.mk (Kd.R_lower ho0 (yQ (by repeat (first|(with_reducible first|exact HB.out|apply yA|apply yB|apply yC|refine yD ?_ GE456.out)|exact HB.out))));have n1_:=Aside0.mk (Kd.R_lower ho1 (yQ (by repeat (first|(with_reducible first|exact HB.out|apply yA|apply yB|apply yC|refine yD ?_ GE456.out)|exact HB.out))));have n2_:=Aside0.mk (blk_below (g:=gb456) (o:=.cells #[.slice none 0 0,.slice none 0 0] 48 (0,0)) (by (with_reducible repeat (first|refine yE ?_ _|refine yF ?_|refine yG ?_ _));exact BK456.out) hb);have n3_:=Aside0.mk (yP (by repeat (first|(with_reducible first|exact HB.out|apply yA|apply yB|apply yC|refine yD ?_ GE456.out)|exact HB.out)) hb);clear BK456;clear HB;have HO459:=n0_;have HO462:=n1_;have BK456:=n2_;have HB:=n3_;clear n0_ n1_ n2_ n3_;(try clear hb);(try clear hb2);(try clear hk);(try clear hi);(try clear ho0);(try clear ho1))|((with_reducible refine gate_dst (N:=4) rfl ?_);refine box_event ?hg (N:=4) ?hd (cs:=#[.slice none 0 0,.slice none 0 0]) (t:=48) ?hr ?_;(case hd=>rfl);(case hg=>rfl);(case hr=>first|(go_simp;done)|(go_simp;rfl));intro gb464 hg w18 hbox hb;have n0_:=Aside0.mk (Kd.R_below (by (with_reducible repeat (first|apply yH|apply yI|apply yJ));exact HO459.out) hb);have n1_:=Aside0.mk (Kd.R_below (by (with_reducible repeat (first|apply yH|apply yI|apply yJ));exact HO462.out) hb);have n2_:=Aside0.mk (blk_below (g:=gb456) (o:=.cells #[.slice none 0 0,.slice none 0 0] 48 (0,0)) (by (with_reducible repeat (first|refine yE ?_ _|refine yF ?_|refine yG ?_ _));exact BK456.out) hb);have n3_:=Aside0.mk (yP (by repeat (first|(with_reducible first|exact HB.out|apply yA|apply yB|apply yC|refine yD ?_ GE456.out)|exact HB.out)) hb);have n4_:=Aside0.mk (hbox);have n5_:=Aside0.mk ((by rw [hg];exact (yQ (by repeat (first|(with_reducible first|exact HB.out|apply yA|apply yB|apply yC|refine yD ?_ GE456.out)|exact HB.out))):w.heap.size≤gb464));have n6_:=Aside0.mk ((by rw [hg];exact (yQ (by repeat (first|(with_reducible first|exact HB.out|apply yA|apply yB|apply yC|refine yD ?_ GE456.out)|exact HB.out))):w.heap.size≤gb464));have n7_:=Aside0.mk ((by rw [hg];exact Nat.ne_of_lt (blk_lt (g:=gb456) (o:=.cells #[.slice none 0 0,.slice none 0 0] 48 (0,0)) (by (with_reducible repeat (first|refine yE ?_ _|refine yF ?_|refine yG ?_ _));exact BK456.out)):gb456≠gb464));have n8_:=Aside0.mk ((by rw [hg];exact Nat.ne_of_gt (blk_lt (g:=gb456) (o:=.cells #[.slice none 0 0,.slice none 0 0] 48 (0,0)) (by (with_reducible repeat (first|refine yE ?_ _|refine yF ?_|refine yG ?_ _));exact BK456.out)):gb464≠gb456));clear HO459;clear HO462;clear BK456;clear HB;have HO459:=n0_;have HO462:=n1_;have BK456:=n2_;have HB:=n3_;have BK464:=n4_;have GW464:=n5_;have GE464:=n6_;have NB456_464:=n7_;have NB464_456:=n8_;clear n0_ n1_ n2_ n3_ n4_ n5_ n6_ n7_ n8_;clear hb hbox hg;obtain ⟨Ao19,co19,eo19⟩:=Kd.R_slice HO459.out;subst eo19;have hnb20:=NB464_456.out;have hnc20:=NB456_464.out;have hcz21_0:w18.cell? ⟨gb464,0,none⟩=some (.slice none 0 0):=(blk_cell BK464.out 0).trans rfl;have hcz21_1:w18.cell? ⟨gb464,1,none⟩=some (.slice none 0 0):=(blk_cell BK464.out 1).trans rfl;have hfz21_0:=blk_frozen BK464.out 0;have hfz21_1:=blk_frozen BK464.out 1;obtain ⟨Ao22,co22,eo22⟩:=Kd.R_slice HO462.out;subst eo22;have hcz23_0:w18.cell? ⟨gb456,0,none⟩=some (.slice none 0 0):=(blk_cell BK456.out 0).trans rfl;have hcz23_1:w18.cell? ⟨gb456,1,none⟩=some (.slice none 0 0):=(blk_cell BK456.out 1).trans rfl;have hfz23_0:=blk_frozen BK456.out 0;have hfz23_1:=blk_frozen BK456.out 1))
  refine bodyPost_ret (results_ct rfl _ _ gb456 48 #[.slice none 0 0,.slice none 0 0] (0,0) _ rfl (by (with_reducible repeat (first|refine yE ?_ _|refine yF ?_|refine yG ?_ _));refine blk_put (cs:=#[.slice none 0 0,.slice none 0 0]) ?_ 1 _ rfl;(with_reducible repeat (first|refine yE ?_ _|refine yF ?_|refine yG ?_ _));refine blk_put (cs:=#[.slice none 0 0,.slice none 0 0]) ?_ 0 _ rfl;(with_reducible repeat (first|refine yE ?_ _|refine yF ?_|refine yG ?_ _));refine blk_far ?_ NB456_464.out _;(with_reducible repeat (first|refine yE ?_ _|refine yF ?_|refine yG ?_ _));refine blk_far ?_ NB456_464.out _;(with_reducible repeat (first|refine yE ?_ _|refine yF ?_|refine yG ?_ _));exact BK456.out) Try.underlying48 rfl (by kernel_rfl)) rfl ?_
  exact ⟨_,_,by first|rfl|(simp [errW_none,errW_some]<;>rfl)|(simp [*,errW_none,errW_some]<;>rfl)|(simp [errW_none,errW_some];exact ⟨rfl,rfl⟩),by first|exact Kd.R_nil _ _ _ _ _|exact Kd.N_nil _ _ _ _ _|exact Kd.V_nil _ _ _ _ _|exact Kd.Q_nil _ _ _ _ _|exact Kd.S_nil _ _ _ _ _,by first|exact Kd.R_nil _ _ _ _ _|exact Kd.N_nil _ _ _ _ _|exact Kd.V_nil _ _ _ _ _|exact Kd.Q_nil _ _ _ _ _|exact Kd.S_nil _ _ _ _ _,by repeat (first|(with_reducible first|exact HB.out|apply yA|apply yB|apply yC|refine yD ?_ GE456.out|refine yD ?_ GE464.out)|exact HB.out)⟩

end Go.Proofs.Ytneadgionjlicaa.P

namespace Go.Proofs.Ytneadgionjlicaa.P
open Go.RowKit Go.Proofs.YtneadgionjlicaaW.PrintWords Go.Proofs.YtneadgionjlicaaW.PrintLast Go.Proofs.YtneadgionjlicaaW.PrintMore
attribute [local go_sem] max2_int min2_int max_two min_two max_three min_three max_four min_four   -- for this text's walks alone
set_option linter.unusedVariables false
set_option linter.unusedSimpArgs false

/-! ### impl_SetSizes: function 46 -/
def impl_SetSizes.f (k:Nat) (a0:ByteArray):Option (Int × Int × Bool):=(impl_tidied.f k a0).bind fun bt471=>(some ((bt471.1.length:Int),(bt471.2.1.length:Int),bt471.2.2))
theorem impl_SetSizes.mono:∀ a0 k,LeO (impl_SetSizes.f k a0) (impl_SetSizes.f (k+1) a0):=by
 intro a0 k
 unfold impl_SetSizes.f
 repeat' first
   | (with_reducible exact impl_tidied.mono _ _)
   | (with_reducible exact LeO.refl _)
   | (with_reducible exact LeO.none _)
   | (with_reducible refine LeO.ite ?_ ?_)
   | (with_reducible refine LeO.bind ?_ (fun _=>?_))
   | exact impl_tidied.mono _ _
   | exact LeO.none _
   | refine LeO.ite ?_ ?_
   | refine LeO.bind ?_ (fun _=>?_)
set_option maxHeartbeats 8000000 in
set_option maxRecDepth 100000 in
theorem impl_SetSizes.calls (k:Nat) (a0:ByteArray) (r1:Int) (r2:Int) (r3:Bool) (w:World) (h:impl_SetSizes.f k a0=some (r1,r2,r3)) :
  Calls Try.prog 46 #[.string a0] w fun e w'=>e=.returned (.tuple #[.int .i64 r1,.int .i64 r2,.bool r3])∧Below w.heap.size w w':=by
 have hu48:=Try.underlying48
 have HB:=Aside0.mk (Below.refl w.heap.size w)
 have H:((impl_tidied.f k a0).bind fun bt471=>(some ((bt471.1.length:Int),(bt471.2.1.length:Int),bt471.2.2)))=some (r1,r2,r3):=h
 clear h
 replace H:=Option.bind_eq_some_iff.mp H
 obtain ⟨⟨t471,t474,t477⟩,A20,H⟩:=H
 replace H:(some ((t471.length:Int),(t474.length:Int),t477))=some (r1,r2,r3):=H
 have A2:=Aside0.mk A20
 clear A20
 simp only [Option.some.injEq,Prod.mk.injEq] at H
 obtain ⟨rfl,rfl,rfl⟩:=H
 go_enter Try.func46,Try.ntmps46
 go_wp2_with (first|(go_at_call 72;(with_reducible refine (impl_tidied.calls k a0 t471 t474 t477 _ A2.out).mono ?_);rintro e w3 ⟨v472,v475,rfl,ho0,ho1,hb⟩;have n0_:=Aside0.mk (Kd.R_lower ho0 (yQ (by repeat (first|(with_reducible first|exact HB.out|apply yA|apply yB|apply yC)|exact HB.out))));have n1_:=Aside0.mk (Kd.R_lower ho1 (yQ (by repeat (first|(with_reducible first|exact HB.out|apply yA|apply yB|apply yC)|exact HB.out))));have n2_:=Aside0.mk (yP (by repeat (first|(with_reducible first|exact HB.out|apply yA|apply yB|apply yC)|exact HB.out)) hb);clear HB;have HO473:=n0_;have HO476:=n1_;have HB:=n2_;clear n0_ n1_ n2_;(try clear hb);(try clear hb2);(try clear hk);(try clear hi);(try clear ho0);(try clear ho1))|((with_reducible refine gate_dst (N:=5) rfl ?_);refine box_event ?hg (N:=5) ?hd (cs:=#[.slice none 0 0,.slice none 0 0]) (t:=48) ?hr ?_;(case hd=>rfl);(case hg=>rfl);(case hr=>first|(go_simp;done)|(go_simp;rfl));intro gb478 hg w4 hbox hb;have n0_:=Aside0.mk (Kd.R_below (by (with_reducible repeat (first|apply yH|apply yI|apply yJ));exact HO473.out) hb);have n1_:=Aside0.mk (Kd.R_below (by (with_reducible repeat (first|apply yH|apply yI|apply yJ));exact HO476.out) hb);have n2_:=Aside0.mk (yP (by repeat (first|(with_reducible first|exact HB.out|apply yA|apply yB|apply yC)|exact HB.out)) hb);have n3_:=Aside0.mk (hbox);have n4_:=Aside0.mk ((by rw [hg];exact (yQ (by repeat (first|(with_reducible first|exact HB.out|apply yA|apply yB|apply yC)|exact HB.out))):w.heap.size≤gb478));have n5_:=Aside0.mk ((by rw [hg];exact (yQ (by repeat (first|(with_reducible first|exact HB.out|apply yA|apply yB|apply yC)|exact HB.out))):w.heap.size≤gb478));clear HO473;clear HO476;clear HB;have HO473:=n0_;have HO476:=n1_;have HB:=n2_;have BK478:=n3_;have GW478:=n4_;have GE478:=n5_;clear n0_ n1_ n2_ n3_ n4_ n5_;clear hb hbox hg;obtain ⟨Ao5,co5,eo5⟩:=Kd.R_slice HO473.out;subst eo5;have hcz6_0:w4.cell? ⟨gb478,0,none⟩=some (.slice none 0 0):=(blk_cell BK478.out 0).trans rfl;have hcz6_1:w4.cell? ⟨gb478,1,none⟩=some (.slice none 0 0):=(blk_cell BK478.out 1).trans rfl;have hfz6_0:=blk_frozen BK478.out 0;have hfz6_1:=blk_frozen BK478.out 1;obtain ⟨Ao7,co7,eo7⟩:=Kd.R_slice HO476.out;subst eo7))
 repeat (go_quiet (first|(go_at_call 72;(with_reducible refine (impl_tidied.calls k a0 t471 t474 t477 _ A2.out).mono ?_);rintro e w3 ⟨v472,v475,rfl,ho0,ho1,hb⟩;have n0_:=Aside0.mk (Kd.R_lower ho0 (yQ (by repeat (first|(with_reducible first|exact HB.out|apply yA|apply yB|apply yC)|exact HB.out))));have n1_:=Aside0.mk (Kd.R_lower ho1 (yQ (by repeat (first|(with_reducible first|exact HB.out|apply yA|apply yB|apply yC)|exact HB.out))));have n2_:=Aside0.mk (yP (by repeat (first|(with_reducible first|exact HB.out|apply yA|apply yB|apply yC)|exact HB.out)) hb);clear HB;have HO473:=n0_;have HO476:=n1_;have HB:=n2_;clear n0_ n1_ n2_;(try clear hb);(try clear hb2);(try clear hk);(try clear hi);(try clear ho0);(try clear ho1))|((with_reducible refine gate_dst (N:=5) rfl ?_);refine box_event ?hg (N:=5) ?hd (cs:=#[.slice none 0 0,.slice none 0 0]) (t:=48) ?hr ?_;(case hd=>rfl);(case hg=>rfl);(case hr=>first|(go_simp;done)|(go_simp;rfl));intro gb478 hg w4 hbox hb;have n0_:=Aside0.mk (Kd.R_below (by (with_reducible repeat (first|apply yH|apply yI|apply yJ));exact HO473.out) hb);have n1_:=Aside0.mk (Kd.R_below (by (with_reducible repeat (first|apply yH|apply yI|apply yJ));exact HO476.out) hb);have n2_:=Aside0.mk (yP (by repeat (first|(with_reducible first|exact HB.out|apply yA|apply yB|apply yC)|exact HB.out)) hb);have n3_:=Aside0.mk (hbox);have n4_:=Aside0.mk ((by rw [hg];exact (yQ (by repeat (first|(with_reducible first|exact HB.out|apply yA|apply yB|apply yC)|exact HB.out))):w.heap.size≤gb478));have n5_:=Aside0.mk ((by rw [hg];exact (yQ (by repeat (first|(with_reducible first|exact HB.out|apply yA|apply yB|apply yC)|exact HB.out))):w.heap.size≤gb478));clear HO473;clear HO476;clear HB;have HO473:=n0_;have HO476:=n1_;have HB:=n2_;have BK478:=n3_;have GW478:=n4_;have GE478:=n5_;clear n0_ n1_ n2_ n3_ n4_ n5_;clear hb hbox hg;obtain ⟨Ao5,co5,eo5⟩:=Kd.R_slice HO473.out;subst eo5;have hcz6_0:w4.cell? ⟨gb478,0,none⟩=some (.slice none 0 0):=(blk_cell BK478.out 0).trans rfl;have hcz6_1:w4.cell? ⟨gb478,1,none⟩=some (.slice none 0 0):=(blk_cell BK478.out 1).trans rfl;have hfz6_0:=blk_frozen BK478.out 0;have hfz6_1:=blk_frozen BK478.out 1;obtain ⟨Ao7,co7,eo7⟩:=Kd.R_slice HO476.out;subst eo7));try go_wp2_with (first|(go_at_call 72;(with_reducible refine (impl_tidied.calls k a0 t471 t474 t477 _ A2.out).mono ?_);rintro e w3 ⟨v472,v475,rfl,ho0,ho1,hb⟩;have n0_:=Aside0.mk (Kd.R_lower ho0 (yQ (by repeat (first|(with_reducible first|exact HB.out|apply yA|apply yB|apply yC)|exact HB.out))));have n1_:=Aside0.mk (Kd.R_lower ho1 (yQ (by repeat (first|(with_reducible first|exact HB.out|apply yA|apply yB|apply yC)|exact HB.out))));have n2_:=Aside0.mk (yP (by repeat (first|(with_reducible first|exact HB.out|apply yA|apply yB|apply yC)|exact HB.out)) hb);clear HB;have HO473:=n0_;have HO476:=n1_;have HB:=n2_;clear n0_ n1_ n2_;(try clear hb);(try clear hb2);(try clear hk);(try clear hi);(try clear ho0);(try clear ho1))|((with_reducible refine gate_dst (N:=5) rfl ?_);refine box_event ?hg (N:=5) ?hd (cs:=#[.slice none 0 0,.slice none 0 0]) (t:=48) ?hr ?_;(case hd=>rfl);(case hg=>rfl);(case hr=>first|(go_simp;done)|(go_simp;rfl));intro gb478 hg w4 hbox hb;have n0_:=Aside0.mk (Kd.R_below (by (with_reducible repeat (first|apply yH|apply yI|apply yJ));exact HO473.out) hb);have n1_:=Aside0.mk (Kd.R_below (by (with_reducible repeat (first|apply yH|apply yI|apply yJ));exact HO476.out) hb);have n2_:=Aside0.mk (yP (by repeat (first|(with_reducible first|exact HB.out|apply yA|apply yB|apply yC)|exact HB.out)) hb);have n3_:=Aside0.mk (hbox);have n4_:=Aside0.mk ((by rw [hg];exact (yQ (by repeat (first|(with_reducible first|exact HB.out|apply yA|apply yB|apply yC)|exact HB.out))):w.heap.size≤gb478));have n5_:=Aside0.mk ((by rw [hg];exact (yQ (by repeat (first|(with_reducible first|exact HB.out|apply yA|apply yB|apply yC)|exact HB.out))):w.heap.size≤gb478));clear HO473;clear HO476;clear HB;have HO473:=n0_;have HO476:=n1_;have HB:=n2_;have BK478:=n3_;have GW478:=n4_;have GE478:=n5_;clear n0_ n1_ n2_ n3_ n4_ n5_;clear hb hbox hg;obtain ⟨Ao5,co5,eo5⟩:=Kd.R_slice HO473.out;subst eo5;have hcz6_0:w4.cell? ⟨gb478,0,none⟩=some (.slice none 0 0):=(blk_cell BK478.out 0).trans rfl;have hcz6_1:w4.cell? ⟨gb478,1,none⟩=some (.slice none 0 0):=(blk_cell BK478.out 1).trans rfl;have hfz6_0:=blk_frozen BK478.out 0;have hfz6_1:=blk_frozen BK478.out 1;obtain ⟨Ao7,co7,eo7⟩:=Kd.R_slice HO476.out;subst eo7)))
 go_ret3
 exact ⟨by first|rfl|(simp [errW_none,errW_some]<;>rfl)|(simp [*,errW_none,errW_some]<;>rfl)|(simp [errW_none,errW_some];exact ⟨rfl,rfl⟩),by repeat (first|(with_reducible first|exact HB.out|apply yA|apply yB|apply yC|refine yD ?_ GE478.out)|exact HB.out)⟩

end Go.Proofs.Ytneadgionjlicaa.P

namespace Go.Proofs.Ytneadgionjlicaa.P
open Go.RowKit Go.Proofs.YtneadgionjlicaaW.PrintWords Go.Proofs.YtneadgionjlicaaW.PrintLast Go.Proofs.YtneadgionjlicaaW.PrintMore
attribute [local go_sem] max2_int min2_int max_two min_two max_three min_three max_four min_four   -- for this text's walks alone
set_option linter.unusedVariables false
set_option linter.unusedSimpArgs false

/-! ### impl_RestMany: function 19 -/
def impl_RestMany.f (k:Nat) (a0:ByteArray):Option (Int × Bool):=(impl_SetSizes.f k a0).bind fun bt479=>(some (wrap64 (bt479.1+bt479.2.1),bt479.2.2))
theorem impl_RestMany.mono:∀ a0 k,LeO (impl_RestMany.f k a0) (impl_RestMany.f (k+1) a0):=by
 intro a0 k
 unfold impl_RestMany.f
 repeat' first
   | (with_reducible exact impl_SetSizes.mono _ _)
   | (with_reducible exact LeO.refl _)
   | (with_reducible exact LeO.none _)
   | (with_reducible refine LeO.ite ?_ ?_)
   | (with_reducible refine LeO.bind ?_ (fun _=>?_))
   | exact impl_SetSizes.mono _ _
   | exact LeO.none _
   | refine LeO.ite ?_ ?_
   | refine LeO.bind ?_ (fun _=>?_)
set_option maxHeartbeats 8000000 in
set_option maxRecDepth 100000 in
theorem impl_RestMany.calls (k:Nat) (a0:ByteArray) (r1:Int) (r2:Bool) (w:World) (h:impl_RestMany.f k a0=some (r1,r2)) :
  Calls Try.prog 19 #[.string a0] w fun e w'=>e=.returned (.tuple #[.int .i64 r1,.bool r2])∧Below w.heap.size w w':=by
 have HB:=Aside0.mk (Below.refl w.heap.size w)
 have H:((impl_SetSizes.f k a0).bind fun bt479=>(some (wrap64 (bt479.1+bt479.2.1),bt479.2.2)))=some (r1,r2):=h
 clear h
 replace H:=Option.bind_eq_some_iff.mp H
 obtain ⟨⟨t479,t480,t481⟩,A20,H⟩:=H
 replace H:(some (wrap64 (t479+t480),t481))=some (r1,r2):=H
 have A2:=Aside0.mk A20
 clear A20
 simp only [Option.some.injEq,Prod.mk.injEq] at H
 obtain ⟨rfl,rfl⟩:=H
 go_enter Try.func19,Try.ntmps19
 go_wp2_with (first|((with_reducible refine gate_callee (f:=46) rfl ?_);refine goesL_ (some 9) rfl rfl Try.func46 (by kernel_rfl) rfl #[.string a0] rfl (by (try simp only [List.map_toArray,List.map_cons,List.map_nil]);first|done|rfl|(simp only [List.length_drop,List.length_take];rfl)) ?_;(with_reducible refine (impl_SetSizes.calls k a0 t479 t480 t481 _ A2.out).mono ?_);rintro e w3 ⟨rfl,hb⟩;refine ⟨_,rfl,?_⟩;have n0_:=Aside0.mk (yP (by repeat (first|(with_reducible first|exact HB.out|apply yA|apply yB|apply yC)|exact HB.out)) hb);clear HB;have HB:=n0_;clear n0_;(try clear hb);(try clear hb2);(try clear hk);(try clear hi)))
 go_ret2
 exact ⟨by first|rfl|(simp [errW_none,errW_some]<;>rfl)|(simp [*,errW_none,errW_some]<;>rfl)|(simp [errW_none,errW_some];exact ⟨rfl,rfl⟩),by repeat (first|(with_reducible first|exact HB.out|apply yA|apply yB|apply yC)|exact HB.out)⟩

end Go.Proofs.Ytneadgionjlicaa.P

namespace Go.Proofs.Ytneadgionjlicaa.P
open Go.RowKit Go.Proofs.YtneadgionjlicaaW.PrintWords Go.Proofs.YtneadgionjlicaaW.PrintLast Go.Proofs.YtneadgionjlicaaW.PrintMore
attribute [local go_sem] max2_int min2_int max_two min_two max_three min_three max_four min_four   -- for this text's walks alone
set_option linter.unusedVariables false
set_option linter.unusedSimpArgs false

/-! ### impl_MachFew: function 16 -/
noncomputable def impl_MachFew.f (k:Nat) (l0_0:List Int) (a0_1:Int) (a0_2:Int):Option (Int × Bool):=(impl_MachSet.f l0_0 a0_1 a0_2).bind fun bt483=>(if bt483.2=true then ((impl_RestMany.f k bt483.1).bind fun bt485=>(some (bt485.1,bt485.2))) else (some (0,false)))
theorem impl_MachFew.mono:∀ a0 a1 a2 k,LeO (impl_MachFew.f k a0 a1 a2) (impl_MachFew.f (k+1) a0 a1 a2):=by
 intro a0 a1 a2 k
 unfold impl_MachFew.f
 repeat' first
   | (with_reducible exact impl_RestMany.mono _ _)
   | (with_reducible exact LeO.refl _)
   | (with_reducible exact LeO.none _)
   | (with_reducible refine LeO.ite ?_ ?_)
   | (with_reducible refine LeO.bind ?_ (fun _=>?_))
   | exact impl_RestMany.mono _ _
   | exact LeO.none _
   | refine LeO.ite ?_ ?_
   | refine LeO.bind ?_ (fun _=>?_)
set_option maxHeartbeats 8000000 in
set_option maxRecDepth 100000 in
theorem impl_MachFew.calls (k:Nat) (A0_0:Option Addr) (c0_0:Nat) (l0_0:List Int) (a0_1:Int) (a0_2:Int) (r1:Int) (r2:Bool) (w:World) (hr0_0:Kd.C (Kd.int .i64) w A0_0 l0_0.length l0_0) (hc0_0:l0_0.length≤c0_0) (h:impl_MachFew.f k l0_0 a0_1 a0_2=some (r1,r2)) :
  Calls Try.prog 16 #[.agg #[.slice A0_0 l0_0.length c0_0,.int .i64 a0_1,.int .i64 a0_2]] w fun e w'=>e=.returned (.tuple #[.int .i64 r1,.bool r2])∧Below w.heap.size w w':=by
 have hu31:=Try.underlying31
 have HR0_0:=Aside0.mk hr0_0
 have HC0_0:=Aside0.mk hc0_0
 clear hr0_0 hc0_0
 have HB:=Aside0.mk (Below.refl w.heap.size w)
 have H:((impl_MachSet.f l0_0 a0_1 a0_2).bind fun bt483=>(if bt483.2=true then ((impl_RestMany.f k bt483.1).bind fun bt485=>(some (bt485.1,bt485.2))) else (some (0,false))))=some (r1,r2):=h
 clear h
 replace H:=Option.bind_eq_some_iff.mp H
 obtain ⟨⟨t483,t484⟩,A20,H⟩:=H
 replace H:(if t484=true then ((impl_RestMany.f k t483).bind fun bt485=>(some (bt485.1,bt485.2))) else (some (0,false)))=some (r1,r2):=H
 have A2:=Aside0.mk A20
 clear A20
 by_cases c3:t484=true
 ·subst c3
  have H1:((impl_RestMany.f k t483).bind fun bt485=>(some (bt485.1,bt485.2)))=some (r1,r2):=by rw [if_pos rfl] at H;exact H
  clear H
  have H:=H1
  clear H1
  replace H:=Option.bind_eq_some_iff.mp H
  obtain ⟨⟨t485,t486⟩,A40,H⟩:=H
  replace H:(some (t485,t486))=some (r1,r2):=H
  have A4:=Aside0.mk A40
  clear A40
  simp only [Option.some.injEq,Prod.mk.injEq] at H
  obtain ⟨rfl,rfl⟩:=H
  go_enter Try.func16,Try.ntmps16
  go_wp2_with (first|((with_reducible refine gate_dst (N:=1) rfl ?_);refine box_event ?hg (N:=1) ?hd (cs:=#[.slice A0_0 l0_0.length c0_0,.int .i64 a0_1,.int .i64 a0_2]) (t:=31) ?hr ?_;(case hd=>rfl);(case hg=>rfl);(case hr=>first|(go_simp;done)|(go_simp;rfl));intro gb482 hg w5 hbox hb;have n0_:=Aside0.mk (yP (by repeat (first|(with_reducible first|exact HB.out|apply yA|apply yB|apply yC)|exact HB.out)) hb);have n1_:=Aside0.mk (hbox);have n2_:=Aside0.mk ((by rw [hg];exact (yQ (by repeat (first|(with_reducible first|exact HB.out|apply yA|apply yB|apply yC)|exact HB.out))):w.heap.size≤gb482));have n3_:=Aside0.mk ((by rw [hg];exact (yQ (by repeat (first|(with_reducible first|exact HB.out|apply yA|apply yB|apply yC)|exact HB.out))):w.heap.size≤gb482));clear HB;have HB:=n0_;have BK482:=n1_;have GW482:=n2_;have GE482:=n3_;clear n0_ n1_ n2_ n3_;clear hb hbox hg;have hcz6_0:w5.cell? ⟨gb482,0,none⟩=some (.slice A0_0 l0_0.length c0_0):=(blk_cell BK482.out 0).trans rfl;have hcz6_1:w5.cell? ⟨gb482,1,none⟩=some (.int .i64 a0_1):=(blk_cell BK482.out 1).trans rfl;have hcz6_2:w5.cell? ⟨gb482,2,none⟩=some (.int .i64 a0_2):=(blk_cell BK482.out 2).trans rfl;have hfz6_0:=blk_frozen BK482.out 0;have hfz6_1:=blk_frozen BK482.out 1;have hfz6_2:=blk_frozen BK482.out 2)|((with_reducible refine gate_callee (f:=18) rfl ?_);refine goesL_ (some 8) rfl rfl Try.func18 (by kernel_rfl) rfl #[.agg #[.slice A0_0 l0_0.length c0_0,.int .i64 a0_1,.int .i64 a0_2]] rfl (by (try simp only [List.map_toArray,List.map_cons,List.map_nil]);first|done|rfl|(simp only [List.length_drop,List.length_take];rfl)) ?_;(with_reducible refine (impl_MachSet.calls _ _ l0_0 a0_1 a0_2 t483 true _ ?side1 ?side2 A2.out).mono ?_);(case side1=>repeat (first|exact (Kd.C_below HR0_0.out HB.out)|(with_reducible refine Kd.C_alloc ?_ _)|(with_reducible refine Kd.C_drewN ?_ _)|(with_reducible refine Kd.C_drew ?_)));(case side2=>exact HC0_0.out);rintro e w7 ⟨rfl,hb⟩;refine ⟨_,rfl,?_⟩;have n0_:=Aside0.mk (blk_below (g:=gb482) (o:=.cells #[.slice A0_0 l0_0.length c0_0,.int .i64 a0_1,.int .i64 a0_2] 31 (0,0)) (by (with_reducible repeat (first|refine yE ?_ _|refine yF ?_|refine yG ?_ _));exact BK482.out) hb);have n1_:=Aside0.mk (yP (by repeat (first|(with_reducible first|exact HB.out|apply yA|apply yB|apply yC|refine yD ?_ GE482.out)|exact HB.out)) hb);clear BK482;clear HB;have BK482:=n0_;have HB:=n1_;clear n0_ n1_;(try clear hb);(try clear hb2);(try clear hk);(try clear hi))|((with_reducible refine gate_callee (f:=19) rfl ?_);refine goesL_ (some 14) rfl rfl Try.func19 (by kernel_rfl) rfl #[.string t483] rfl (by (try simp only [List.map_toArray,List.map_cons,List.map_nil]);first|done|rfl|(simp only [List.length_drop,List.length_take];rfl)) ?_;(with_reducible refine (impl_RestMany.calls k t483 t485 t486 _ A4.out).mono ?_);rintro e w8 ⟨rfl,hb⟩;refine ⟨_,rfl,?_⟩;have n0_:=Aside0.mk (blk_below (g:=gb482) (o:=.cells #[.slice A0_0 l0_0.length c0_0,.int .i64 a0_1,.int .i64 a0_2] 31 (0,0)) (by (with_reducible repeat (first|refine yE ?_ _|refine yF ?_|refine yG ?_ _));exact BK482.out) hb);have n1_:=Aside0.mk (yP (by repeat (first|(with_reducible first|exact HB.out|apply yA|apply yB|apply yC|refine yD ?_ GE482.out)|exact HB.out)) hb);clear BK482;clear HB;have BK482:=n0_;have HB:=n1_;clear n0_ n1_;(try clear hb);(try clear hb2);(try clear hk);(try clear hi)))
  go_ret2
  exact ⟨by first|rfl|(simp [errW_none,errW_some]<;>rfl)|(simp [*,errW_none,errW_some]<;>rfl)|(simp [errW_none,errW_some];exact ⟨rfl,rfl⟩),by repeat (first|(with_reducible first|exact HB.out|apply yA|apply yB|apply yC|refine yD ?_ GE482.out)|exact HB.out)⟩
 ·replace c3:=Bool.eq_false_iff.mpr c3
  subst c3
  have H1:(some (0,false))=some (r1,r2):=by rw [if_neg (show ¬ (false=true) by decide)] at H;exact H
  clear H
  have H:=H1
  clear H1
  simp only [Option.some.injEq,Prod.mk.injEq] at H
  obtain ⟨rfl,rfl⟩:=H
  go_enter Try.func16,Try.ntmps16
  go_wp2_with (first|((with_reducible refine gate_dst (N:=1) rfl ?_);refine box_event ?hg (N:=1) ?hd (cs:=#[.slice A0_0 l0_0.length c0_0,.int .i64 a0_1,.int .i64 a0_2]) (t:=31) ?hr ?_;(case hd=>rfl);(case hg=>rfl);(case hr=>first|(go_simp;done)|(go_simp;rfl));intro gb482 hg w9 hbox hb;have n0_:=Aside0.mk (yP (by repeat (first|(with_reducible first|exact HB.out|apply yA|apply yB|apply yC)|exact HB.out)) hb);have n1_:=Aside0.mk (hbox);have n2_:=Aside0.mk ((by rw [hg];exact (yQ (by repeat (first|(with_reducible first|exact HB.out|apply yA|apply yB|apply yC)|exact HB.out))):w.heap.size≤gb482));have n3_:=Aside0.mk ((by rw [hg];exact (yQ (by repeat (first|(with_reducible first|exact HB.out|apply yA|apply yB|apply yC)|exact HB.out))):w.heap.size≤gb482));clear HB;have HB:=n0_;have BK482:=n1_;have GW482:=n2_;have GE482:=n3_;clear n0_ n1_ n2_ n3_;clear hb hbox hg;have hcz10_0:w9.cell? ⟨gb482,0,none⟩=some (.slice A0_0 l0_0.length c0_0):=(blk_cell BK482.out 0).trans rfl;have hcz10_1:w9.cell? ⟨gb482,1,none⟩=some (.int .i64 a0_1):=(blk_cell BK482.out 1).trans rfl;have hcz10_2:w9.cell? ⟨gb482,2,none⟩=some (.int .i64 a0_2):=(blk_cell BK482.out 2).trans rfl;have hfz10_0:=blk_frozen BK482.out 0;have hfz10_1:=blk_frozen BK482.out 1;have hfz10_2:=blk_frozen BK482.out 2)|((with_reducible refine gate_callee (f:=18) rfl ?_);refine goesL_ (some 8) rfl rfl Try.func18 (by kernel_rfl) rfl #[.agg #[.slice A0_0 l0_0.length c0_0,.int .i64 a0_1,.int .i64 a0_2]] rfl (by (try simp only [List.map_toArray,List.map_cons,List.map_nil]);first|done|rfl|(simp only [List.length_drop,List.length_take];rfl)) ?_;(with_reducible refine (impl_MachSet.calls _ _ l0_0 a0_1 a0_2 t483 false _ ?side1 ?side2 A2.out).mono ?_);(case side1=>repeat (first|exact (Kd.C_below HR0_0.out HB.out)|(with_reducible refine Kd.C_alloc ?_ _)|(with_reducible refine Kd.C_drewN ?_ _)|(with_reducible refine Kd.C_drew ?_)));(case side2=>exact HC0_0.out);rintro e w11 ⟨rfl,hb⟩;refine ⟨_,rfl,?_⟩;have n0_:=Aside0.mk (blk_below (g:=gb482) (o:=.cells #[.slice A0_0 l0_0.length c0_0,.int .i64 a0_1,.int .i64 a0_2] 31 (0,0)) (by (with_reducible repeat (first|refine yE ?_ _|refine yF ?_|refine yG ?_ _));exact BK482.out) hb);have n1_:=Aside0.mk (yP (by repeat (first|(with_reducible first|exact HB.out|apply yA|apply yB|apply yC|refine yD ?_ GE482.out)|exact HB.out)) hb);clear BK482;clear HB;have BK482:=n0_;have HB:=n1_;clear n0_ n1_;(try clear hb);(try clear hb2);(try clear hk);(try clear hi)))
  go_ret2
  exact ⟨by first|rfl|(simp [errW_none,errW_some]<;>rfl)|(simp [*,errW_none,errW_some]<;>rfl)|(simp [errW_none,errW_some];exact ⟨rfl,rfl⟩),by repeat (first|(with_reducible first|exact HB.out|apply yA|apply yB|apply yC|refine yD ?_ GE482.out)|exact HB.out)⟩

end Go.Proofs.Ytneadgionjlicaa.P

namespace Go.Proofs.Ytneadgionjlicaa.P
open Go.RowKit Go.Proofs.YtneadgionjlicaaW.PrintWords Go.Proofs.YtneadgionjlicaaW.PrintLast Go.Proofs.YtneadgionjlicaaW.PrintMore
attribute [local go_sem] max2_int min2_int max_two min_two max_three min_three max_four min_four   -- for this text's walks alone
set_option linter.unusedVariables false
set_option linter.unusedSimpArgs false

/-! ### spec_DrawMachFew: function 15 -/
def spec_DrawMachFew.f (k:Nat) (l0:List Int):Option (List Int × Int × Int):=(spec_l6Open.f l0).bind fun bt443=>((spec_l91Machine.f k bt443.1 bt443.2).bind fun bt446=>(some (bt446.1,bt446.2.1,bt446.2.2.1)))
theorem spec_DrawMachFew.mono:∀ a0 k,LeO (spec_DrawMachFew.f k a0) (spec_DrawMachFew.f (k+1) a0):=by
 intro a0 k
 unfold spec_DrawMachFew.f
 repeat' first
   | (with_reducible exact spec_l91Machine.mono _ _ _)
   | (with_reducible exact LeO.refl _)
   | (with_reducible exact LeO.none _)
   | (with_reducible refine LeO.ite ?_ ?_)
   | (with_reducible refine LeO.bind ?_ (fun _=>?_))
   | exact spec_l91Machine.mono _ _ _
   | exact LeO.none _
   | refine LeO.ite ?_ ?_
   | refine LeO.bind ?_ (fun _=>?_)
set_option maxHeartbeats 8000000 in
set_option maxRecDepth 100000 in
theorem spec_DrawMachFew.calls (k:Nat) (A0:Option Addr) (c0:Nat) (l0:List Int) (r1:List Int) (r2:Int) (r3:Int) (w:World) (hr0:Kd.C (Kd.int .u8) w A0 l0.length l0) (hc0:l0.length≤c0) (h:spec_DrawMachFew.f k l0=some (r1,r2,r3)) :
  Calls Try.prog 15 #[.slice A0 l0.length c0] w fun e w'=>∃ v0_:Value,e=.returned (.agg #[v0_,.int .i64 r2,.int .i64 r3])∧Kd.R (Kd.int .i64) 3 w' w.heap.size (fun _=>True) v0_ r1∧Below w.heap.size w w':=by
 have hu31:=Try.underlying31
 have HR0:=Aside0.mk hr0
 have HC0:=Aside0.mk hc0
 clear hr0 hc0
 have HB:=Aside0.mk (Below.refl w.heap.size w)
 have H:((spec_l6Open.f l0).bind fun bt443=>((spec_l91Machine.f k bt443.1 bt443.2).bind fun bt446=>(some (bt446.1,bt446.2.1,bt446.2.2.1))))=some (r1,r2,r3):=h
 clear h
 replace H:=Option.bind_eq_some_iff.mp H
 obtain ⟨⟨t443,t444⟩,A20,H⟩:=H
 replace H:((spec_l91Machine.f k t443 t444).bind fun bt446=>(some (bt446.1,bt446.2.1,bt446.2.2.1)))=some (r1,r2,r3):=H
 have A2:=Aside0.mk A20
 clear A20
 replace H:=Option.bind_eq_some_iff.mp H
 obtain ⟨⟨t446,t449,t450,t451⟩,A30,H⟩:=H
 replace H:(some (t446,t449,t450))=some (r1,r2,r3):=H
 have A3:=Aside0.mk A30
 clear A30
 simp only [Option.some.injEq,Prod.mk.injEq] at H
 obtain ⟨rfl,rfl,rfl⟩:=H
 go_enter Try.func15,Try.ntmps15
 go_wp2_with (first|((with_reducible refine gate_dst (N:=2) rfl ?_);refine box_event ?hg (N:=2) ?hd (cs:=#[.slice none 0 0,.int .i64 0,.int .i64 0]) (t:=31) ?hr ?_;(case hd=>rfl);(case hg=>rfl);(case hr=>first|(go_simp;done)|(go_simp;rfl));intro gb442 hg w4 hbox hb;have n0_:=Aside0.mk (yP (by repeat (first|(with_reducible first|exact HB.out|apply yA|apply yB|apply yC)|exact HB.out)) hb);have n1_:=Aside0.mk (hbox);have n2_:=Aside0.mk ((by rw [hg];exact (yQ (by repeat (first|(with_reducible first|exact HB.out|apply yA|apply yB|apply yC)|exact HB.out))):w.heap.size≤gb442));have n3_:=Aside0.mk ((by rw [hg];exact (yQ (by repeat (first|(with_reducible first|exact HB.out|apply yA|apply yB|apply yC)|exact HB.out))):w.heap.size≤gb442));clear HB;have HB:=n0_;have BK442:=n1_;have GW442:=n2_;have GE442:=n3_;clear n0_ n1_ n2_ n3_;clear hb hbox hg)|((with_reducible refine gate_callee (f:=28) rfl ?_);refine goesL_ (some 5) rfl rfl Try.func28 (by kernel_rfl) rfl #[.slice A0 l0.length c0] rfl (by (try simp only [List.map_toArray,List.map_cons,List.map_nil]);first|done|rfl|(simp only [List.length_drop,List.length_take];rfl)) ?_;(with_reducible refine (spec_l6Open.calls _ _ l0 t443 t444 w _ ?side1 ?side2 ?side3 A2.out).mono ?_);(case side1=>repeat (first|(with_reducible first|exact HB.out|apply yA|apply yB|apply yC|refine yD ?_ GE442.out)|exact HB.out));(case side2=>exact HR0.out);(case side3=>exact HC0.out);rintro e w5 ⟨g445,rfl,hi,hb,hb2⟩;refine ⟨_,rfl,?_⟩;have n0_:=Aside0.mk (blk_below (g:=gb442) (o:=.cells #[.slice none 0 0,.int .i64 0,.int .i64 0] 31 (0,0)) (by (with_reducible repeat (first|refine yE ?_ _|refine yF ?_|refine yG ?_ _));exact BK442.out) hb2);have n1_:=Aside0.mk (hb);have n2_:=Aside0.mk (hi);have n3_:=Aside0.mk (IsS74.ne_blk hi (blk_below (g:=gb442) (o:=.cells #[.slice none 0 0,.int .i64 0,.int .i64 0] 31 (0,0)) (by (with_reducible repeat (first|refine yE ?_ _|refine yF ?_|refine yG ?_ _));exact BK442.out) hb2) (by decide));have n4_:=Aside0.mk (Ne.symm (IsS74.ne_blk hi (blk_below (g:=gb442) (o:=.cells #[.slice none 0 0,.int .i64 0,.int .i64 0] 31 (0,0)) (by (with_reducible repeat (first|refine yE ?_ _|refine yF ?_|refine yG ?_ _));exact BK442.out) hb2) (by decide)));clear BK442;clear HB;have BK442:=n0_;have HB:=n1_;have HI445:=n2_;have NB445_442:=n3_;have NB442_445:=n4_;clear n0_ n1_ n2_ n3_ n4_;(try clear hb);(try clear hb2);(try clear hk);(try clear hi))|((with_reducible refine gate_callee (f:=37) rfl ?_);refine goesL_ (some 7) rfl rfl Try.func37 (by kernel_rfl) rfl #[.pointer (some ⟨g445,0,none⟩)] rfl (by (try simp only [List.map_toArray,List.map_cons,List.map_nil]);first|done|rfl|(simp only [List.length_drop,List.length_take];rfl)) ?_;(with_reducible refine (spec_l91Machine.calls k g445 t443 t444 t446 t449 t450 t451 w _ ?side1 ?side2 A3.out).mono ?_);(case side1=>repeat (first|(with_reducible first|exact HI445.out|apply IsS74.alloc|apply IsS74.drewN|apply IsS74.drew|apply IsS74.set_1|refine IsS74.far ?_ NB445_442.out _)|exact HI445.out));(case side2=>repeat (first|(with_reducible first|exact HB.out|apply yA|apply yB|apply yC|refine yD ?_ (IsS74.ge HI445.out)|refine yD ?_ GE442.out)|exact HB.out));rintro e w6 ⟨v447,rfl,ho0,hi,hb,hk⟩;refine ⟨_,rfl,?_⟩;have n0_:=Aside0.mk (KeepBut.blk hk (g':=gb442) (o:=.cells #[.slice none 0 0,.int .i64 0,.int .i64 0] 31 (0,0)) (by (with_reducible repeat (first|refine yE ?_ _|refine yF ?_|refine yG ?_ _));exact BK442.out) NB442_445.out (by simp));have n1_:=Aside0.mk (Kd.R_lower ho0 (yQ (by repeat (first|(with_reducible first|exact HB.out|apply yA|apply yB|apply yC|refine yD ?_ (IsS74.ge HI445.out)|refine yD ?_ GE442.out)|exact HB.out))));have n2_:=Aside0.mk (hb);have n3_:=Aside0.mk (hi);clear BK442;clear HB;clear HI445;have BK442:=n0_;have HO448:=n1_;have HB:=n2_;have HI445:=n3_;clear n0_ n1_ n2_ n3_;(try clear hb);(try clear hb2);(try clear hk);(try clear hi);(try clear ho0);obtain ⟨Ao7,co7,eo7⟩:=Kd.R_slice HO448.out;subst eo7;have hnb8:=NB442_445.out;have hnc8:=NB445_442.out;have hcz9_0:w6.cell? ⟨gb442,0,none⟩=some (.slice none 0 0):=(blk_cell BK442.out 0).trans rfl;have hcz9_1:w6.cell? ⟨gb442,1,none⟩=some (.int .i64 0):=(blk_cell BK442.out 1).trans rfl;have hcz9_2:w6.cell? ⟨gb442,2,none⟩=some (.int .i64 0):=(blk_cell BK442.out 2).trans rfl;have hfz9_0:=blk_frozen BK442.out 0;have hfz9_1:=blk_frozen BK442.out 1;have hfz9_2:=blk_frozen BK442.out 2))
 refine bodyPost_ret (results_cell_row rfl _ _ gb442 31 #[.slice Ao7 t446.length co7,.int .i64 t449,.int .i64 t450] (0,0) _ rfl (by (with_reducible repeat (first|refine yE ?_ _|refine yF ?_|refine yG ?_ _));refine blk_put (cs:=#[.slice Ao7 t446.length co7,.int .i64 t449,.int .i64 0]) ?_ 2 _ rfl;(with_reducible repeat (first|refine yE ?_ _|refine yF ?_|refine yG ?_ _));refine blk_put (cs:=#[.slice Ao7 t446.length co7,.int .i64 0,.int .i64 0]) ?_ 1 _ rfl;(with_reducible repeat (first|refine yE ?_ _|refine yF ?_|refine yG ?_ _));refine blk_put (cs:=#[.slice none 0 0,.int .i64 0,.int .i64 0]) ?_ 0 _ rfl;(with_reducible repeat (first|refine yE ?_ _|refine yF ?_|refine yG ?_ _));exact BK442.out) Try.underlying31 rfl (by kernel_rfl)) rfl ?_
 exact ⟨_,by first|rfl|(simp [errW_none,errW_some]<;>rfl)|(simp [*,errW_none,errW_some]<;>rfl)|(simp [errW_none,errW_some];exact ⟨rfl,rfl⟩),by (with_reducible repeat (first|apply yH|apply yI|apply yJ));exact Kd.R_mono (Kd.R_far (p:=⟨gb442,2,none⟩) (Kd.R_far (p:=⟨gb442,1,none⟩) (Kd.R_far (p:=⟨gb442,0,none⟩) (Kd.R_types HO448.out BK442.out (by decide)) (fun _ hk=>hk.2) (.slice Ao7 t446.length co7)) (fun _ hk=>hk.2) (.int .i64 t449)) (fun _ hk=>hk.2) (.int .i64 t450)) (fun _ hk=>trivial),by repeat (first|(with_reducible first|exact HB.out|apply yA|apply yB|apply yC|refine yD ?_ (IsS74.ge HI445.out)|refine yD ?_ GE442.out)|exact HB.out)⟩

end Go.Proofs.Ytneadgionjlicaa.P

namespace Go.Proofs.Ytneadgionjlicaa.P
open Go.RowKit Go.Proofs.YtneadgionjlicaaW.PrintWords Go.Proofs.YtneadgionjlicaaW.PrintLast Go.Proofs.YtneadgionjlicaaW.PrintMore
attribute [local go_sem] max2_int min2_int max_two min_two max_three min_three max_four min_four   -- for this text's walks alone
set_option linter.unusedVariables false
set_option linter.unusedSimpArgs false

/-! ### spec_MachFew: function 17 -/
def spec_MachFew.f (k:Nat) (l0_0:List Int) (a0_1:Int) (a0_2:Int):Option (Int × Bool):=(spec_MachIn.f k l0_0 a0_1 a0_2).bind fun t539=>(if t539=true then ((spec_l6mSet.f k l0_0 a0_1 a0_2).bind fun bt540=>(some (wrap64 ((bt540.1.length:Int)+(bt540.2.length:Int)),true))) else (some (0,false)))
theorem spec_MachFew.mono:∀ a0 a1 a2 k,LeO (spec_MachFew.f k a0 a1 a2) (spec_MachFew.f (k+1) a0 a1 a2):=by
 intro a0 a1 a2 k
 unfold spec_MachFew.f
 repeat' first
   | (with_reducible exact spec_MachIn.mono _ _ _ _)
   | (with_reducible exact spec_l6mSet.mono _ _ _ _)
   | (with_reducible exact LeO.refl _)
   | (with_reducible exact LeO.none _)
   | (with_reducible refine LeO.ite ?_ ?_)
   | (with_reducible refine LeO.bind ?_ (fun _=>?_))
   | exact spec_MachIn.mono _ _ _ _
   | exact spec_l6mSet.mono _ _ _ _
   | exact LeO.none _
   | refine LeO.ite ?_ ?_
   | refine LeO.bind ?_ (fun _=>?_)
set_option maxHeartbeats 8000000 in
set_option maxRecDepth 100000 in
theorem spec_MachFew.calls (k:Nat) (A0_0:Option Addr) (c0_0:Nat) (l0_0:List Int) (a0_1:Int) (a0_2:Int) (r1:Int) (r2:Bool) (w:World) (hr0_0:Kd.C (Kd.int .i64) w A0_0 l0_0.length l0_0) (hc0_0:l0_0.length≤c0_0) (h:spec_MachFew.f k l0_0 a0_1 a0_2=some (r1,r2)) :
  Calls Try.prog 17 #[.agg #[.slice A0_0 l0_0.length c0_0,.int .i64 a0_1,.int .i64 a0_2]] w fun e w'=>e=.returned (.tuple #[.int .i64 r1,.bool r2])∧Below w.heap.size w w':=by
 have hu31:=Try.underlying31
 have hu59:=Try.underlying59
 have HR0_0:=Aside0.mk hr0_0
 have HC0_0:=Aside0.mk hc0_0
 clear hr0_0 hc0_0
 have HB:=Aside0.mk (Below.refl w.heap.size w)
 have H:((spec_MachIn.f k l0_0 a0_1 a0_2).bind fun t539=>(if t539=true then ((spec_l6mSet.f k l0_0 a0_1 a0_2).bind fun bt540=>(some (wrap64 ((bt540.1.length:Int)+(bt540.2.length:Int)),true))) else (some (0,false))))=some (r1,r2):=h
 clear h
 replace H:=Option.bind_eq_some_iff.mp H
 obtain ⟨t539,A20,H⟩:=H
 replace H:(if t539=true then ((spec_l6mSet.f k l0_0 a0_1 a0_2).bind fun bt540=>(some (wrap64 ((bt540.1.length:Int)+(bt540.2.length:Int)),true))) else (some (0,false)))=some (r1,r2):=H
 have A2:=Aside0.mk A20
 clear A20
 by_cases c3:t539=true
 ·subst c3
  have H1:((spec_l6mSet.f k l0_0 a0_1 a0_2).bind fun bt540=>(some (wrap64 ((bt540.1.length:Int)+(bt540.2.length:Int)),true)))=some (r1,r2):=by rw [if_pos rfl] at H;exact H
  clear H
  have H:=H1
  clear H1
  replace H:=Option.bind_eq_some_iff.mp H
  obtain ⟨⟨t540,t543⟩,A40,H⟩:=H
  replace H:(some (wrap64 ((t540.length:Int)+(t543.length:Int)),true))=some (r1,r2):=H
  have A4:=Aside0.mk A40
  clear A40
  simp only [Option.some.injEq,Prod.mk.injEq] at H
  obtain ⟨rfl,rfl⟩:=H
  go_enter Try.func17,Try.ntmps17
  go_wp2_with (first|((with_reducible refine gate_dst (N:=1) rfl ?_);refine box_event ?hg (N:=1) ?hd (cs:=#[.slice A0_0 l0_0.length c0_0,.int .i64 a0_1,.int .i64 a0_2]) (t:=31) ?hr ?_;(case hd=>rfl);(case hg=>rfl);(case hr=>first|(go_simp;done)|(go_simp;rfl));intro gb538 hg w5 hbox hb;have n0_:=Aside0.mk (yP (by repeat (first|(with_reducible first|exact HB.out|apply yA|apply yB|apply yC)|exact HB.out)) hb);have n1_:=Aside0.mk (hbox);have n2_:=Aside0.mk ((by rw [hg];exact (yQ (by repeat (first|(with_reducible first|exact HB.out|apply yA|apply yB|apply yC)|exact HB.out))):w.heap.size≤gb538));have n3_:=Aside0.mk ((by rw [hg];exact (yQ (by repeat (first|(with_reducible first|exact HB.out|apply yA|apply yB|apply yC)|exact HB.out))):w.heap.size≤gb538));clear HB;have HB:=n0_;have BK538:=n1_;have GW538:=n2_;have GE538:=n3_;clear n0_ n1_ n2_ n3_;clear hb hbox hg;have hcz6_0:w5.cell? ⟨gb538,0,none⟩=some (.slice A0_0 l0_0.length c0_0):=(blk_cell BK538.out 0).trans rfl;have hcz6_1:w5.cell? ⟨gb538,1,none⟩=some (.int .i64 a0_1):=(blk_cell BK538.out 1).trans rfl;have hcz6_2:w5.cell? ⟨gb538,2,none⟩=some (.int .i64 a0_2):=(blk_cell BK538.out 2).trans rfl;have hfz6_0:=blk_frozen BK538.out 0;have hfz6_1:=blk_frozen BK538.out 1;have hfz6_2:=blk_frozen BK538.out 2)|((with_reducible refine gate_callee (f:=38) rfl ?_);refine goesL_ (some 6) rfl rfl Try.func38 (by kernel_rfl) rfl #[.agg #[.slice A0_0 l0_0.length c0_0,.int .i64 a0_1,.int .i64 a0_2]] rfl (by (try simp only [List.map_toArray,List.map_cons,List.map_nil]);first|done|rfl|(simp only [List.length_drop,List.length_take];rfl)) ?_;(with_reducible refine (spec_MachIn.calls k _ _ l0_0 a0_1 a0_2 true _ ?side1 ?side2 A2.out).mono ?_);(case side1=>repeat (first|exact (Kd.C_below HR0_0.out HB.out)|(with_reducible refine Kd.C_alloc ?_ _)|(with_reducible refine Kd.C_drewN ?_ _)|(with_reducible refine Kd.C_drew ?_)));(case side2=>exact HC0_0.out);rintro e w7 ⟨rfl,hb⟩;refine ⟨_,rfl,?_⟩;have n0_:=Aside0.mk (blk_below (g:=gb538) (o:=.cells #[.slice A0_0 l0_0.length c0_0,.int .i64 a0_1,.int .i64 a0_2] 31 (0,0)) (by (with_reducible repeat (first|refine yE ?_ _|refine yF ?_|refine yG ?_ _));exact BK538.out) hb);have n1_:=Aside0.mk (yP (by repeat (first|(with_reducible first|exact HB.out|apply yA|apply yB|apply yC|refine yD ?_ GE538.out)|exact HB.out)) hb);clear BK538;clear HB;have BK538:=n0_;have HB:=n1_;clear n0_ n1_;(try clear hb);(try clear hb2);(try clear hk);(try clear hi);have hcz8_0:w7.cell? ⟨gb538,0,none⟩=some (.slice A0_0 l0_0.length c0_0):=(blk_cell BK538.out 0).trans rfl;have hcz8_1:w7.cell? ⟨gb538,1,none⟩=some (.int .i64 a0_1):=(blk_cell BK538.out 1).trans rfl;have hcz8_2:w7.cell? ⟨gb538,2,none⟩=some (.int .i64 a0_2):=(blk_cell BK538.out 2).trans rfl;have hfz8_0:=blk_frozen BK538.out 0;have hfz8_1:=blk_frozen BK538.out 1;have hfz8_2:=blk_frozen BK538.out 2)|((with_reducible refine gate_callee (f:=39) rfl ?_);refine goesL_ (some 9) rfl rfl Try.func39 (by kernel_rfl) rfl #[.agg #[.slice A0_0 l0_0.length c0_0,.int .i64 a0_1,.int .i64 a0_2]] rfl (by (try simp only [List.map_toArray,List.map_cons,List.map_nil]);first|done|rfl|(simp only [List.length_drop,List.length_take];rfl)) ?_;(with_reducible refine (spec_l6mSet.calls k _ _ l0_0 a0_1 a0_2 t540 t543 _ ?side1 ?side2 A4.out).mono ?_);(case side1=>repeat (first|exact (Kd.C_below HR0_0.out HB.out)|(with_reducible refine Kd.C_alloc ?_ _)|(with_reducible refine Kd.C_drewN ?_ _)|(with_reducible refine Kd.C_drew ?_)));(case side2=>exact HC0_0.out);rintro e w9 ⟨v541,v544,rfl,ho0,ho1,hb⟩;refine ⟨_,rfl,?_⟩;have n0_:=Aside0.mk (Kd.V_lower (Kd.V_mono (ok':=fun k_=>k_≠gb538) ho0 (fun k_ hk_=>(Kd.freshB (g:=gb538) (o:=.cells #[.slice A0_0 l0_0.length c0_0,.int .i64 a0_1,.int .i64 a0_2] 31 (0,0)) (by (with_reducible repeat (first|refine yE ?_ _|refine yF ?_|refine yG ?_ _));exact BK538.out) k_ hk_))) (yQ (by repeat (first|(with_reducible first|exact HB.out|apply yA|apply yB|apply yC|refine yD ?_ GE538.out)|exact HB.out))));have n1_:=Aside0.mk (Kd.V_lower (Kd.V_mono (ok':=fun k_=>k_≠gb538) ho1 (fun k_ hk_=>(Kd.freshB (g:=gb538) (o:=.cells #[.slice A0_0 l0_0.length c0_0,.int .i64 a0_1,.int .i64 a0_2] 31 (0,0)) (by (with_reducible repeat (first|refine yE ?_ _|refine yF ?_|refine yG ?_ _));exact BK538.out) k_ hk_))) (yQ (by repeat (first|(with_reducible first|exact HB.out|apply yA|apply yB|apply yC|refine yD ?_ GE538.out)|exact HB.out))));have n2_:=Aside0.mk (blk_below (g:=gb538) (o:=.cells #[.slice A0_0 l0_0.length c0_0,.int .i64 a0_1,.int .i64 a0_2] 31 (0,0)) (by (with_reducible repeat (first|refine yE ?_ _|refine yF ?_|refine yG ?_ _));exact BK538.out) hb);have n3_:=Aside0.mk (yP (by repeat (first|(with_reducible first|exact HB.out|apply yA|apply yB|apply yC|refine yD ?_ GE538.out)|exact HB.out)) hb);clear BK538;clear HB;have HO542:=n0_;have HO545:=n1_;have BK538:=n2_;have HB:=n3_;clear n0_ n1_ n2_ n3_;(try clear hb);(try clear hb2);(try clear hk);(try clear hi);(try clear ho0);(try clear ho1))|((with_reducible refine gate_dst (N:=4) rfl ?_);refine box_event ?hg (N:=4) ?hd (cs:=#[.slice none 0 0,.slice none 0 0]) (t:=59) ?hr ?_;(case hd=>rfl);(case hg=>rfl);(case hr=>first|(go_simp;done)|(go_simp;rfl));intro gb546 hg w10 hbox hb;have n0_:=Aside0.mk (Kd.V_below (Kd.V_elderB (by (with_reducible repeat (first|apply Kd.V_alloc|apply Kd.V_drewN|apply Kd.V_drew));exact HO542.out) gb546 (Nat.le_of_eq hg.symm)) hb);have n1_:=Aside0.mk (Kd.V_below (Kd.V_elderB (by (with_reducible repeat (first|apply Kd.V_alloc|apply Kd.V_drewN|apply Kd.V_drew));exact HO545.out) gb546 (Nat.le_of_eq hg.symm)) hb);have n2_:=Aside0.mk (blk_below (g:=gb538) (o:=.cells #[.slice A0_0 l0_0.length c0_0,.int .i64 a0_1,.int .i64 a0_2] 31 (0,0)) (by (with_reducible repeat (first|refine yE ?_ _|refine yF ?_|refine yG ?_ _));exact BK538.out) hb);have n3_:=Aside0.mk (yP (by repeat (first|(with_reducible first|exact HB.out|apply yA|apply yB|apply yC|refine yD ?_ GE538.out)|exact HB.out)) hb);have n4_:=Aside0.mk (hbox);have n5_:=Aside0.mk ((by rw [hg];exact (yQ (by repeat (first|(with_reducible first|exact HB.out|apply yA|apply yB|apply yC|refine yD ?_ GE538.out)|exact HB.out))):w.heap.size≤gb546));have n6_:=Aside0.mk ((by rw [hg];exact (yQ (by repeat (first|(with_reducible first|exact HB.out|apply yA|apply yB|apply yC|refine yD ?_ GE538.out)|exact HB.out))):w.heap.size≤gb546));have n7_:=Aside0.mk ((by rw [hg];exact Nat.ne_of_lt (blk_lt (g:=gb538) (o:=.cells #[.slice A0_0 l0_0.length c0_0,.int .i64 a0_1,.int .i64 a0_2] 31 (0,0)) (by (with_reducible repeat (first|refine yE ?_ _|refine yF ?_|refine yG ?_ _));exact BK538.out)):gb538≠gb546));have n8_:=Aside0.mk ((by rw [hg];exact Nat.ne_of_gt (blk_lt (g:=gb538) (o:=.cells #[.slice A0_0 l0_0.length c0_0,.int .i64 a0_1,.int .i64 a0_2] 31 (0,0)) (by (with_reducible repeat (first|refine yE ?_ _|refine yF ?_|refine yG ?_ _));exact BK538.out)):gb546≠gb538));clear HO542;clear HO545;clear BK538;clear HB;have HO542:=n0_;have HO545:=n1_;have BK538:=n2_;have HB:=n3_;have BK546:=n4_;have GW546:=n5_;have GE546:=n6_;have NB538_546:=n7_;have NB546_538:=n8_;clear n0_ n1_ n2_ n3_ n4_ n5_ n6_ n7_ n8_;clear hb hbox hg;obtain ⟨Ao11,co11,eo11⟩:=Kd.V_slice HO542.out;subst eo11;have hnb12:=NB546_538.out;have hnc12:=NB538_546.out;have hcz13_0:w10.cell? ⟨gb546,0,none⟩=some (.slice none 0 0):=(blk_cell BK546.out 0).trans rfl;have hcz13_1:w10.cell? ⟨gb546,1,none⟩=some (.slice none 0 0):=(blk_cell BK546.out 1).trans rfl;have hfz13_0:=blk_frozen BK546.out 0;have hfz13_1:=blk_frozen BK546.out 1;obtain ⟨Ao14,co14,eo14⟩:=Kd.V_slice HO545.out;subst eo14))
  go_ret2
  exact ⟨by first|rfl|(simp [errW_none,errW_some]<;>rfl)|(simp [*,errW_none,errW_some]<;>rfl)|(simp [errW_none,errW_some];exact ⟨rfl,rfl⟩),by repeat (first|(with_reducible first|exact HB.out|apply yA|apply yB|apply yC|refine yD ?_ GE538.out|refine yD ?_ GE546.out)|exact HB.out)⟩
 ·replace c3:=Bool.eq_false_iff.mpr c3
  subst c3
  have H1:(some (0,false))=some (r1,r2):=by rw [if_neg (show ¬ (false=true) by decide)] at H;exact H
  clear H
  have H:=H1
  clear H1
  simp only [Option.some.injEq,Prod.mk.injEq] at H
  obtain ⟨rfl,rfl⟩:=H
  go_enter Try.func17,Try.ntmps17
  go_wp2_with (first|((with_reducible refine gate_dst (N:=1) rfl ?_);refine box_event ?hg (N:=1) ?hd (cs:=#[.slice A0_0 l0_0.length c0_0,.int .i64 a0_1,.int .i64 a0_2]) (t:=31) ?hr ?_;(case hd=>rfl);(case hg=>rfl);(case hr=>first|(go_simp;done)|(go_simp;rfl));intro gb538 hg w15 hbox hb;have n0_:=Aside0.mk (yP (by repeat (first|(with_reducible first|exact HB.out|apply yA|apply yB|apply yC)|exact HB.out)) hb);have n1_:=Aside0.mk (hbox);have n2_:=Aside0.mk ((by rw [hg];exact (yQ (by repeat (first|(with_reducible first|exact HB.out|apply yA|apply yB|apply yC)|exact HB.out))):w.heap.size≤gb538));have n3_:=Aside0.mk ((by rw [hg];exact (yQ (by repeat (first|(with_reducible first|exact HB.out|apply yA|apply yB|apply yC)|exact HB.out))):w.heap.size≤gb538));clear HB;have HB:=n0_;have BK538:=n1_;have GW538:=n2_;have GE538:=n3_;clear n0_ n1_ n2_ n3_;clear hb hbox hg;have hcz16_0:w15.cell? ⟨gb538,0,none⟩=some (.slice A0_0 l0_0.length c0_0):=(blk_cell BK538.out 0).trans rfl;have hcz16_1:w15.cell? ⟨gb538,1,none⟩=some (.int .i64 a0_1):=(blk_cell BK538.out 1).trans rfl;have hcz16_2:w15.cell? ⟨gb538,2,none⟩=some (.int .i64 a0_2):=(blk_cell BK538.out 2).trans rfl;have hfz16_0:=blk_frozen BK538.out 0;have hfz16_1:=blk_frozen BK538.out 1;have hfz16_2:=blk_frozen BK538.out 2)|((with_reducible refine gate_callee (f:=38) rfl ?_);refine goesL_ (some 6) rfl rfl Try.func38 (by kernel_rfl) rfl #[.agg #[.slice A0_0 l0_0.length c0_0,.int .i64 a0_1,.int .i64 a0_2]] rfl (by (try simp only [List.map_toArray,List.map_cons,List.map_nil]);first|done|rfl|(simp only [List.length_drop,List.length_take];rfl)) ?_;(with_reducible refine (spec_MachIn.calls k _ _ l0_0 a0_1 a0_2 false _ ?side1 ?side2 A2.out).mono ?_);(case side1=>repeat (first|exact (Kd.C_below HR0_0.out HB.out)|(with_reducible refine Kd.C_alloc ?_ _)|(with_reducible refine Kd.C_drewN ?_ _)|(with_reducible refine Kd.C_drew ?_)));(case side2=>exact HC0_0.out);rintro e w17 ⟨rfl,hb⟩;refine ⟨_,rfl,?_⟩;have n0_:=Aside0.mk (blk_below (g:=gb538) (o:=.cells #[.slice A0_0 l0_0.length c0_0,.int .i64 a0_1,.int .i64 a0_2] 31 (0,0)) (by (with_reducible repeat (first|refine yE ?_ _|refine yF ?_|refine yG ?_ _));exact BK538.out) hb);have n1_:=Aside0.mk (yP (by repeat (first|(with_reducible first|exact HB.out|apply yA|apply yB|apply yC|refine yD ?_ GE538.out)|exact HB.out)) hb);clear BK538;clear HB;have BK538:=n0_;have HB:=n1_;clear n0_ n1_;(try clear hb);(try clear hb2);(try clear hk);(try clear hi)))
  go_ret2
  exact ⟨by first|rfl|(simp [errW_none,errW_some]<;>rfl)|(simp [*,errW_none,errW_some]<;>rfl)|(simp [errW_none,errW_some];exact ⟨rfl,rfl⟩),by repeat (first|(with_reducible first|exact HB.out|apply yA|apply yB|apply yC|refine yD ?_ GE538.out)|exact HB.out)⟩

end Go.Proofs.Ytneadgionjlicaa.P

namespace Go.Proofs.Ytneadgionjlicaa.P
open Go.RowKit Go.Proofs.YtneadgionjlicaaW.PrintWords Go.Proofs.YtneadgionjlicaaW.PrintLast Go.Proofs.YtneadgionjlicaaW.PrintMore
attribute [local go_sem] max2_int min2_int max_two min_two max_three min_three max_four min_four   -- for this text's walks alone
set_option linter.unusedVariables false
set_option linter.unusedSimpArgs false

/-! ### laws_FnMachFew: function 5 -/
mutual
noncomputable def laws_FnMachFew.j0:Nat→Int→Bool→Bool→List Int→Int→Int→Option (Bool)
 | 0,_,_,_,_,_,_=>none
 | k+1,x4,x5,x8,x553000,x553001,x553002=>if x8=true then (laws_FnMachFew.j1 k x4 x8 (!x5) x553000 x553001 x553002) else (laws_FnMachFew.j1 k x4 x8 true x553000 x553001 x553002)
noncomputable def laws_FnMachFew.j1:Nat→Int→Bool→Bool→List Int→Int→Int→Option (Bool)
 | 0,_,_,_,_,_,_=>none
 | k+1,x4,x8,x41,x553000,x553001,x553002=>if x41=true then (some x8) else ((impl_MachSet.f x553000 x553001 x553002).bind fun bt557=>((impl_RestMany.f k bt557.1).bind fun bt559=>(if bt557.2=true then (if bt559.2=true then (some (bt559.1 == x4)) else (some false)) else (some true))))
end
noncomputable def laws_FnMachFew.f (k:Nat) (l0:List Int):Option (Bool):=if (l0.length:Int) > 1048576 then (some true) else ((spec_DrawMachFew.f k l0).bind fun bt547=>((impl_MachFew.f k bt547.1 bt547.2.1 bt547.2.2).bind fun bt553=>((spec_MachFew.f k bt547.1 bt547.2.1 bt547.2.2).bind fun bt555=>(if bt553.1=bt555.1 then (laws_FnMachFew.j0 k bt553.1 bt553.2 (bt553.2 == bt555.2) bt547.1 bt547.2.1 bt547.2.2) else (laws_FnMachFew.j0 k bt553.1 bt553.2 false bt547.1 bt547.2.1 bt547.2.2)))))
theorem laws_FnMachFew.mono_l:∀ k,(∀ y0 y1 y2 y3 y4 y5,LeO (laws_FnMachFew.j0 k y0 y1 y2 y3 y4 y5) (laws_FnMachFew.j0 (k+1) y0 y1 y2 y3 y4 y5))∧(∀ y0 y1 y2 y3 y4 y5,LeO (laws_FnMachFew.j1 k y0 y1 y2 y3 y4 y5) (laws_FnMachFew.j1 (k+1) y0 y1 y2 y3 y4 y5))
 | 0=>⟨fun _ _ _ _ _ _ r h=>by simp [laws_FnMachFew.j0] at h,fun _ _ _ _ _ _ r h=>by simp [laws_FnMachFew.j1] at h⟩
 | k+1=>by
  obtain ⟨ih0,ih1⟩:=laws_FnMachFew.mono_l k
  refine ⟨?_,?_⟩
  ·intro y0 y1 y2 y3 y4 y5
   unfold laws_FnMachFew.j0
   repeat' first
   | (with_reducible exact ih0 _ _ _ _ _ _)
   | (with_reducible exact ih1 _ _ _ _ _ _)
   | (with_reducible exact impl_MachFew.mono _ _ _ _)
   | (with_reducible exact impl_RestMany.mono _ _)
   | (with_reducible exact spec_DrawMachFew.mono _ _)
   | (with_reducible exact spec_MachFew.mono _ _ _ _)
   | (with_reducible exact LeO.refl _)
   | (with_reducible exact LeO.none _)
   | (with_reducible refine LeO.ite ?_ ?_)
   | (with_reducible refine LeO.bind ?_ (fun _=>?_))
   | exact ih0 _ _ _ _ _ _
   | exact ih1 _ _ _ _ _ _
   | exact impl_MachFew.mono _ _ _ _
   | exact impl_RestMany.mono _ _
   | exact spec_DrawMachFew.mono _ _
   | exact spec_MachFew.mono _ _ _ _
   | exact LeO.none _
   | refine LeO.ite ?_ ?_
   | refine LeO.bind ?_ (fun _=>?_)
  ·intro y0 y1 y2 y3 y4 y5
   unfold laws_FnMachFew.j1
   repeat' first
   | (with_reducible exact ih0 _ _ _ _ _ _)
   | (with_reducible exact ih1 _ _ _ _ _ _)
   | (with_reducible exact impl_MachFew.mono _ _ _ _)
   | (with_reducible exact impl_RestMany.mono _ _)
   | (with_reducible exact spec_DrawMachFew.mono _ _)
   | (with_reducible exact spec_MachFew.mono _ _ _ _)
   | (with_reducible exact LeO.refl _)
   | (with_reducible exact LeO.none _)
   | (with_reducible refine LeO.ite ?_ ?_)
   | (with_reducible refine LeO.bind ?_ (fun _=>?_))
   | exact ih0 _ _ _ _ _ _
   | exact ih1 _ _ _ _ _ _
   | exact impl_MachFew.mono _ _ _ _
   | exact impl_RestMany.mono _ _
   | exact spec_DrawMachFew.mono _ _
   | exact spec_MachFew.mono _ _ _ _
   | exact LeO.none _
   | refine LeO.ite ?_ ?_
   | refine LeO.bind ?_ (fun _=>?_)
theorem laws_FnMachFew.mono:∀ a0 k,LeO (laws_FnMachFew.f k a0) (laws_FnMachFew.f (k+1) a0):=by
 intro a0 k
 obtain ⟨ih0,ih1⟩:=laws_FnMachFew.mono_l k
 unfold laws_FnMachFew.f
 repeat' first
   | (with_reducible exact ih0 _ _ _ _ _ _)
   | (with_reducible exact ih1 _ _ _ _ _ _)
   | (with_reducible exact impl_MachFew.mono _ _ _ _)
   | (with_reducible exact impl_RestMany.mono _ _)
   | (with_reducible exact spec_DrawMachFew.mono _ _)
   | (with_reducible exact spec_MachFew.mono _ _ _ _)
   | (with_reducible exact LeO.refl _)
   | (with_reducible exact LeO.none _)
   | (with_reducible refine LeO.ite ?_ ?_)
   | (with_reducible refine LeO.bind ?_ (fun _=>?_))
   | exact ih0 _ _ _ _ _ _
   | exact ih1 _ _ _ _ _ _
   | exact impl_MachFew.mono _ _ _ _
   | exact impl_RestMany.mono _ _
   | exact spec_DrawMachFew.mono _ _
   | exact spec_MachFew.mono _ _ _ _
   | exact LeO.none _
   | refine LeO.ite ?_ ?_
   | refine LeO.bind ?_ (fun _=>?_)
set_option maxHeartbeats 8000000 in
set_option maxRecDepth 100000 in
theorem laws_FnMachFew.calls (k:Nat) (A0:Option Addr) (c0:Nat) (l0:List Int) (r:Bool) (w:World) (hr0:Kd.C (Kd.int .u8) w A0 l0.length l0) (hc0:l0.length≤c0) (h:laws_FnMachFew.f k l0=some r) :
  Calls Try.prog 5 #[.slice A0 l0.length c0] w fun e w'=>e=.returned (.bool r)∧Below w.heap.size w w':=by
 have hu31:=Try.underlying31
 have HR0:=Aside0.mk hr0
 have HC0:=Aside0.mk hc0
 clear hr0 hc0
 have HB:=Aside0.mk (Below.refl w.heap.size w)
 have H:(if (l0.length:Int) > 1048576 then (some true) else ((spec_DrawMachFew.f k l0).bind fun bt547=>((impl_MachFew.f k bt547.1 bt547.2.1 bt547.2.2).bind fun bt553=>((spec_MachFew.f k bt547.1 bt547.2.1 bt547.2.2).bind fun bt555=>(if bt553.1=bt555.1 then (laws_FnMachFew.j0 k bt553.1 bt553.2 (bt553.2 == bt555.2) bt547.1 bt547.2.1 bt547.2.2) else (laws_FnMachFew.j0 k bt553.1 bt553.2 false bt547.1 bt547.2.1 bt547.2.2))))))=some r:=h
 clear h
 by_cases c2:(l0.length:Int) > 1048576
 ·rw [if_pos c2] at H
  have c2b0:decide (1048576<(l0.length:Int))=true:=decide_eq_true c2
  have c2b1:decide (1048576<l0.length)=true:=decide_eq_true (by omega)
  clear c2
  obtain rfl:=Option.some.inj H
  go_enter Try.func5,Try.ntmps5
  go_wp2
  go_ret
  exact ⟨by first|rfl|(simp [errW_none,errW_some]<;>rfl)|(simp [*,errW_none,errW_some]<;>rfl)|(simp [errW_none,errW_some];exact ⟨rfl,rfl⟩),by repeat (first|(with_reducible first|exact HB.out|apply yA|apply yB|apply yC)|exact HB.out)⟩
 ·rw [if_neg c2] at H
  have c2b0:decide (1048576<(l0.length:Int))=false:=decide_eq_false c2
  have c2b1:decide (1048576<l0.length)=false:=decide_eq_false (by omega)
  clear c2
  replace H:=Option.bind_eq_some_iff.mp H
  obtain ⟨⟨t547,t550,t551⟩,A30,H⟩:=H
  replace H:((impl_MachFew.f k t547 t550 t551).bind fun bt553=>((spec_MachFew.f k t547 t550 t551).bind fun bt555=>(if bt553.1=bt555.1 then (laws_FnMachFew.j0 k bt553.1 bt553.2 (bt553.2 == bt555.2) t547 t550 t551) else (laws_FnMachFew.j0 k bt553.1 bt553.2 false t547 t550 t551))))=some r:=H
  have A3:=Aside0.mk A30
  clear A30
  replace H:=Option.bind_eq_some_iff.mp H
  obtain ⟨⟨t553,t554⟩,A40,H⟩:=H
  replace H:((spec_MachFew.f k t547 t550 t551).bind fun bt555=>(if t553=bt555.1 then (laws_FnMachFew.j0 k t553 t554 (t554 == bt555.2) t547 t550 t551) else (laws_FnMachFew.j0 k t553 t554 false t547 t550 t551)))=some r:=H
  have A4:=Aside0.mk A40
  clear A40
  replace H:=Option.bind_eq_some_iff.mp H
  obtain ⟨⟨t555,t556⟩,A50,H⟩:=H
  replace H:(if t553=t555 then (laws_FnMachFew.j0 k t553 t554 (t554 == t556) t547 t550 t551) else (laws_FnMachFew.j0 k t553 t554 false t547 t550 t551))=some r:=H
  have A5:=Aside0.mk A50
  clear A50
  have HC6:=Aside0.mk H
  clear H
  go_enter Try.func5,Try.ntmps5
  go_upto_region 6 with (first|((with_reducible refine gate_callee (f:=15) rfl ?_);refine goesL_ (some 17) rfl rfl Try.func15 (by kernel_rfl) rfl #[.slice A0 l0.length c0] rfl (by (try simp only [List.map_toArray,List.map_cons,List.map_nil]);first|done|rfl|(simp only [List.length_drop,List.length_take];rfl)) ?_;(with_reducible refine (spec_DrawMachFew.calls k _ _ l0 t547 t550 t551 _ ?side1 ?side2 A3.out).mono ?_);(case side1=>repeat (first|exact HR0.out|(with_reducible refine Kd.C_alloc ?_ _)|(with_reducible refine Kd.C_drewN ?_ _)|(with_reducible refine Kd.C_drew ?_)));(case side2=>exact HC0.out);rintro e w7 ⟨v548,rfl,ho0,hb⟩;refine ⟨_,rfl,?_⟩;have n0_:=Aside0.mk (Kd.R_lower ho0 (yQ (by repeat (first|(with_reducible first|exact HB.out|apply yA|apply yB|apply yC)|exact HB.out))));have n1_:=Aside0.mk (yP (by repeat (first|(with_reducible first|exact HB.out|apply yA|apply yB|apply yC)|exact HB.out)) hb);clear HB;have HO549:=n0_;have HB:=n1_;clear n0_ n1_;(try clear hb);(try clear hb2);(try clear hk);(try clear hi);(try clear ho0))|((with_reducible refine gate_dst (N:=3) rfl ?_);refine box_event ?hg (N:=3) ?hd (cs:=#[.slice none 0 0,.int .i64 0,.int .i64 0]) (t:=31) ?hr ?_;(case hd=>rfl);(case hg=>rfl);(case hr=>first|(go_simp;done)|(go_simp;rfl));intro gb552 hg w8 hbox hb;have n0_:=Aside0.mk (Kd.R_below (by (with_reducible repeat (first|apply yH|apply yI|apply yJ));exact HO549.out) hb);have n1_:=Aside0.mk (yP (by repeat (first|(with_reducible first|exact HB.out|apply yA|apply yB|apply yC)|exact HB.out)) hb);have n2_:=Aside0.mk (hbox);have n3_:=Aside0.mk ((by rw [hg];exact (yQ (by repeat (first|(with_reducible first|exact HB.out|apply yA|apply yB|apply yC)|exact HB.out))):w.heap.size≤gb552));have n4_:=Aside0.mk ((by rw [hg];exact (yQ (by repeat (first|(with_reducible first|exact HB.out|apply yA|apply yB|apply yC)|exact HB.out))):w.heap.size≤gb552));clear HO549;clear HB;have HO549:=n0_;have HB:=n1_;have BK552:=n2_;have GW552:=n3_;have GE552:=n4_;clear n0_ n1_ n2_ n3_ n4_;clear hb hbox hg;obtain ⟨Ao9,co9,eo9⟩:=Kd.R_slice HO549.out;subst eo9;have hcz10_0:w8.cell? ⟨gb552,0,none⟩=some (.slice none 0 0):=(blk_cell BK552.out 0).trans rfl;have hcz10_1:w8.cell? ⟨gb552,1,none⟩=some (.int .i64 0):=(blk_cell BK552.out 1).trans rfl;have hcz10_2:w8.cell? ⟨gb552,2,none⟩=some (.int .i64 0):=(blk_cell BK552.out 2).trans rfl;have hfz10_0:=blk_frozen BK552.out 0;have hfz10_1:=blk_frozen BK552.out 1;have hfz10_2:=blk_frozen BK552.out 2)|((with_reducible refine gate_callee (f:=16) rfl ?_);refine goesL_ (some 20) rfl rfl Try.func16 (by kernel_rfl) rfl #[.agg #[.slice Ao9 t547.length co9,.int .i64 t550,.int .i64 t551]] rfl (by (try simp only [List.map_toArray,List.map_cons,List.map_nil]);first|done|rfl|(simp only [List.length_drop,List.length_take];rfl)) ?_;(with_reducible refine (impl_MachFew.calls k _ _ t547 t550 t551 t553 t554 _ ?side1 ?side2 A4.out).mono ?_);(case side1=>refine (Kd.R_reads' (e:=3) (base:=w.heap.size) (ok:=fun k_=>True) (n:=t547.length) (c:=co9) ?_).2.2;exact (by (with_reducible repeat (first|apply yH|apply yI|apply yJ));exact (Kd.R_mono (Kd.R_far (p:=⟨gb552,2,none⟩) (Kd.R_far (p:=⟨gb552,1,none⟩) (Kd.R_far (p:=⟨gb552,0,none⟩) (Kd.R_types HO549.out BK552.out (by decide)) (fun _ hk=>hk.2) (.slice Ao9 t547.length co9)) (fun _ hk=>hk.2) (.int .i64 t550)) (fun _ hk=>hk.2) (.int .i64 t551)) (fun _ h_=>h_.1))));(case side2=>exact (Kd.R_reads' HO549.out).2.1);rintro e w11 ⟨rfl,hb⟩;refine ⟨_,rfl,?_⟩;have n0_:=Aside0.mk (Kd.R_below (by (with_reducible repeat (first|apply yH|apply yI|apply yJ));exact (Kd.R_mono (Kd.R_far (p:=⟨gb552,2,none⟩) (Kd.R_far (p:=⟨gb552,1,none⟩) (Kd.R_far (p:=⟨gb552,0,none⟩) (Kd.R_types HO549.out BK552.out (by decide)) (fun _ hk=>hk.2) (.slice Ao9 t547.length co9)) (fun _ hk=>hk.2) (.int .i64 t550)) (fun _ hk=>hk.2) (.int .i64 t551)) (fun _ h_=>h_.1))) hb);have n1_:=Aside0.mk (blk_below (g:=gb552) (o:=.cells #[.slice Ao9 t547.length co9,.int .i64 t550,.int .i64 t551] 31 (0,0)) (by (with_reducible repeat (first|refine yE ?_ _|refine yF ?_|refine yG ?_ _));refine blk_put (cs:=#[.slice Ao9 t547.length co9,.int .i64 t550,.int .i64 0]) ?_ 2 _ rfl;(with_reducible repeat (first|refine yE ?_ _|refine yF ?_|refine yG ?_ _));refine blk_put (cs:=#[.slice Ao9 t547.length co9,.int .i64 0,.int .i64 0]) ?_ 1 _ rfl;(with_reducible repeat (first|refine yE ?_ _|refine yF ?_|refine yG ?_ _));refine blk_put (cs:=#[.slice none 0 0,.int .i64 0,.int .i64 0]) ?_ 0 _ rfl;(with_reducible repeat (first|refine yE ?_ _|refine yF ?_|refine yG ?_ _));exact BK552.out) hb);have n2_:=Aside0.mk (yP (by repeat (first|(with_reducible first|exact HB.out|apply yA|apply yB|apply yC|refine yD ?_ GE552.out)|exact HB.out)) hb);clear HO549;clear BK552;clear HB;have HO549:=n0_;have BK552:=n1_;have HB:=n2_;clear n0_ n1_ n2_;(try clear hb);(try clear hb2);(try clear hk);(try clear hi);have hcz12_0:w11.cell? ⟨gb552,0,none⟩=some (.slice Ao9 t547.length co9):=(blk_cell BK552.out 0).trans rfl;have hcz12_1:w11.cell? ⟨gb552,1,none⟩=some (.int .i64 t550):=(blk_cell BK552.out 1).trans rfl;have hcz12_2:w11.cell? ⟨gb552,2,none⟩=some (.int .i64 t551):=(blk_cell BK552.out 2).trans rfl;have hfz12_0:=blk_frozen BK552.out 0;have hfz12_1:=blk_frozen BK552.out 1;have hfz12_2:=blk_frozen BK552.out 2)|((with_reducible refine gate_callee (f:=17) rfl ?_);refine goesL_ (some 25) rfl rfl Try.func17 (by kernel_rfl) rfl #[.agg #[.slice Ao9 t547.length co9,.int .i64 t550,.int .i64 t551]] rfl (by (try simp only [List.map_toArray,List.map_cons,List.map_nil]);first|done|rfl|(simp only [List.length_drop,List.length_take];rfl)) ?_;(with_reducible refine (spec_MachFew.calls k _ _ t547 t550 t551 t555 t556 _ ?side1 ?side2 A5.out).mono ?_);(case side1=>repeat (first|exact (Kd.R_reads' HO549.out).2.2|(with_reducible refine Kd.C_alloc ?_ _)|(with_reducible refine Kd.C_drewN ?_ _)|(with_reducible refine Kd.C_drew ?_)));(case side2=>exact (Kd.R_reads' HO549.out).2.1);rintro e w13 ⟨rfl,hb⟩;refine ⟨_,rfl,?_⟩;have n0_:=Aside0.mk (Kd.R_below (by (with_reducible repeat (first|apply yH|apply yI|apply yJ));exact HO549.out) hb);have n1_:=Aside0.mk (blk_below (g:=gb552) (o:=.cells #[.slice Ao9 t547.length co9,.int .i64 t550,.int .i64 t551] 31 (0,0)) (by (with_reducible repeat (first|refine yE ?_ _|refine yF ?_|refine yG ?_ _));exact BK552.out) hb);have n2_:=Aside0.mk (yP (by repeat (first|(with_reducible first|exact HB.out|apply yA|apply yB|apply yC|refine yD ?_ GE552.out)|exact HB.out)) hb);clear HO549;clear BK552;clear HB;have HO549:=n0_;have BK552:=n1_;have HB:=n2_;clear n0_ n1_ n2_;(try clear hb);(try clear hb2);(try clear hk);(try clear hi)))
  (try simp only [Act.put,yK,yL,yM])
  go_cut [8] (fun v8 wc=>∃ (kq:Nat) (x8_5:Bool),v8=.bool x8_5∧Aside0 (laws_FnMachFew.j0 kq t553 t554 x8_5 t547 t550 t551=some r)∧Aside0 (kq≤k)∧Aside0 (Kd.R (Kd.int .i64) 3 wc w.heap.size (fun _=>True) (.slice Ao9 t547.length co9) t547)∧Aside0 (wc.heap[gb552]?=some (.cells #[(.slice Ao9 t547.length co9),.int .i64 t550,.int .i64 t551] 31 (0,0)))∧Aside0 (Below w.heap.size w wc))
  case first =>
   have H:=HC6.out
   clear HC6
   by_cases c14:t553=t555
   ·rw [if_pos c14] at H
    have c14b0:(t553 == t555)=true:=beq_iff_eq.mpr c14
    have c14b1:(t553 != t555)=false:=bne_eq_false_iff_eq.mpr c14
    clear c14
    (first|rw [c14b0]|(simp only [i64_w,i32_w];rw [c14b0])|skip)
    have H':=Aside0.mk H
    clear H
    go_wp2
    go_meet
    case rel=>exact ⟨_,((t554 == t556)),(by first|rfl|(simp;done)|(simp [*];done)|(simp [Int.tmod_eq_emod_of_nonneg];done)),H',⟨by first|omega|exact Nat.le_refl _⟩,⟨by (with_reducible repeat (first|apply yH|apply yI|apply yJ));exact HO549.out⟩,⟨by (with_reducible repeat (first|refine yE ?_ _|refine yF ?_|refine yG ?_ _));exact BK552.out⟩,⟨by repeat (first|(with_reducible first|exact HB.out|apply yA|apply yB|apply yC|refine yD ?_ GE552.out)|exact HB.out)⟩⟩
   ·rw [if_neg c14] at H
    have c14b0:(t553 == t555)=false:=beq_eq_false_iff_ne.mpr c14
    have c14b1:(t553 != t555)=true:=bne_iff_ne.mpr c14
    (first|rw [c14b0]|(simp only [i64_w,i32_w];rw [c14b0])|skip)
    have H':=Aside0.mk H
    clear H
    go_wp2
    go_meet
    case rel=>exact ⟨_,(false),(by first|rfl|(simp;done)|(simp [*];done)|(simp [Int.tmod_eq_emod_of_nonneg];done)),H',⟨by first|omega|exact Nat.le_refl _⟩,⟨by (with_reducible repeat (first|apply yH|apply yI|apply yJ));exact HO549.out⟩,⟨by (with_reducible repeat (first|refine yE ?_ _|refine yF ?_|refine yG ?_ _));exact BK552.out⟩,⟨by repeat (first|(with_reducible first|exact HB.out|apply yA|apply yB|apply yC|refine yD ?_ GE552.out)|exact HB.out)⟩⟩
  case rest =>
   clear HC6
   try clear c1
   try clear c2
   try clear c2b0
   try clear c2b1
   try clear p2
   try clear c5
   try clear c14
   try clear c14b0
   try clear c14b1
   try clear hcz10_0
   try clear hcz10_1
   try clear hcz10_2
   try clear hcz12_0
   try clear hcz12_1
   try clear hcz12_2
   try clear hfz10_0
   try clear hfz10_1
   try clear hfz10_2
   try clear hfz12_0
   try clear hfz12_1
   try clear hfz12_2
   obtain ⟨kq,x8_5,rfl,HA,HJ5,HO_553000,BK552,HB⟩:=hcut
   cases kq with
   | zero=>exact absurd HA.out (by simp [laws_FnMachFew.j0])
   | succ kj5 =>
    have H:=HA.out
    clear HA
    simp only [laws_FnMachFew.j0] at H
    have HC15:=Aside0.mk H
    clear H
    go_upto_region 7 with (fail)
    go_cut [41] (fun v41 wc=>∃ (kq:Nat) (x41_14:Bool),v41=.bool x41_14∧Aside0 (laws_FnMachFew.j1 kq t553 x8_5 x41_14 t547 t550 t551=some r)∧Aside0 (kq≤kj5)∧Aside0 (Kd.R (Kd.int .i64) 3 wc w.heap.size (fun _=>True) (.slice Ao9 t547.length co9) t547)∧Aside0 (wc.heap[gb552]?=some (.cells #[(.slice Ao9 t547.length co9),.int .i64 t550,.int .i64 t551] 31 (0,0)))∧Aside0 (Below w.heap.size w wc))
    case first =>
     have H:=HC15.out
     clear HC15
     by_cases c16:x8_5=true
     ·subst c16
      have H1:(laws_FnMachFew.j1 kj5 t553 true (!t554) t547 t550 t551)=some r:=by rw [if_pos rfl] at H;exact H
      clear H
      have H:=H1
      clear H1
      have H':=Aside0.mk H
      clear H
      go_wp2
      go_meet
      case rel=>exact ⟨_,(!t554),(by first|rfl|(simp;done)|(simp [*];done)|(simp [Int.tmod_eq_emod_of_nonneg];done)),H',⟨by have:=HJ5.out;first|omega|exact Nat.le_refl _⟩,⟨by (with_reducible repeat (first|apply yH|apply yI|apply yJ));exact HO_553000.out⟩,⟨by (with_reducible repeat (first|refine yE ?_ _|refine yF ?_|refine yG ?_ _));exact BK552.out⟩,⟨by repeat (first|(with_reducible first|exact HB.out|apply yA|apply yB|apply yC|refine yD ?_ GE552.out)|exact HB.out)⟩⟩
     ·replace c16:=Bool.eq_false_iff.mpr c16
      subst c16
      have H1:(laws_FnMachFew.j1 kj5 t553 false true t547 t550 t551)=some r:=by rw [if_neg (show ¬ (false=true) by decide)] at H;exact H
      clear H
      have H:=H1
      clear H1
      have H':=Aside0.mk H
      clear H
      go_wp2
      go_meet
      case rel=>exact ⟨_,(true),(by first|rfl|(simp;done)|(simp [*];done)|(simp [Int.tmod_eq_emod_of_nonneg];done)),H',⟨by have:=HJ5.out;first|omega|exact Nat.le_refl _⟩,⟨by (with_reducible repeat (first|apply yH|apply yI|apply yJ));exact HO_553000.out⟩,⟨by (with_reducible repeat (first|refine yE ?_ _|refine yF ?_|refine yG ?_ _));exact BK552.out⟩,⟨by repeat (first|(with_reducible first|exact HB.out|apply yA|apply yB|apply yC|refine yD ?_ GE552.out)|exact HB.out)⟩⟩
    case rest =>
     clear HC15
     try clear c1
     try clear c2
     try clear c2b0
     try clear c2b1
     try clear p2
     try clear c5
     try clear c14
     try clear c14b0
     try clear c14b1
     try clear c15
     try clear c16
     try clear hcz10_0
     try clear hcz10_1
     try clear hcz10_2
     try clear hcz12_0
     try clear hcz12_1
     try clear hcz12_2
     try clear hfz10_0
     try clear hfz10_1
     try clear hfz10_2
     try clear hfz12_0
     try clear hfz12_1
     try clear hfz12_2
     try clear p2
     obtain ⟨kq,x41_14,rfl,HA,HJ14,HO_553000,BK552,HB⟩:=hcut
     cases kq with
     | zero=>exact absurd HA.out (by simp [laws_FnMachFew.j1])
     | succ kj14 =>
      have H:=HA.out
      clear HA
      simp only [laws_FnMachFew.j1] at H
      by_cases c17:x41_14=true
      ·subst c17
       have H1:(some x8_5)=some r:=by rw [if_pos rfl] at H;exact H
       clear H
       have H:=H1
       clear H1
       obtain rfl:=Option.some.inj H
       go_wp2
       go_ret
       exact ⟨by first|rfl|(simp [errW_none,errW_some]<;>rfl)|(simp [*,errW_none,errW_some]<;>rfl)|(simp [errW_none,errW_some];exact ⟨rfl,rfl⟩),by repeat (first|(with_reducible first|exact HB.out|apply yA|apply yB|apply yC|refine yD ?_ GE552.out)|exact HB.out)⟩
      ·replace c17:=Bool.eq_false_iff.mpr c17
       subst c17
       have H1:((impl_MachSet.f t547 t550 t551).bind fun bt557=>((impl_RestMany.f kj14 bt557.1).bind fun bt559=>(if bt557.2=true then (if bt559.2=true then (some (bt559.1 == t553)) else (some false)) else (some true))))=some r:=by rw [if_neg (show ¬ (false=true) by decide)] at H;exact H
       clear H
       have H:=H1
       clear H1
       replace H:=Option.bind_eq_some_iff.mp H
       obtain ⟨⟨t557,t558⟩,A180,H⟩:=H
       replace H:((impl_RestMany.f kj14 t557).bind fun bt559=>(if t558=true then (if bt559.2=true then (some (bt559.1 == t553)) else (some false)) else (some true)))=some r:=H
       have A18:=Aside0.mk A180
       clear A180
       replace H:=Option.bind_eq_some_iff.mp H
       obtain ⟨⟨t559,t560⟩,A190,H⟩:=H
       replace H:(if t558=true then (if t560=true then (some (t559 == t553)) else (some false)) else (some true))=some r:=H
       have A19:=Aside0.mk A190
       clear A190
       by_cases c20:t558=true
       ·subst c20
        have H1:(if t560=true then (some (t559 == t553)) else (some false))=some r:=by rw [if_pos rfl] at H;exact H
        clear H
        have H:=H1
        clear H1
        by_cases c21:t560=true
        ·subst c21
         have H1:(some (t559 == t553))=some r:=by rw [if_pos rfl] at H;exact H
         clear H
         have H:=H1
         clear H1
         obtain rfl:=Option.some.inj H
         have hcz22_0:wc.cell? ⟨gb552,0,none⟩=some (.slice Ao9 t547.length co9):=(blk_cell BK552.out 0).trans rfl
         have hcz22_1:wc.cell? ⟨gb552,1,none⟩=some (.int .i64 t550):=(blk_cell BK552.out 1).trans rfl
         have hcz22_2:wc.cell? ⟨gb552,2,none⟩=some (.int .i64 t551):=(blk_cell BK552.out 2).trans rfl
         have hfz22_0:=blk_frozen BK552.out 0
         have hfz22_1:=blk_frozen BK552.out 1
         have hfz22_2:=blk_frozen BK552.out 2
         go_wp2_with (first|((with_reducible refine gate_callee (f:=18) rfl ?_);refine goesL_ (some 45) rfl rfl Try.func18 (by kernel_rfl) rfl #[.agg #[.slice Ao9 t547.length co9,.int .i64 t550,.int .i64 t551]] rfl (by (try simp only [List.map_toArray,List.map_cons,List.map_nil]);first|done|rfl|(simp only [List.length_drop,List.length_take];rfl)) ?_;(with_reducible refine (impl_MachSet.calls _ _ t547 t550 t551 t557 true _ ?side1 ?side2 A18.out).mono ?_);(case side1=>repeat (first|exact (Kd.R_reads' HO_553000.out).2.2|(with_reducible refine Kd.C_alloc ?_ _)|(with_reducible refine Kd.C_drewN ?_ _)|(with_reducible refine Kd.C_drew ?_)));(case side2=>exact (Kd.R_reads' HO_553000.out).2.1);rintro e w23 ⟨rfl,hb⟩;refine ⟨_,rfl,?_⟩;have n0_:=Aside0.mk (Kd.R_below (by (with_reducible repeat (first|apply yH|apply yI|apply yJ));exact HO_553000.out) hb);have n1_:=Aside0.mk (blk_below (g:=gb552) (o:=.cells #[.slice Ao9 t547.length co9,.int .i64 t550,.int .i64 t551] 31 (0,0)) (by (with_reducible repeat (first|refine yE ?_ _|refine yF ?_|refine yG ?_ _));exact BK552.out) hb);have n2_:=Aside0.mk (yP (by repeat (first|(with_reducible first|exact HB.out|apply yA|apply yB|apply yC|refine yD ?_ GE552.out)|exact HB.out)) hb);clear HO_553000;clear BK552;clear HB;have HO_553000:=n0_;have BK552:=n1_;have HB:=n2_;clear n0_ n1_ n2_;(try clear hb);(try clear hb2);(try clear hk);(try clear hi))|((with_reducible refine gate_callee (f:=19) rfl ?_);refine goesL_ (some 50) rfl rfl Try.func19 (by kernel_rfl) rfl #[.string t557] rfl (by (try simp only [List.map_toArray,List.map_cons,List.map_nil]);first|done|rfl|(simp only [List.length_drop,List.length_take];rfl)) ?_;(with_reducible refine (impl_RestMany.calls kj14 t557 t559 true _ A19.out).mono ?_);rintro e w24 ⟨rfl,hb⟩;refine ⟨_,rfl,?_⟩;have n0_:=Aside0.mk (Kd.R_below (by (with_reducible repeat (first|apply yH|apply yI|apply yJ));exact HO_553000.out) hb);have n1_:=Aside0.mk (blk_below (g:=gb552) (o:=.cells #[.slice Ao9 t547.length co9,.int .i64 t550,.int .i64 t551] 31 (0,0)) (by (with_reducible repeat (first|refine yE ?_ _|refine yF ?_|refine yG ?_ _));exact BK552.out) hb);have n2_:=Aside0.mk (yP (by repeat (first|(with_reducible first|exact HB.out|apply yA|apply yB|apply yC|refine yD ?_ GE552.out)|exact HB.out)) hb);clear HO_553000;clear BK552;clear HB;have HO_553000:=n0_;have BK552:=n1_;have HB:=n2_;clear n0_ n1_ n2_;(try clear hb);(try clear hb2);(try clear hk);(try clear hi)))
         go_ret
         exact ⟨by first|rfl|(simp [errW_none,errW_some]<;>rfl)|(simp [*,errW_none,errW_some]<;>rfl)|(simp [errW_none,errW_some];exact ⟨rfl,rfl⟩),by repeat (first|(with_reducible first|exact HB.out|apply yA|apply yB|apply yC|refine yD ?_ GE552.out)|exact HB.out)⟩
        ·replace c21:=Bool.eq_false_iff.mpr c21
         subst c21
         have H1:(some false)=some r:=by rw [if_neg (show ¬ (false=true) by decide)] at H;exact H
         clear H
         have H:=H1
         clear H1
         obtain rfl:=Option.some.inj H
         have hcz25_0:wc.cell? ⟨gb552,0,none⟩=some (.slice Ao9 t547.length co9):=(blk_cell BK552.out 0).trans rfl
         have hcz25_1:wc.cell? ⟨gb552,1,none⟩=some (.int .i64 t550):=(blk_cell BK552.out 1).trans rfl
         have hcz25_2:wc.cell? ⟨gb552,2,none⟩=some (.int .i64 t551):=(blk_cell BK552.out 2).trans rfl
         have hfz25_0:=blk_frozen BK552.out 0
         have hfz25_1:=blk_frozen BK552.out 1
         have hfz25_2:=blk_frozen BK552.out 2
         go_wp2_with (first|((with_reducible refine gate_callee (f:=18) rfl ?_);refine goesL_ (some 45) rfl rfl Try.func18 (by kernel_rfl) rfl #[.agg #[.slice Ao9 t547.length co9,.int .i64 t550,.int .i64 t551]] rfl (by (try simp only [List.map_toArray,List.map_cons,List.map_nil]);first|done|rfl|(simp only [List.length_drop,List.length_take];rfl)) ?_;(with_reducible refine (impl_MachSet.calls _ _ t547 t550 t551 t557 true _ ?side1 ?side2 A18.out).mono ?_);(case side1=>repeat (first|exact (Kd.R_reads' HO_553000.out).2.2|(with_reducible refine Kd.C_alloc ?_ _)|(with_reducible refine Kd.C_drewN ?_ _)|(with_reducible refine Kd.C_drew ?_)));(case side2=>exact (Kd.R_reads' HO_553000.out).2.1);rintro e w26 ⟨rfl,hb⟩;refine ⟨_,rfl,?_⟩;have n0_:=Aside0.mk (Kd.R_below (by (with_reducible repeat (first|apply yH|apply yI|apply yJ));exact HO_553000.out) hb);have n1_:=Aside0.mk (blk_below (g:=gb552) (o:=.cells #[.slice Ao9 t547.length co9,.int .i64 t550,.int .i64 t551] 31 (0,0)) (by (with_reducible repeat (first|refine yE ?_ _|refine yF ?_|refine yG ?_ _));exact BK552.out) hb);have n2_:=Aside0.mk (yP (by repeat (first|(with_reducible first|exact HB.out|apply yA|apply yB|apply yC|refine yD ?_ GE552.out)|exact HB.out)) hb);clear HO_553000;clear BK552;clear HB;have HO_553000:=n0_;have BK552:=n1_;have HB:=n2_;clear n0_ n1_ n2_;(try clear hb);(try clear hb2);(try clear hk);(try clear hi))|((with_reducible refine gate_callee (f:=19) rfl ?_);refine goesL_ (some 50) rfl rfl Try.func19 (by kernel_rfl) rfl #[.string t557] rfl (by (try simp only [List.map_toArray,List.map_cons,List.map_nil]);first|done|rfl|(simp only [List.length_drop,List.length_take];rfl)) ?_;(with_reducible refine (impl_RestMany.calls kj14 t557 t559 false _ A19.out).mono ?_);rintro e w27 ⟨rfl,hb⟩;refine ⟨_,rfl,?_⟩;have n0_:=Aside0.mk (Kd.R_below (by (with_reducible repeat (first|apply yH|apply yI|apply yJ));exact HO_553000.out) hb);have n1_:=Aside0.mk (blk_below (g:=gb552) (o:=.cells #[.slice Ao9 t547.length co9,.int .i64 t550,.int .i64 t551] 31 (0,0)) (by (with_reducible repeat (first|refine yE ?_ _|refine yF ?_|refine yG ?_ _));exact BK552.out) hb);have n2_:=Aside0.mk (yP (by repeat (first|(with_reducible first|exact HB.out|apply yA|apply yB|apply yC|refine yD ?_ GE552.out)|exact HB.out)) hb);clear HO_553000;clear BK552;clear HB;have HO_553000:=n0_;have BK552:=n1_;have HB:=n2_;clear n0_ n1_ n2_;(try clear hb);(try clear hb2);(try clear hk);(try clear hi)))
         go_ret
         exact ⟨by first|rfl|(simp [errW_none,errW_some]<;>rfl)|(simp [*,errW_none,errW_some]<;>rfl)|(simp [errW_none,errW_some];exact ⟨rfl,rfl⟩),by repeat (first|(with_reducible first|exact HB.out|apply yA|apply yB|apply yC|refine yD ?_ GE552.out)|exact HB.out)⟩
       ·replace c20:=Bool.eq_false_iff.mpr c20
        subst c20
        have H1:(some true)=some r:=by rw [if_neg (show ¬ (false=true) by decide)] at H;exact H
        clear H
        have H:=H1
        clear H1
        obtain rfl:=Option.some.inj H
        have hcz28_0:wc.cell? ⟨gb552,0,none⟩=some (.slice Ao9 t547.length co9):=(blk_cell BK552.out 0).trans rfl
        have hcz28_1:wc.cell? ⟨gb552,1,none⟩=some (.int .i64 t550):=(blk_cell BK552.out 1).trans rfl
        have hcz28_2:wc.cell? ⟨gb552,2,none⟩=some (.int .i64 t551):=(blk_cell BK552.out 2).trans rfl
        have hfz28_0:=blk_frozen BK552.out 0
        have hfz28_1:=blk_frozen BK552.out 1
        have hfz28_2:=blk_frozen BK552.out 2
        go_wp2_with (first|((with_reducible refine gate_callee (f:=18) rfl ?_);refine goesL_ (some 45) rfl rfl Try.func18 (by kernel_rfl) rfl #[.agg #[.slice Ao9 t547.length co9,.int .i64 t550,.int .i64 t551]] rfl (by (try simp only [List.map_toArray,List.map_cons,List.map_nil]);first|done|rfl|(simp only [List.length_drop,List.length_take];rfl)) ?_;(with_reducible refine (impl_MachSet.calls _ _ t547 t550 t551 t557 false _ ?side1 ?side2 A18.out).mono ?_);(case side1=>repeat (first|exact (Kd.R_reads' HO_553000.out).2.2|(with_reducible refine Kd.C_alloc ?_ _)|(with_reducible refine Kd.C_drewN ?_ _)|(with_reducible refine Kd.C_drew ?_)));(case side2=>exact (Kd.R_reads' HO_553000.out).2.1);rintro e w29 ⟨rfl,hb⟩;refine ⟨_,rfl,?_⟩;have n0_:=Aside0.mk (Kd.R_below (by (with_reducible repeat (first|apply yH|apply yI|apply yJ));exact HO_553000.out) hb);have n1_:=Aside0.mk (blk_below (g:=gb552) (o:=.cells #[.slice Ao9 t547.length co9,.int .i64 t550,.int .i64 t551] 31 (0,0)) (by (with_reducible repeat (first|refine yE ?_ _|refine yF ?_|refine yG ?_ _));exact BK552.out) hb);have n2_:=Aside0.mk (yP (by repeat (first|(with_reducible first|exact HB.out|apply yA|apply yB|apply yC|refine yD ?_ GE552.out)|exact HB.out)) hb);clear HO_553000;clear BK552;clear HB;have HO_553000:=n0_;have BK552:=n1_;have HB:=n2_;clear n0_ n1_ n2_;(try clear hb);(try clear hb2);(try clear hk);(try clear hi))|((with_reducible refine gate_callee (f:=19) rfl ?_);refine goesL_ (some 50) rfl rfl Try.func19 (by kernel_rfl) rfl #[.string t557] rfl (by (try simp only [List.map_toArray,List.map_cons,List.map_nil]);first|done|rfl|(simp only [List.length_drop,List.length_take];rfl)) ?_;(with_reducible refine (impl_RestMany.calls kj14 t557 t559 t560 _ A19.out).mono ?_);rintro e w30 ⟨rfl,hb⟩;refine ⟨_,rfl,?_⟩;have n0_:=Aside0.mk (Kd.R_below (by (with_reducible repeat (first|apply yH|apply yI|apply yJ));exact HO_553000.out) hb);have n1_:=Aside0.mk (blk_below (g:=gb552) (o:=.cells #[.slice Ao9 t547.length co9,.int .i64 t550,.int .i64 t551] 31 (0,0)) (by (with_reducible repeat (first|refine yE ?_ _|refine yF ?_|refine yG ?_ _));exact BK552.out) hb);have n2_:=Aside0.mk (yP (by repeat (first|(with_reducible first|exact HB.out|apply yA|apply yB|apply yC|refine yD ?_ GE552.out)|exact HB.out)) hb);clear HO_553000;clear BK552;clear HB;have HO_553000:=n0_;have BK552:=n1_;have HB:=n2_;clear n0_ n1_ n2_;(try clear hb);(try clear hb2);(try clear hk);(try clear hi)))
        go_ret
        exact ⟨by first|rfl|(simp [errW_none,errW_some]<;>rfl)|(simp [*,errW_none,errW_some]<;>rfl)|(simp [errW_none,errW_some];exact ⟨rfl,rfl⟩),by repeat (first|(with_reducible first|exact HB.out|apply yA|apply yB|apply yC|refine yD ?_ GE552.out)|exact HB.out)⟩

/-- THE ONE PURE STATEMENT of laws_FnMachFew: yours. -/
noncomputable def laws_FnMachFew.Pure:Prop:=∀ (l0:List Int),l0.length≤maxLen→l0.length * 1≤140737488351232→(∀ x ∈ l0,(Lit.int .u8 x).wf=true)→∃ k,laws_FnMachFew.f k l0=some true
theorem laws_FnMachFew.walk (P:laws_FnMachFew.Pure) (a0:Option Addr) (len0 cap0:Nat) (z0:List Int) (w:World) (w0:(a0=none∧len0=0∧cap0=0∧z0=[]) ∨ ∃ x,a0=some x∧len0≤cap0∧cap0≤maxLen∧z0.length=cap0∧(∀ i,i<z0.length→w.cell? (x.add i)=some (.int .u8 (z0.getD i 0)))∧∀ n ∈ z0,(Lit.int .u8 n).wf=true) (y0:len0 * 1≤140737488351232) :
  Calls Try.prog 5 #[.slice a0 len0 cap0] w fun e w'=>e=.returned (.bool true)∧Below w.heap.size w w':=by
 obtain ⟨l0,rfl,hr0,hm0,hw0,hc0⟩:=ReadsInt.ofRowC w0
 obtain ⟨k,h⟩:=P l0 hm0 y0 hw0
 refine (laws_FnMachFew.calls k _ _ l0 true w (Kd.C_of_reads (d:=(0:Int)) (h1:=fun _=>rfl) hr0) hc0 h).mono ?_
 rintro e w' ⟨rfl,hd⟩
 exact ⟨rfl,hd⟩

end Go.Proofs.Ytneadgionjlicaa.P

-- impl.tidied reads and makes tidy.
namespace Go.Proofs.Ytneadgionjlicaa.P
open Go.RowKit Go.Proofs.YtneadgionjlicaaW.PrintWords Go.Proofs.YtneadgionjlicaaW.PrintLast Go.Proofs.YtneadgionjlicaaW.PrintMore
set_option linter.unusedVariables false
set_option linter.unusedSimpArgs false

/-- What impl.tidied answers. -/
noncomputable def tdd (s : List UInt8) : List Bool × List Bool × Bool := match parse s with | some (a, b) => ((cn (hasB a b)).1, (cn (hasB a b)).2, true) | none => ([], [], false)
theorem tidied_f (s : ByteArray) (hs : s.size ≤ 70368744177664) : Ev (fun k => impl_tidied.f k s) (tdd (chrs s)) := by
  obtain ⟨x, y, h, hp⟩ := setOf_f s hs
  unfold tdd
  cases h0 : parse (chrs s) with
  | none =>
    rw [h0] at h
    refine Ev.congr (f := fun k => (impl_setOf.f k s).bind fun bt186 => (if bt186.2.2 = true then ((impl_set_tidy.f k bt186.1 bt186.2.1).bind fun bt194 => (some (bt194.1, bt194.2, true))) else (some (([] : List Bool), ([] : List Bool), false)))) (fun k => rfl) (Ev.bind h (by simpa using Ev.now _))
  | some ab =>
    obtain ⟨a, b⟩ := ab
    obtain ⟨rfl, rfl⟩ := hp a b h0
    rw [h0] at h
    have hb := parse_some h0
    have ht := tidy_cn x y hb.2.2 (by omega)
    refine Ev.congr (f := fun k => (impl_setOf.f k s).bind fun bt186 => (if bt186.2.2 = true then ((impl_set_tidy.f k bt186.1 bt186.2.1).bind fun bt194 => (some (bt194.1, bt194.2, true))) else (some (([] : List Bool), ([] : List Bool), false)))) (fun k => rfl) (Ev.bind h ?_)
    simp only [Option.isSome_some, if_true]
    exact Ev.bind ht (Ev.now _)

end Go.Proofs.Ytneadgionjlicaa.P

-- impl.SetSizes counts the signs of the tidy text.
namespace Go.Proofs.Ytneadgionjlicaa.P
open Go.RowKit Go.Proofs.YtneadgionjlicaaW.PrintWords Go.Proofs.YtneadgionjlicaaW.PrintLast Go.Proofs.YtneadgionjlicaaW.PrintMore
set_option linter.unusedVariables false
set_option linter.unusedSimpArgs false

theorem sizes_f (s : ByteArray) (hs : s.size ≤ 70368744177664) : Ev (fun k => impl_SetSizes.f k s) (match parse (chrs s) with | some (a, b) => (((cn (hasB a b)).1.length : Int), ((cn (hasB a b)).2.length : Int), true) | none => (0, 0, false)) := by
  have h := tidied_f s hs
  refine Ev.congr (f := fun k => (impl_tidied.f k s).bind fun bt200 => (some ((bt200.1.length : Int), (bt200.2.1.length : Int), bt200.2.2))) (fun k => rfl) (Ev.bind h ?_)
  unfold tdd
  cases parse (chrs s) with
  | none => exact Ev.now _
  | some ab => exact Ev.now _

end Go.Proofs.Ytneadgionjlicaa.P

-- impl.MachFew and spec.MachFew.
namespace Go.Proofs.Ytneadgionjlicaa.P
open Go.RowKit Go.Proofs.YtneadgionjlicaaW.PrintWords Go.Proofs.YtneadgionjlicaaW.PrintLast Go.Proofs.YtneadgionjlicaaW.PrintMore
set_option linter.unusedVariables false
set_option linter.unusedSimpArgs false

/-- What MachFew answers. -/
noncomputable def mfr (l : List Int) (st en : Int) : Int × Bool := if mok l st en = true then ((((cn (mq l st en)).1.length + (cn (mq l st en)).2.length : Nat) : Int), true) else (0, false)
theorem mq_facts {l : List Int} {st en : Int} (h : mok l st en = true) : ∃ T F, Shape l st T F ∧ T ≤ 32 ∧ l.length ≤ 5 ∧ (∀ i, ∃ v : Nat, orb l st i = (v : Int) ∧ v < 2 ^ l.length) ∧ (txt (cn (mq l st en))).2 = true ∧ (cn (mq l st en)).1.length ≤ 32 ∧ (cn (mq l st en)).2.length ≤ 32 := by
  obtain ⟨T, F, h1, h2⟩ := mok_shape h
  obtain ⟨h3, h4, h5, _⟩ := mok_of h
  have hlt := h1.lt
  have hsp := cn_spec (by omega : 0 < T - F) (h1.per en)
  refine ⟨T, F, h1, h2, h3.2, orb_in (by omega) h4 h5, ?_, by omega, by omega⟩
  rw [txt_ok (by omega) (by omega)]
theorem mq_parse {l : List Int} {st en : Int} (h : mok l st en = true) : parse (chrs (txt (cn (mq l st en))).1) = some ((cn (mq l st en)).1, (cn (mq l st en)).2) := by
  obtain ⟨T, F, h1, h2, _, _, h3, _⟩ := mq_facts h
  have hlt := h1.lt
  exact txt_parse (by omega : 0 < T - F) (h1.per en) h3
theorem irest_f {l : List Int} {st en : Int} (h : mok l st en = true) : Ev (fun k => impl_RestMany.f k (txt (cn (mq l st en))).1) ((((cn (mq l st en)).1.length + (cn (mq l st en)).2.length : Nat) : Int), true) := by
  obtain ⟨T, F, h1, h2, _, _, h3, h4, h5⟩ := mq_facts h
  have hlt := h1.lt
  have hx := txt_size (cn (mq l st en))
  have hs := sizes_f (txt (cn (mq l st en))).1 (by omega)
  rw [mq_parse h] at hs
  dsimp only at hs
  rw [cn_has (by omega : 0 < T - F) (h1.per en)] at hs
  have hw : wrap64 (((cn (mq l st en)).1.length : Int) + ((cn (mq l st en)).2.length : Int)) = (((cn (mq l st en)).1.length + (cn (mq l st en)).2.length : Nat) : Int) := by rw [w64 (by omega) (by omega)]; omega
  refine Ev.congr (fun k => rfl) (Ev.bind hs ?_)
  simp only [hw]
  exact Ev.now _
theorem imachFew_f (l : List Int) (st en : Int) (hl : l.length ≤ 1000000) : Ev (fun k => impl_MachFew.f k l st en) (mfr l st en) := by
  have h1 := machSet_f (show l.length ≤ 1000000000000 by omega) st en
  unfold mfr
  cases hm : mok l st en with
  | false =>
    have e : msr l st en = (⟨#[]⟩, false) := by unfold msr; rw [hm]; rfl
    refine ⟨0, fun k _ => ?_⟩
    dsimp only
    unfold impl_MachFew.f
    rw [h1, e, Option.bind_some]; rfl
  | true =>
    have e : msr l st en = txt (cn (mq l st en)) := by unfold msr; rw [hm]; rfl
    obtain ⟨T, F, _, _, _, _, h3, _⟩ := mq_facts hm
    obtain ⟨K, h2⟩ := irest_f hm
    dsimp only at h2
    refine ⟨K, fun k hk => ?_⟩
    dsimp only
    unfold impl_MachFew.f
    rw [h1, e, Option.bind_some, if_pos h3, h2 k hk, Option.bind_some]; rfl
theorem smachFew_f (l : List Int) (st en : Int) (hl : l.length ≤ 1000000) : Ev (fun k => spec_MachFew.f k l st en) (mfr l st en) := by
  refine Ev.congr (fun k => rfl) (Ev.bind (l6MachIn_f l st en (by omega)) ?_)
  unfold mfr
  cases hm : mok l st en with
  | false => exact Ev.now _
  | true =>
    obtain ⟨T, F, h1, h2, h3, h4, _, h5, h6⟩ := mq_facts hm
    have hw : wrap64 (((cn (mq l st en)).1.length : Int) + ((cn (mq l st en)).2.length : Int)) = (((cn (mq l st en)).1.length + (cn (mq l st en)).2.length : Nat) : Int) := by rw [w64 (by omega) (by omega)]; omega
    refine Ev.bind (f := fun k (bt : List Bool × List Bool) => some (wrap64 ((bt.1.length : Int) + (bt.2.length : Int)), true)) (l6mSet_f l st en h3 h1 h2 h4) ?_
    rw [hw]
    exact Ev.now _
end Go.Proofs.Ytneadgionjlicaa.P

-- For every code the law FnMachFew holds.
namespace Go.Proofs.Ytneadgionjlicaa.P
open Go.RowKit Go.Proofs.YtneadgionjlicaaW.PrintWords Go.Proofs.YtneadgionjlicaaW.PrintLast Go.Proofs.YtneadgionjlicaaW.PrintMore
set_option linter.unusedVariables false
set_option linter.unusedSimpArgs false

theorem drawMachFew_f (l : List Int) (h : ∀ x ∈ l, (Lit.int .u8 x).wf = true) : ∃ (s : List Int) (x y : Int), s.length ≤ 100 ∧ Ev (fun k => spec_DrawMachFew.f k l) (s, x, y) := by
  obtain ⟨r, h1, K0, h0⟩ := drawMach_f (code_of h) 0 (by omega)
  have g0 : ∀ k, K0 ≤ k → spec_l91Machine.f k (l.take 2000) 0 = some r := h0
  refine ⟨r.1, r.2.1, r.2.2.1, h1.1, K0, fun k hk => ?_⟩
  dsimp only
  unfold spec_DrawMachFew.f
  rw [open_f, Option.bind_some, g0 k (by omega), Option.bind_some]
theorem lawMachFew_ev (l : List Int) (h : ∀ x ∈ l, (Lit.int .u8 x).wf = true) : Ev (fun k => laws_FnMachFew.f k l) true := by
  by_cases hl : (l.length : Int) > 1048576
  · exact ⟨0, fun k _ => by dsimp only; unfold laws_FnMachFew.f; rw [if_pos hl]⟩
  · obtain ⟨s, st, en, hs, K1, h1⟩ := drawMachFew_f l h
    dsimp only at h1
    obtain ⟨K2, h2⟩ := imachFew_f s st en (by omega)
    dsimp only at h2
    obtain ⟨K3, h3⟩ := smachFew_f s st en (by omega)
    dsimp only at h3
    have main : Ev (fun k => laws_FnMachFew.j0 k (mfr s st en).1 (mfr s st en).2 true s st en) true := by
      cases hm : mok s st en with
      | false =>
        have e : mfr s st en = (0, false) := by unfold mfr; rw [hm]; rfl
        rw [e]
        refine Ev.step (f := fun k => laws_FnMachFew.j1 k 0 true true s st en) (fun k => ?_) (Ev.step (f := fun k => some true) (fun k => ?_) (Ev.now _))
        · simp only [laws_FnMachFew.j0]; rfl
        · simp only [laws_FnMachFew.j1]; rfl
      | true =>
        have e : mfr s st en = ((((cn (mq s st en)).1.length + (cn (mq s st en)).2.length : Nat) : Int), true) := by unfold mfr; rw [hm]; rfl
        have e2 : msr s st en = txt (cn (mq s st en)) := by unfold msr; rw [hm]; rfl
        rw [e]
        obtain ⟨T, F, _, _, _, _, h5, _⟩ := mq_facts hm
        obtain ⟨K6, h6⟩ := irest_f hm
        dsimp only at h6
        have h7 := machSet_f (show s.length ≤ 1000000000000 by omega) st en
        refine Ev.step (f := fun k => laws_FnMachFew.j1 k (((cn (mq s st en)).1.length + (cn (mq s st en)).2.length : Nat) : Int) true false s st en) (fun k => ?_) ⟨K6 + 1, fun k hk => ?_⟩
        · simp only [laws_FnMachFew.j0]; rfl
        · obtain ⟨k, rfl, hk2⟩ := down1 hk
          simp only [laws_FnMachFew.j1]
          rw [if_neg (by decide), h7, e2, Option.bind_some, h6 k (by omega), Option.bind_some, if_pos h5, if_pos (by trivial), BEq.rfl]
    obtain ⟨K4, h4⟩ := main
    dsimp only at h4
    refine ⟨K1 + K2 + K3 + K4, fun k hk => ?_⟩
    dsimp only
    unfold laws_FnMachFew.f
    rw [if_neg hl, h1 k (by omega), Option.bind_some, h2 k (by omega), Option.bind_some, h3 k (by omega), Option.bind_some, if_pos (by trivial), BEq.rfl]
    exact h4 k (by omega)
theorem lawMachFew_pure : laws_FnMachFew.Pure := fun l _ _ h => (lawMachFew_ev l h).rounds
end Go.Proofs.Ytneadgionjlicaa.P

-- For every code the law FnMachFew holds.
namespace Go.Proofs.Ytneadgionjlicaa.Pure
theorem FnMachFew : Go.Proofs.Ytneadgionjlicaa.P.laws_FnMachFew.Pure := Go.Proofs.Ytneadgionjlicaa.P.lawMachFew_pure
end Go.Proofs.Ytneadgionjlicaa.Pure
