/- What these laws reach, joined by a program of this session: contracts (written by that program over the kit's print, or by hand) and plain lemmas. -/
import Derived.Lib.Walk
import Derived.Test.YticdcfgjpopkoaaK1
import Derived.Test.YticdcfgjpopkoaaK2
import Derived.Test.YticdcfgjpopkoaaK3
import Derived.Test.YticdcfgjpopkoaaK4
open Go.Proofs.YticdcfgjpopkoaaW.PrintWords renaming below_alloc → yA, pw_below_drewN → yB, below_drew1 → yC, below_set → yD, blk_drewN → yE, blk_drew → yF, blk_alloc → yG, below_step → yP, below_size → yQ
open Go.Proofs.YticdcfgjpopkoaaW.PrintWords.Kd renaming R_alloc → yH, R_drewN → yI, R_drew → yJ
open List renaming setIfInBounds_toArray → yK, set_cons_zero → yL, set_cons_succ → yM
namespace Go.Proofs.Yticdcfgjpopkoaa.P
open Go.RowKit Go.Proofs.YticdcfgjpopkoaaW.PrintWords Go.Proofs.YticdcfgjpopkoaaW.PrintLast Go.Proofs.YticdcfgjpopkoaaW.PrintMore
attribute [local go_sem] max2_int min2_int max_two min_two max_three min_three max_four min_four   -- for this text's walks alone
set_option linter.unusedVariables false
set_option linter.unusedSimpArgs false

/-! ### impl_StarHas: function 16 -/
def impl_StarHas.f (k:Nat) (a0:ByteArray) (a1:Int):Option (Bool):=(impl_small.f k a0).bind fun bt489=>(if bt489.2.2=true then ((impl_in.f a1 0 2000).bind fun t497=>(if t497=true then ((impl_star.f k bt489.1 bt489.2.1 (wrap64 (a1+1))).bind fun t498=>(if 0≤a1 then (if a1<(t498.length:Int) then (some (rdOf false t498 a1)) else (none)) else (none))) else (some false))) else (some false))
theorem impl_StarHas.mono:∀ a0 a1 k,LeO (impl_StarHas.f k a0 a1) (impl_StarHas.f (k+1) a0 a1):=by
 intro a0 a1 k
 unfold impl_StarHas.f
 repeat' first
   | (with_reducible exact impl_small.mono _ _)
   | (with_reducible exact impl_star.mono _ _ _ _)
   | (with_reducible exact LeO.refl _)
   | (with_reducible exact LeO.none _)
   | (with_reducible refine LeO.ite ?_ ?_)
   | (with_reducible refine LeO.bind ?_ (fun _=>?_))
   | exact impl_small.mono _ _
   | exact impl_star.mono _ _ _ _
   | exact LeO.none _
   | refine LeO.ite ?_ ?_
   | refine LeO.bind ?_ (fun _=>?_)
set_option maxHeartbeats 8000000 in
set_option maxRecDepth 100000 in
theorem impl_StarHas.calls (k:Nat) (a0:ByteArray) (a1:Int) (r:Bool) (w:World) (h:impl_StarHas.f k a0 a1=some r) :
  Calls Try.prog 16 #[.string a0,.int .i64 a1] w fun e w'=>e=.returned (.bool r)∧Below w.heap.size w w':=by
 have hu43:=Try.underlying43
 have HB:=Aside0.mk (Below.refl w.heap.size w)
 have H:((impl_small.f k a0).bind fun bt489=>(if bt489.2.2=true then ((impl_in.f a1 0 2000).bind fun t497=>(if t497=true then ((impl_star.f k bt489.1 bt489.2.1 (wrap64 (a1+1))).bind fun t498=>(if 0≤a1 then (if a1<(t498.length:Int) then (some (rdOf false t498 a1)) else (none)) else (none))) else (some false))) else (some false)))=some r:=h
 clear h
 replace H:=Option.bind_eq_some_iff.mp H
 obtain ⟨⟨t489,t492,t495⟩,A30,H⟩:=H
 replace H:(if t495=true then ((impl_in.f a1 0 2000).bind fun t497=>(if t497=true then ((impl_star.f k t489 t492 (wrap64 (a1+1))).bind fun t498=>(if 0≤a1 then (if a1<(t498.length:Int) then (some (rdOf false t498 a1)) else (none)) else (none))) else (some false))) else (some false))=some r:=H
 have A3:=Aside0.mk A30
 clear A30
 by_cases c4:t495=true
 ·subst c4
  have H1:((impl_in.f a1 0 2000).bind fun t497=>(if t497=true then ((impl_star.f k t489 t492 (wrap64 (a1+1))).bind fun t498=>(if 0≤a1 then (if a1<(t498.length:Int) then (some (rdOf false t498 a1)) else (none)) else (none))) else (some false)))=some r:=by rw [if_pos rfl] at H;exact H
  clear H
  have H:=H1
  clear H1
  replace H:=Option.bind_eq_some_iff.mp H
  obtain ⟨t497,A50,H⟩:=H
  replace H:(if t497=true then ((impl_star.f k t489 t492 (wrap64 (a1+1))).bind fun t498=>(if 0≤a1 then (if a1<(t498.length:Int) then (some (rdOf false t498 a1)) else (none)) else (none))) else (some false))=some r:=H
  have A5:=Aside0.mk A50
  clear A50
  by_cases c6:t497=true
  ·subst c6
   have H1:((impl_star.f k t489 t492 (wrap64 (a1+1))).bind fun t498=>(if 0≤a1 then (if a1<(t498.length:Int) then (some (rdOf false t498 a1)) else (none)) else (none)))=some r:=by rw [if_pos rfl] at H;exact H
   clear H
   have H:=H1
   clear H1
   replace H:=Option.bind_eq_some_iff.mp H
   obtain ⟨t498,A70,H⟩:=H
   replace H:(if 0≤a1 then (if a1<(t498.length:Int) then (some (rdOf false t498 a1)) else (none)) else (none))=some r:=H
   have A7:=Aside0.mk A70
   clear A70
   by_cases c8:0≤a1
   ·rw [if_pos c8] at H
    have c8b0:decide (0≤a1)=true:=decide_eq_true c8
    clear c8
    by_cases c9:a1<(t498.length:Int)
    ·rw [if_pos c9] at H
     have c9b0:decide (a1<(t498.length:Int))=true:=decide_eq_true c9
     clear c9
     obtain rfl:=Option.some.inj H
     go_enter Try.func16,Try.ntmps16
     go_wp2_with (first|((with_reducible refine gate_callee (f:=29) rfl ?_);refine goesL_ (some 9) rfl rfl Try.func29 (by kernel_rfl) rfl #[.string a0] rfl (by (try simp only [List.map_toArray,List.map_cons,List.map_nil]);first|done|rfl|(simp only [List.length_drop,List.length_take];rfl)) ?_;(with_reducible refine (impl_small.calls k a0 t489 t492 true _ A3.out).mono ?_);rintro e w10 ⟨v490,v493,rfl,ho0,ho1,hb⟩;refine ⟨_,rfl,?_⟩;have n0_:=Aside0.mk (Kd.R_lower ho0 (yQ (by repeat (first|(with_reducible first|exact HB.out|apply yA|apply yB|apply yC)|exact HB.out))));have n1_:=Aside0.mk (Kd.R_lower ho1 (yQ (by repeat (first|(with_reducible first|exact HB.out|apply yA|apply yB|apply yC)|exact HB.out))));have n2_:=Aside0.mk (yP (by repeat (first|(with_reducible first|exact HB.out|apply yA|apply yB|apply yC)|exact HB.out)) hb);clear HB;have HO491:=n0_;have HO494:=n1_;have HB:=n2_;clear n0_ n1_ n2_;(try clear hb);(try clear hb2);(try clear hk);(try clear hi);(try clear ho0);(try clear ho1))|((with_reducible refine gate_dst (N:=5) rfl ?_);refine box_event ?hg (N:=5) ?hd (cs:=#[.slice none 0 0,.slice none 0 0]) (t:=43) ?hr ?_;(case hd=>rfl);(case hg=>rfl);(case hr=>first|(go_simp;done)|(go_simp;rfl));intro gb496 hg w11 hbox hb;have n0_:=Aside0.mk (Kd.R_below (by (with_reducible repeat (first|apply yH|apply yI|apply yJ));exact HO491.out) hb);have n1_:=Aside0.mk (Kd.R_below (by (with_reducible repeat (first|apply yH|apply yI|apply yJ));exact HO494.out) hb);have n2_:=Aside0.mk (yP (by repeat (first|(with_reducible first|exact HB.out|apply yA|apply yB|apply yC)|exact HB.out)) hb);have n3_:=Aside0.mk (hbox);have n4_:=Aside0.mk ((by rw [hg];exact (yQ (by repeat (first|(with_reducible first|exact HB.out|apply yA|apply yB|apply yC)|exact HB.out))):w.heap.size≤gb496));have n5_:=Aside0.mk ((by rw [hg];exact (yQ (by repeat (first|(with_reducible first|exact HB.out|apply yA|apply yB|apply yC)|exact HB.out))):w.heap.size≤gb496));clear HO491;clear HO494;clear HB;have HO491:=n0_;have HO494:=n1_;have HB:=n2_;have BK496:=n3_;have GW496:=n4_;have GE496:=n5_;clear n0_ n1_ n2_ n3_ n4_ n5_;clear hb hbox hg;obtain ⟨Ao12,co12,eo12⟩:=Kd.R_slice HO491.out;subst eo12;have hcz13_0:w11.cell? ⟨gb496,0,none⟩=some (.slice none 0 0):=(blk_cell BK496.out 0).trans rfl;have hcz13_1:w11.cell? ⟨gb496,1,none⟩=some (.slice none 0 0):=(blk_cell BK496.out 1).trans rfl;have hfz13_0:=blk_frozen BK496.out 0;have hfz13_1:=blk_frozen BK496.out 1;obtain ⟨Ao14,co14,eo14⟩:=Kd.R_slice HO494.out;subst eo14)|(go_at_call 35;(with_reducible refine (impl_in.calls a1 0 2000 true _ A5.out).mono ?_);rintro e w' ⟨rfl,⟨nd,rfl⟩⟩)|(go_at_call 30;(with_reducible refine (impl_star.calls k _ _ t489 _ _ t492 (wrap64 (a1+1)) t498 _ ?side1 ?side2 ?side3 ?side4 A7.out).mono ?_);(case side1=>refine (Kd.R_reads' (e:=4) (base:=w.heap.size) (ok:=fun k_=>some k_≠(.slice Ao14 t492.length co14:Value).ownBlock) (n:=t489.length) (c:=co12) ?_).2.2;exact (by (with_reducible repeat (first|apply yH|apply yI|apply yJ));exact (Kd.R_mono (Kd.R_far (p:=⟨gb496,1,none⟩) (Kd.R_far (p:=⟨gb496,0,none⟩) (Kd.R_types HO491.out BK496.out (by decide)) (fun _ hk=>hk.2) (.slice Ao12 t489.length co12)) (fun _ hk=>hk.2) (.slice Ao14 t492.length co14)) (fun _ h_=>h_.1))));(case side2=>exact (Kd.R_reads' HO491.out).2.1);(case side3=>refine (Kd.R_reads' (e:=4) (base:=w.heap.size) (ok:=fun k_=>some k_≠(.slice Ao12 t489.length co12:Value).ownBlock) (n:=t492.length) (c:=co14) ?_).2.2;exact (by (with_reducible repeat (first|apply yH|apply yI|apply yJ));exact (Kd.R_mono (Kd.R_far (p:=⟨gb496,1,none⟩) (Kd.R_far (p:=⟨gb496,0,none⟩) (Kd.R_types HO494.out BK496.out (by decide)) (fun _ hk=>hk.2) (.slice Ao12 t489.length co12)) (fun _ hk=>hk.2) (.slice Ao14 t492.length co14)) (fun _ h_=>h_.1))));(case side4=>exact (Kd.R_reads' HO494.out).2.1);rintro e w15 ⟨v499,rfl,ho0,hb⟩;have n0_:=Aside0.mk (Kd.R_elder' (by (with_reducible repeat (first|apply yH|apply yI|apply yJ));exact (Kd.R_mono (Kd.R_far (p:=⟨gb496,1,none⟩) (Kd.R_far (p:=⟨gb496,0,none⟩) (Kd.R_types HO491.out BK496.out (by decide)) (fun _ hk=>hk.2) (.slice Ao12 t489.length co12)) (fun _ hk=>hk.2) (.slice Ao14 t492.length co14)) (fun _ h_=>h_.1))) (Kd.R_base ho0) hb);have n1_:=Aside0.mk (Kd.R_elder' (by (with_reducible repeat (first|apply yH|apply yI|apply yJ));exact (Kd.R_mono (Kd.R_far (p:=⟨gb496,1,none⟩) (Kd.R_far (p:=⟨gb496,0,none⟩) (Kd.R_types HO494.out BK496.out (by decide)) (fun _ hk=>hk.2) (.slice Ao12 t489.length co12)) (fun _ hk=>hk.2) (.slice Ao14 t492.length co14)) (fun _ h_=>h_.1))) (Kd.R_base ho0) hb);have n2_:=Aside0.mk (Kd.R_lower (Kd.R_new' (Kd.R_new' ho0 (Kd.R_lt (by (with_reducible repeat (first|apply yH|apply yI|apply yJ));exact (Kd.R_mono (Kd.R_far (p:=⟨gb496,1,none⟩) (Kd.R_far (p:=⟨gb496,0,none⟩) (Kd.R_types HO491.out BK496.out (by decide)) (fun _ hk=>hk.2) (.slice Ao12 t489.length co12)) (fun _ hk=>hk.2) (.slice Ao14 t492.length co14)) (fun _ h_=>h_.1))))) (Kd.R_lt (by (with_reducible repeat (first|apply yH|apply yI|apply yJ));exact (Kd.R_mono (Kd.R_far (p:=⟨gb496,1,none⟩) (Kd.R_far (p:=⟨gb496,0,none⟩) (Kd.R_types HO494.out BK496.out (by decide)) (fun _ hk=>hk.2) (.slice Ao12 t489.length co12)) (fun _ hk=>hk.2) (.slice Ao14 t492.length co14)) (fun _ h_=>h_.1))))) (yQ (by repeat (first|(with_reducible first|exact HB.out|apply yA|apply yB|apply yC|refine yD ?_ GE496.out)|exact HB.out))));have n3_:=Aside0.mk (blk_below (g:=gb496) (o:=.cells #[.slice Ao12 t489.length co12,.slice Ao14 t492.length co14] 43 (0,0)) (by (with_reducible repeat (first|refine yE ?_ _|refine yF ?_|refine yG ?_ _));refine blk_put (cs:=#[.slice Ao12 t489.length co12,.slice none 0 0]) ?_ 1 _ rfl;(with_reducible repeat (first|refine yE ?_ _|refine yF ?_|refine yG ?_ _));refine blk_put (cs:=#[.slice none 0 0,.slice none 0 0]) ?_ 0 _ rfl;(with_reducible repeat (first|refine yE ?_ _|refine yF ?_|refine yG ?_ _));exact BK496.out) hb);have n4_:=Aside0.mk (yP (by repeat (first|(with_reducible first|exact HB.out|apply yA|apply yB|apply yC|refine yD ?_ GE496.out)|exact HB.out)) hb);clear HO491;clear HO494;clear BK496;clear HB;have HO491:=n0_;have HO494:=n1_;have HO500:=n2_;have BK496:=n3_;have HB:=n4_;clear n0_ n1_ n2_ n3_ n4_;(try clear hb);(try clear hb2);(try clear hk);(try clear hi);(try clear ho0);obtain ⟨Ao16,co16,eo16⟩:=Kd.R_slice HO500.out;subst eo16;have p501:0≤(a1:Int):=of_decide_eq_true (by first|(with_reducible assumption)|assumption);have q501:a1<(t498.length:Int):=of_decide_eq_true (by first|(with_reducible assumption)|assumption);obtain ⟨ad501,e501,hx501_0⟩:=Kd.at_bool (Kd.R_reads' HO500.out).2.2 a1 p501 q501;cases e501;replace p501:=eq_true p501;replace q501:=eq_true q501))
     go_ret
     exact ⟨by first|rfl|(simp [errW_none,errW_some]<;>rfl)|(simp [*,errW_none,errW_some]<;>rfl)|(simp [errW_none,errW_some];exact ⟨rfl,rfl⟩),by repeat (first|(with_reducible first|exact HB.out|apply yA|apply yB|apply yC|refine yD ?_ GE496.out)|exact HB.out)⟩
    ·rw [if_neg c9] at H
     exact absurd H (by simp)
   ·rw [if_neg c8] at H
    exact absurd H (by simp)
  ·replace c6:=Bool.eq_false_iff.mpr c6
   subst c6
   have H1:(some false)=some r:=by rw [if_neg (show ¬ (false=true) by decide)] at H;exact H
   clear H
   have H:=H1
   clear H1
   obtain rfl:=Option.some.inj H
   go_enter Try.func16,Try.ntmps16
   go_wp2_with (first|((with_reducible refine gate_callee (f:=29) rfl ?_);refine goesL_ (some 9) rfl rfl Try.func29 (by kernel_rfl) rfl #[.string a0] rfl (by (try simp only [List.map_toArray,List.map_cons,List.map_nil]);first|done|rfl|(simp only [List.length_drop,List.length_take];rfl)) ?_;(with_reducible refine (impl_small.calls k a0 t489 t492 true _ A3.out).mono ?_);rintro e w17 ⟨v490,v493,rfl,ho0,ho1,hb⟩;refine ⟨_,rfl,?_⟩;have n0_:=Aside0.mk (Kd.R_lower ho0 (yQ (by repeat (first|(with_reducible first|exact HB.out|apply yA|apply yB|apply yC)|exact HB.out))));have n1_:=Aside0.mk (Kd.R_lower ho1 (yQ (by repeat (first|(with_reducible first|exact HB.out|apply yA|apply yB|apply yC)|exact HB.out))));have n2_:=Aside0.mk (yP (by repeat (first|(with_reducible first|exact HB.out|apply yA|apply yB|apply yC)|exact HB.out)) hb);clear HB;have HO491:=n0_;have HO494:=n1_;have HB:=n2_;clear n0_ n1_ n2_;(try clear hb);(try clear hb2);(try clear hk);(try clear hi);(try clear ho0);(try clear ho1))|((with_reducible refine gate_dst (N:=5) rfl ?_);refine box_event ?hg (N:=5) ?hd (cs:=#[.slice none 0 0,.slice none 0 0]) (t:=43) ?hr ?_;(case hd=>rfl);(case hg=>rfl);(case hr=>first|(go_simp;done)|(go_simp;rfl));intro gb496 hg w18 hbox hb;have n0_:=Aside0.mk (Kd.R_below (by (with_reducible repeat (first|apply yH|apply yI|apply yJ));exact HO491.out) hb);have n1_:=Aside0.mk (Kd.R_below (by (with_reducible repeat (first|apply yH|apply yI|apply yJ));exact HO494.out) hb);have n2_:=Aside0.mk (yP (by repeat (first|(with_reducible first|exact HB.out|apply yA|apply yB|apply yC)|exact HB.out)) hb);have n3_:=Aside0.mk (hbox);have n4_:=Aside0.mk ((by rw [hg];exact (yQ (by repeat (first|(with_reducible first|exact HB.out|apply yA|apply yB|apply yC)|exact HB.out))):w.heap.size≤gb496));have n5_:=Aside0.mk ((by rw [hg];exact (yQ (by repeat (first|(with_reducible first|exact HB.out|apply yA|apply yB|apply yC)|exact HB.out))):w.heap.size≤gb496));clear HO491;clear HO494;clear HB;have HO491:=n0_;have HO494:=n1_;have HB:=n2_;have BK496:=n3_;have GW496:=n4_;have GE496:=n5_;clear n0_ n1_ n2_ n3_ n4_ n5_;clear hb hbox hg;obtain ⟨Ao19,co19,eo19⟩:=Kd.R_slice HO491.out;subst eo19;have hcz20_0:w18.cell? ⟨gb496,0,none⟩=some (.slice none 0 0):=(blk_cell BK496.out 0).trans rfl;have hcz20_1:w18.cell? ⟨gb496,1,none⟩=some (.slice none 0 0):=(blk_cell BK496.out 1).trans rfl;have hfz20_0:=blk_frozen BK496.out 0;have hfz20_1:=blk_frozen BK496.out 1;obtain ⟨Ao21,co21,eo21⟩:=Kd.R_slice HO494.out;subst eo21)|(go_at_call 35;(with_reducible refine (impl_in.calls a1 0 2000 false _ A5.out).mono ?_);rintro e w' ⟨rfl,⟨nd,rfl⟩⟩))
   go_ret
   exact ⟨by first|rfl|(simp [errW_none,errW_some]<;>rfl)|(simp [*,errW_none,errW_some]<;>rfl)|(simp [errW_none,errW_some];exact ⟨rfl,rfl⟩),by repeat (first|(with_reducible first|exact HB.out|apply yA|apply yB|apply yC|refine yD ?_ GE496.out)|exact HB.out)⟩
 ·replace c4:=Bool.eq_false_iff.mpr c4
  subst c4
  have H1:(some false)=some r:=by rw [if_neg (show ¬ (false=true) by decide)] at H;exact H
  clear H
  have H:=H1
  clear H1
  obtain rfl:=Option.some.inj H
  go_enter Try.func16,Try.ntmps16
  go_wp2_with (first|((with_reducible refine gate_callee (f:=29) rfl ?_);refine goesL_ (some 9) rfl rfl Try.func29 (by kernel_rfl) rfl #[.string a0] rfl (by (try simp only [List.map_toArray,List.map_cons,List.map_nil]);first|done|rfl|(simp only [List.length_drop,List.length_take];rfl)) ?_;(with_reducible refine (impl_small.calls k a0 t489 t492 false _ A3.out).mono ?_);rintro e w22 ⟨v490,v493,rfl,ho0,ho1,hb⟩;refine ⟨_,rfl,?_⟩;have n0_:=Aside0.mk (Kd.R_lower ho0 (yQ (by repeat (first|(with_reducible first|exact HB.out|apply yA|apply yB|apply yC)|exact HB.out))));have n1_:=Aside0.mk (Kd.R_lower ho1 (yQ (by repeat (first|(with_reducible first|exact HB.out|apply yA|apply yB|apply yC)|exact HB.out))));have n2_:=Aside0.mk (yP (by repeat (first|(with_reducible first|exact HB.out|apply yA|apply yB|apply yC)|exact HB.out)) hb);clear HB;have HO491:=n0_;have HO494:=n1_;have HB:=n2_;clear n0_ n1_ n2_;(try clear hb);(try clear hb2);(try clear hk);(try clear hi);(try clear ho0);(try clear ho1))|((with_reducible refine gate_dst (N:=5) rfl ?_);refine box_event ?hg (N:=5) ?hd (cs:=#[.slice none 0 0,.slice none 0 0]) (t:=43) ?hr ?_;(case hd=>rfl);(case hg=>rfl);(case hr=>first|(go_simp;done)|(go_simp;rfl));intro gb496 hg w23 hbox hb;have n0_:=Aside0.mk (Kd.R_below (by (with_reducible repeat (first|apply yH|apply yI|apply yJ));exact HO491.out) hb);have n1_:=Aside0.mk (Kd.R_below (by (with_reducible repeat (first|apply yH|apply yI|apply yJ));exact HO494.out) hb);have n2_:=Aside0.mk (yP (by repeat (first|(with_reducible first|exact HB.out|apply yA|apply yB|apply yC)|exact HB.out)) hb);have n3_:=Aside0.mk (hbox);have n4_:=Aside0.mk ((by rw [hg];exact (yQ (by repeat (first|(with_reducible first|exact HB.out|apply yA|apply yB|apply yC)|exact HB.out))):w.heap.size≤gb496));have n5_:=Aside0.mk ((by rw [hg];exact (yQ (by repeat (first|(with_reducible first|exact HB.out|apply yA|apply yB|apply yC)|exact HB.out))):w.heap.size≤gb496));clear HO491;clear HO494;clear HB;have HO491:=n0_;have HO494:=n1_;have HB:=n2_;have BK496:=n3_;have GW496:=n4_;have GE496:=n5_;clear n0_ n1_ n2_ n3_ n4_ n5_;clear hb hbox hg;obtain ⟨Ao24,co24,eo24⟩:=Kd.R_slice HO491.out;subst eo24;have hcz25_0:w23.cell? ⟨gb496,0,none⟩=some (.slice none 0 0):=(blk_cell BK496.out 0).trans rfl;have hcz25_1:w23.cell? ⟨gb496,1,none⟩=some (.slice none 0 0):=(blk_cell BK496.out 1).trans rfl;have hfz25_0:=blk_frozen BK496.out 0;have hfz25_1:=blk_frozen BK496.out 1;obtain ⟨Ao26,co26,eo26⟩:=Kd.R_slice HO494.out;subst eo26))
  go_ret
  exact ⟨by first|rfl|(simp [errW_none,errW_some]<;>rfl)|(simp [*,errW_none,errW_some]<;>rfl)|(simp [errW_none,errW_some];exact ⟨rfl,rfl⟩),by repeat (first|(with_reducible first|exact HB.out|apply yA|apply yB|apply yC|refine yD ?_ GE496.out)|exact HB.out)⟩

end Go.Proofs.Yticdcfgjpopkoaa.P

namespace Go.Proofs.Yticdcfgjpopkoaa.P
open Go.RowKit Go.Proofs.YticdcfgjpopkoaaW.PrintWords Go.Proofs.YticdcfgjpopkoaaW.PrintLast Go.Proofs.YticdcfgjpopkoaaW.PrintMore
attribute [local go_sem] max2_int min2_int max_two min_two max_three min_three max_four min_four   -- for this text's walks alone
set_option linter.unusedVariables false
set_option linter.unusedSimpArgs false

/-! ### impl_StarParts: function 12 -/
mutual
def impl_StarParts.l0:Nat→List Bool→List Int→Int→List Bool→List Bool→Option (List Int × Bool)
 | 0,_,_,_,_,_=>none
 | k+1,x6,x7,x8,x452000,x452001=>if x8<200 then (impl_StarParts.l1 k x6 x7 x8 false 1 x452000 x452001) else (if (x7.length:Int) > 0 then (if 0≤(wrap64 ((x7.length:Int) - 1)) then (if (wrap64 ((x7.length:Int) - 1))<(x7.length:Int) then (if (rd x7 (wrap64 ((x7.length:Int) - 1))) ≥ 60 then (some (([]:List Int),false)) else (some (x7,true))) else (none)) else (none)) else (some (x7,true)))
def impl_StarParts.l1:Nat→List Bool→List Int→Int→Bool→Int→List Bool→List Bool→Option (List Int × Bool)
 | 0,_,_,_,_,_,_,_=>none
 | k+1,x6,x7,x8,x9,x10,x452000,x452001=>if x10<x8 then (if x9=true then (impl_StarParts.l1 k x6 x7 x8 true (wrap64 (x10+1)) x452000 x452001) else (if 0≤x10 then (if x10<(x6.length:Int) then (if rdOf false x6 x10=true then (if 0≤(wrap64 (x8 - x10)) then (if (wrap64 (x8 - x10))<(x6.length:Int) then (impl_StarParts.l1 k x6 x7 x8 (rdOf false x6 (wrap64 (x8 - x10))) (wrap64 (x10+1)) x452000 x452001) else (none)) else (none)) else (impl_StarParts.l1 k x6 x7 x8 false (wrap64 (x10+1)) x452000 x452001)) else (none)) else (none))) else ((impl_set_has.f x452000 x452001 x8).bind fun t458=>(if t458=true then (if x9=true then (impl_StarParts.l0 k x6 x7 (wrap64 (x8+1)) x452000 x452001) else (if x7.length<17592186044416 then (impl_StarParts.l0 k x6 (x7++[x8]) (wrap64 (x8+1)) x452000 x452001) else (none))) else (impl_StarParts.l0 k x6 x7 (wrap64 (x8+1)) x452000 x452001)))
end
def impl_StarParts.f (k:Nat) (a0:ByteArray):Option (List Int × Bool):=(impl_small.f k a0).bind fun bt444=>(if bt444.2.2=true then ((impl_star.f k bt444.1 bt444.2.1 200).bind fun t452=>(impl_StarParts.l0 k t452 ([]:List Int) 1 bt444.1 bt444.2.1)) else (some (([]:List Int),false)))
theorem impl_StarParts.mono_l:∀ k,(∀ y0 y1 y2 y3 y4,LeO (impl_StarParts.l0 k y0 y1 y2 y3 y4) (impl_StarParts.l0 (k+1) y0 y1 y2 y3 y4))∧(∀ y0 y1 y2 y3 y4 y5 y6,LeO (impl_StarParts.l1 k y0 y1 y2 y3 y4 y5 y6) (impl_StarParts.l1 (k+1) y0 y1 y2 y3 y4 y5 y6))
 | 0=>⟨fun _ _ _ _ _ r h=>by simp [impl_StarParts.l0] at h,fun _ _ _ _ _ _ _ r h=>by simp [impl_StarParts.l1] at h⟩
 | k+1=>by
  obtain ⟨ih0,ih1⟩:=impl_StarParts.mono_l k
  refine ⟨?_,?_⟩
  ·intro y0 y1 y2 y3 y4
   unfold impl_StarParts.l0
   repeat' first
   | (with_reducible exact ih0 _ _ _ _ _)
   | (with_reducible exact ih1 _ _ _ _ _ _ _)
   | (with_reducible exact impl_small.mono _ _)
   | (with_reducible exact impl_star.mono _ _ _ _)
   | (with_reducible exact LeO.refl _)
   | (with_reducible exact LeO.none _)
   | (with_reducible refine LeO.ite ?_ ?_)
   | (with_reducible refine LeO.bind ?_ (fun _=>?_))
   | exact ih0 _ _ _ _ _
   | exact ih1 _ _ _ _ _ _ _
   | exact impl_small.mono _ _
   | exact impl_star.mono _ _ _ _
   | exact LeO.none _
   | refine LeO.ite ?_ ?_
   | refine LeO.bind ?_ (fun _=>?_)
  ·intro y0 y1 y2 y3 y4 y5 y6
   unfold impl_StarParts.l1
   repeat' first
   | (with_reducible exact ih0 _ _ _ _ _)
   | (with_reducible exact ih1 _ _ _ _ _ _ _)
   | (with_reducible exact impl_small.mono _ _)
   | (with_reducible exact impl_star.mono _ _ _ _)
   | (with_reducible exact LeO.refl _)
   | (with_reducible exact LeO.none _)
   | (with_reducible refine LeO.ite ?_ ?_)
   | (with_reducible refine LeO.bind ?_ (fun _=>?_))
   | exact ih0 _ _ _ _ _
   | exact ih1 _ _ _ _ _ _ _
   | exact impl_small.mono _ _
   | exact impl_star.mono _ _ _ _
   | exact LeO.none _
   | refine LeO.ite ?_ ?_
   | refine LeO.bind ?_ (fun _=>?_)
theorem impl_StarParts.mono:∀ a0 k,LeO (impl_StarParts.f k a0) (impl_StarParts.f (k+1) a0):=by
 intro a0 k
 obtain ⟨ih0,ih1⟩:=impl_StarParts.mono_l k
 unfold impl_StarParts.f
 repeat' first
   | (with_reducible exact ih0 _ _ _ _ _)
   | (with_reducible exact ih1 _ _ _ _ _ _ _)
   | (with_reducible exact impl_small.mono _ _)
   | (with_reducible exact impl_star.mono _ _ _ _)
   | (with_reducible exact LeO.refl _)
   | (with_reducible exact LeO.none _)
   | (with_reducible refine LeO.ite ?_ ?_)
   | (with_reducible refine LeO.bind ?_ (fun _=>?_))
   | exact ih0 _ _ _ _ _
   | exact ih1 _ _ _ _ _ _ _
   | exact impl_small.mono _ _
   | exact impl_star.mono _ _ _ _
   | exact LeO.none _
   | refine LeO.ite ?_ ?_
   | refine LeO.bind ?_ (fun _=>?_)
set_option maxHeartbeats 8000000 in
set_option maxRecDepth 100000 in
theorem impl_StarParts.calls (k:Nat) (a0:ByteArray) (r1:List Int) (r2:Bool) (w:World) (h:impl_StarParts.f k a0=some (r1,r2)) :
  Calls Try.prog 12 #[.string a0] w fun e w'=>∃ v0_:Value,e=.returned (.tuple #[v0_,.bool r2])∧Kd.R (Kd.int .i64) 3 w' w.heap.size (fun _=>True) v0_ r1∧Below w.heap.size w w':=by
 have hu43:=Try.underlying43
 have HB:=Aside0.mk (Below.refl w.heap.size w)
 have H:((impl_small.f k a0).bind fun bt444=>(if bt444.2.2=true then ((impl_star.f k bt444.1 bt444.2.1 200).bind fun t452=>(impl_StarParts.l0 k t452 ([]:List Int) 1 bt444.1 bt444.2.1)) else (some (([]:List Int),false))))=some (r1,r2):=h
 clear h
 replace H:=Option.bind_eq_some_iff.mp H
 obtain ⟨⟨t444,t447,t450⟩,A20,H⟩:=H
 replace H:(if t450=true then ((impl_star.f k t444 t447 200).bind fun t452=>(impl_StarParts.l0 k t452 ([]:List Int) 1 t444 t447)) else (some (([]:List Int),false)))=some (r1,r2):=H
 have A2:=Aside0.mk A20
 clear A20
 by_cases c3:t450=true
 ·subst c3
  have H1:((impl_star.f k t444 t447 200).bind fun t452=>(impl_StarParts.l0 k t452 ([]:List Int) 1 t444 t447))=some (r1,r2):=by rw [if_pos rfl] at H;exact H
  clear H
  have H:=H1
  clear H1
  replace H:=Option.bind_eq_some_iff.mp H
  obtain ⟨t452,A40,H⟩:=H
  replace H:(impl_StarParts.l0 k t452 ([]:List Int) 1 t444 t447)=some (r1,r2):=H
  have A4:=Aside0.mk A40
  clear A40
  have H':=Aside0.mk H
  clear H
  go_enter Try.func12,Try.ntmps12
  go_wp2_with (first|((with_reducible refine gate_callee (f:=29) rfl ?_);refine goesL_ (some 13) rfl rfl Try.func29 (by kernel_rfl) rfl #[.string a0] rfl (by (try simp only [List.map_toArray,List.map_cons,List.map_nil]);first|done|rfl|(simp only [List.length_drop,List.length_take];rfl)) ?_;(with_reducible refine (impl_small.calls k a0 t444 t447 true _ A2.out).mono ?_);rintro e w5 ⟨v445,v448,rfl,ho0,ho1,hb⟩;refine ⟨_,rfl,?_⟩;have n0_:=Aside0.mk (Kd.R_lower ho0 (yQ (by repeat (first|(with_reducible first|exact HB.out|apply yA|apply yB|apply yC)|exact HB.out))));have n1_:=Aside0.mk (Kd.R_lower ho1 (yQ (by repeat (first|(with_reducible first|exact HB.out|apply yA|apply yB|apply yC)|exact HB.out))));have n2_:=Aside0.mk (yP (by repeat (first|(with_reducible first|exact HB.out|apply yA|apply yB|apply yC)|exact HB.out)) hb);clear HB;have HO446:=n0_;have HO449:=n1_;have HB:=n2_;clear n0_ n1_ n2_;(try clear hb);(try clear hb2);(try clear hk);(try clear hi);(try clear ho0);(try clear ho1))|((with_reducible refine gate_dst (N:=4) rfl ?_);(try (refine gate_guard (by rfl) ?_;dsimp only));refine box_event ?hg (N:=4) ?hd (cs:=#[.slice none 0 0,.slice none 0 0]) (t:=43) ?hr ?_;(case hd=>rfl);(case hg=>rfl);(case hr=>first|(go_simp;done)|(go_simp;rfl));intro gb451 hg w6 hbox hb;have n0_:=Aside0.mk (Kd.R_below (by (with_reducible repeat (first|apply yH|apply yI|apply yJ));exact HO446.out) hb);have n1_:=Aside0.mk (Kd.R_below (by (with_reducible repeat (first|apply yH|apply yI|apply yJ));exact HO449.out) hb);have n2_:=Aside0.mk (yP (by repeat (first|(with_reducible first|exact HB.out|apply yA|apply yB|apply yC)|exact HB.out)) hb);have n3_:=Aside0.mk (hbox);have n4_:=Aside0.mk ((by rw [hg];exact (yQ (by repeat (first|(with_reducible first|exact HB.out|apply yA|apply yB|apply yC)|exact HB.out))):w.heap.size≤gb451));have n5_:=Aside0.mk ((by rw [hg];exact (yQ (by repeat (first|(with_reducible first|exact HB.out|apply yA|apply yB|apply yC)|exact HB.out))):w.heap.size≤gb451));clear HO446;clear HO449;clear HB;have HO446:=n0_;have HO449:=n1_;have HB:=n2_;have BK451:=n3_;have GW451:=n4_;have GE451:=n5_;clear n0_ n1_ n2_ n3_ n4_ n5_;clear hb hbox hg;obtain ⟨Ao7,co7,eo7⟩:=Kd.R_slice HO446.out;subst eo7;have hcz8_0:w6.cell? ⟨gb451,0,none⟩=some (.slice none 0 0):=(blk_cell BK451.out 0).trans rfl;have hcz8_1:w6.cell? ⟨gb451,1,none⟩=some (.slice none 0 0):=(blk_cell BK451.out 1).trans rfl;have hfz8_0:=blk_frozen BK451.out 0;have hfz8_1:=blk_frozen BK451.out 1;obtain ⟨Ao9,co9,eo9⟩:=Kd.R_slice HO449.out;subst eo9)|((with_reducible refine gate_callee (f:=30) rfl ?_);refine goesL_ (some 19) rfl rfl Try.func30 (by kernel_rfl) rfl #[.agg #[.slice Ao7 t444.length co7,.slice Ao9 t447.length co9],.int .i64 200] rfl (by (try simp only [List.map_toArray,List.map_cons,List.map_nil]);first|done|rfl|(simp only [List.length_drop,List.length_take];rfl)) ?_;(with_reducible refine (impl_star.calls k _ _ t444 _ _ t447 200 t452 _ ?side1 ?side2 ?side3 ?side4 A4.out).mono ?_);(case side1=>refine (Kd.R_reads' (e:=4) (base:=w.heap.size) (ok:=fun k_=>some k_≠(.slice Ao9 t447.length co9:Value).ownBlock) (n:=t444.length) (c:=co7) ?_).2.2;exact (by (with_reducible repeat (first|apply yH|apply yI|apply yJ));exact (Kd.R_mono (Kd.R_far (p:=⟨gb451,1,none⟩) (Kd.R_far (p:=⟨gb451,0,none⟩) (Kd.R_types HO446.out BK451.out (by decide)) (fun _ hk=>hk.2) (.slice Ao7 t444.length co7)) (fun _ hk=>hk.2) (.slice Ao9 t447.length co9)) (fun _ h_=>h_.1))));(case side2=>exact (Kd.R_reads' HO446.out).2.1);(case side3=>refine (Kd.R_reads' (e:=4) (base:=w.heap.size) (ok:=fun k_=>some k_≠(.slice Ao7 t444.length co7:Value).ownBlock) (n:=t447.length) (c:=co9) ?_).2.2;exact (by (with_reducible repeat (first|apply yH|apply yI|apply yJ));exact (Kd.R_mono (Kd.R_far (p:=⟨gb451,1,none⟩) (Kd.R_far (p:=⟨gb451,0,none⟩) (Kd.R_types HO449.out BK451.out (by decide)) (fun _ hk=>hk.2) (.slice Ao7 t444.length co7)) (fun _ hk=>hk.2) (.slice Ao9 t447.length co9)) (fun _ h_=>h_.1))));(case side4=>exact (Kd.R_reads' HO449.out).2.1);rintro e w10 ⟨v453,rfl,ho0,hb⟩;refine ⟨_,rfl,?_⟩;have n0_:=Aside0.mk (Kd.R_elder' (by (with_reducible repeat (first|apply yH|apply yI|apply yJ));exact (Kd.R_mono (Kd.R_far (p:=⟨gb451,1,none⟩) (Kd.R_far (p:=⟨gb451,0,none⟩) (Kd.R_types HO446.out BK451.out (by decide)) (fun _ hk=>hk.2) (.slice Ao7 t444.length co7)) (fun _ hk=>hk.2) (.slice Ao9 t447.length co9)) (fun _ h_=>h_.1))) (Kd.R_base ho0) hb);have n1_:=Aside0.mk (Kd.R_elder' (by (with_reducible repeat (first|apply yH|apply yI|apply yJ));exact (Kd.R_mono (Kd.R_far (p:=⟨gb451,1,none⟩) (Kd.R_far (p:=⟨gb451,0,none⟩) (Kd.R_types HO449.out BK451.out (by decide)) (fun _ hk=>hk.2) (.slice Ao7 t444.length co7)) (fun _ hk=>hk.2) (.slice Ao9 t447.length co9)) (fun _ h_=>h_.1))) (Kd.R_base ho0) hb);have n2_:=Aside0.mk (Kd.R_lower (Kd.R_new' (Kd.R_new' ho0 (Kd.R_lt (by (with_reducible repeat (first|apply yH|apply yI|apply yJ));exact (Kd.R_mono (Kd.R_far (p:=⟨gb451,1,none⟩) (Kd.R_far (p:=⟨gb451,0,none⟩) (Kd.R_types HO446.out BK451.out (by decide)) (fun _ hk=>hk.2) (.slice Ao7 t444.length co7)) (fun _ hk=>hk.2) (.slice Ao9 t447.length co9)) (fun _ h_=>h_.1))))) (Kd.R_lt (by (with_reducible repeat (first|apply yH|apply yI|apply yJ));exact (Kd.R_mono (Kd.R_far (p:=⟨gb451,1,none⟩) (Kd.R_far (p:=⟨gb451,0,none⟩) (Kd.R_types HO449.out BK451.out (by decide)) (fun _ hk=>hk.2) (.slice Ao7 t444.length co7)) (fun _ hk=>hk.2) (.slice Ao9 t447.length co9)) (fun _ h_=>h_.1))))) (yQ (by repeat (first|(with_reducible first|exact HB.out|apply yA|apply yB|apply yC|refine yD ?_ GE451.out)|exact HB.out))));have n3_:=Aside0.mk (blk_below (g:=gb451) (o:=.cells #[.slice Ao7 t444.length co7,.slice Ao9 t447.length co9] 43 (0,0)) (by (with_reducible repeat (first|refine yE ?_ _|refine yF ?_|refine yG ?_ _));refine blk_put (cs:=#[.slice Ao7 t444.length co7,.slice none 0 0]) ?_ 1 _ rfl;(with_reducible repeat (first|refine yE ?_ _|refine yF ?_|refine yG ?_ _));refine blk_put (cs:=#[.slice none 0 0,.slice none 0 0]) ?_ 0 _ rfl;(with_reducible repeat (first|refine yE ?_ _|refine yF ?_|refine yG ?_ _));exact BK451.out) hb);have n4_:=Aside0.mk (yP (by repeat (first|(with_reducible first|exact HB.out|apply yA|apply yB|apply yC|refine yD ?_ GE451.out)|exact HB.out)) hb);clear HO446;clear HO449;clear BK451;clear HB;have HO446:=n0_;have HO449:=n1_;have HO454:=n2_;have BK451:=n3_;have HB:=n4_;clear n0_ n1_ n2_ n3_ n4_;(try clear hb);(try clear hb2);(try clear hk);(try clear hi);(try clear ho0)))
  go_loopg [7,8] k (fun kq v7 v8 w'=>∃ (x7_1:List Int) (x8_1:Int),v8=.int .i64 x8_1∧Aside0 (impl_StarParts.l0 kq t452 x7_1 x8_1 t444 t447=some (r1,r2))∧Aside0 (kq≤k)∧Aside0 (Kd.R Kd.bool 4 w' w.heap.size (fun k_=>some k_≠((.slice Ao7 t444.length co7):Value).ownBlock∧some k_≠((.slice Ao9 t447.length co9):Value).ownBlock) v453 t452)∧Aside0 (Kd.R (Kd.int .i64) 3 w' w.heap.size (fun _=>True) v7 x7_1)∧Aside0 (Kd.R Kd.bool 4 w' w.heap.size (fun k_=>some k_≠(v453:Value).ownBlock∧some k_≠((.slice Ao9 t447.length co9):Value).ownBlock) (.slice Ao7 t444.length co7) t444)∧Aside0 (Kd.R Kd.bool 4 w' w.heap.size (fun k_=>some k_≠(v453:Value).ownBlock∧some k_≠((.slice Ao7 t444.length co7):Value).ownBlock) (.slice Ao9 t447.length co9) t447)∧Aside0 (w'.heap[gb451]?=some (.cells #[(.slice Ao7 t444.length co7),(.slice Ao9 t447.length co9)] 43 (0,0)))∧Aside0 (Below w.heap.size w w'))
  case atStart=>exact ⟨(([]:List Int)),(1),(by first|rfl|(simp;done)|(simp [*];done)|(simp [Int.tmod_eq_emod_of_nonneg];done)),H',⟨Nat.le_refl _⟩,⟨by (with_reducible repeat (first|apply yH|apply yI|apply yJ));exact Kd.R_mono HO454.out (fun _ hk=>⟨hk.1.2,hk.2⟩)⟩,⟨by first|exact Kd.R_nil _ _ _ _ _|exact Kd.N_nil _ _ _ _ _|exact Kd.V_nil _ _ _ _ _|exact Kd.Q_nil _ _ _ _ _|exact Kd.S_nil _ _ _ _ _⟩,⟨by (with_reducible repeat (first|apply yH|apply yI|apply yJ));exact Kd.R_mono HO446.out (fun _ hk=>⟨hk.2,hk.1⟩)⟩,⟨by (with_reducible repeat (first|apply yH|apply yI|apply yJ));exact Kd.R_mono HO449.out (fun _ hk=>⟨hk.2,hk.1⟩)⟩,⟨by (with_reducible repeat (first|refine yE ?_ _|refine yF ?_|refine yG ?_ _));exact BK451.out⟩,⟨by repeat (first|(with_reducible first|exact HB.out|apply yA|apply yB|apply yC|refine yD ?_ GE451.out)|exact HB.out)⟩⟩
  case round =>
   clear H'
   try clear c1
   try clear c2
   try clear p2
   try clear c3
   try clear hcz8_0
   try clear hcz8_1
   try clear hfz8_0
   try clear hfz8_1
   obtain ⟨x7_1,x8_1,rfl,HA,HK1,HO_6,HO_7,HO_452000,HO_452001,BK451,HB⟩:=hrel
   cases gk with
   | zero=>exact absurd HA.out (by simp [impl_StarParts.l0])
   | succ k1 =>
    have H:=HA.out
    clear HA
    simp only [impl_StarParts.l0] at H
    by_cases c11:x8_1<200
    ·rw [if_pos c11] at H
     have c11b0:decide (x8_1<200)=true:=decide_eq_true c11
     clear c11
     have H':=Aside0.mk H
     clear H
     go_wp2
     go_loopg [9,10] k1 (fun kq v9 v10 w'=>∃ (x9_2:Bool) (x10_2:Int),v9=.bool x9_2∧v10=.int .i64 x10_2∧Aside0 (impl_StarParts.l1 kq t452 x7_1 x8_1 x9_2 x10_2 t444 t447=some (r1,r2))∧Aside0 (kq≤k1)∧Aside0 (Kd.R Kd.bool 4 w' w.heap.size (fun k_=>some k_≠((.slice Ao7 t444.length co7):Value).ownBlock∧some k_≠((.slice Ao9 t447.length co9):Value).ownBlock) v453 t452)∧Aside0 (Kd.R (Kd.int .i64) 3 w' w.heap.size (fun _=>True) u7 x7_1)∧Aside0 (Kd.R Kd.bool 4 w' w.heap.size (fun k_=>some k_≠(v453:Value).ownBlock∧some k_≠((.slice Ao9 t447.length co9):Value).ownBlock) (.slice Ao7 t444.length co7) t444)∧Aside0 (Kd.R Kd.bool 4 w' w.heap.size (fun k_=>some k_≠(v453:Value).ownBlock∧some k_≠((.slice Ao7 t444.length co7):Value).ownBlock) (.slice Ao9 t447.length co9) t447)∧Aside0 (w'.heap[gb451]?=some (.cells #[(.slice Ao7 t444.length co7),(.slice Ao9 t447.length co9)] 43 (0,0)))∧Aside0 (Below w.heap.size w w'))
     case atStart=>exact ⟨(false),(1),(by first|rfl|(simp;done)|(simp [*];done)|(simp [Int.tmod_eq_emod_of_nonneg];done)),(by first|rfl|(simp;done)|(simp [*];done)|(simp [Int.tmod_eq_emod_of_nonneg];done)),H',⟨Nat.le_refl _⟩,⟨by (with_reducible repeat (first|apply yH|apply yI|apply yJ));exact HO_6.out⟩,⟨by (with_reducible repeat (first|apply yH|apply yI|apply yJ));exact HO_7.out⟩,⟨by (with_reducible repeat (first|apply yH|apply yI|apply yJ));exact HO_452000.out⟩,⟨by (with_reducible repeat (first|apply yH|apply yI|apply yJ));exact HO_452001.out⟩,⟨by (with_reducible repeat (first|refine yE ?_ _|refine yF ?_|refine yG ?_ _));exact BK451.out⟩,⟨by repeat (first|(with_reducible first|exact HB.out|apply yA|apply yB|apply yC|refine yD ?_ GE451.out)|exact HB.out)⟩⟩
     case round =>
      clear H'
      try clear c1
      try clear c2
      try clear p2
      try clear c3
      try clear c11
      try clear c11b0
      try clear hcz8_0
      try clear hcz8_1
      try clear hfz8_0
      try clear hfz8_1
      try clear p2
      obtain ⟨x9_2,x10_2,rfl,rfl,HA,HK2,HO_6,HO_7,HO_452000,HO_452001,BK451,HB⟩:=hrel
      cases gk with
      | zero=>exact absurd HA.out (by simp [impl_StarParts.l1])
      | succ k2 =>
       have H:=HA.out
       clear HA
       simp only [impl_StarParts.l1] at H
       by_cases c12:x10_2<x8_1
       ·rw [if_pos c12] at H
        have c12b0:decide (x10_2<x8_1)=true:=decide_eq_true c12
        clear c12
        by_cases c13:x9_2=true
        ·subst c13
         have H1:(impl_StarParts.l1 k2 t452 x7_1 x8_1 true (wrap64 (x10_2+1)) t444 t447)=some (r1,r2):=by rw [if_pos rfl] at H;exact H
         clear H
         have H:=H1
         clear H1
         have H':=Aside0.mk H
         clear H
         go_wp2
         go_roundg k2
         case measure=>have:=HK1.out;have:=HK2.out;omega
         case rel=>exact ⟨(true),(wrap64 (x10_2+1)),(by first|rfl|(simp;done)|(simp [*];done)|(simp [Int.tmod_eq_emod_of_nonneg];done)),(by first|rfl|(simp;done)|(simp [*];done)|(simp [Int.tmod_eq_emod_of_nonneg];done)),H',⟨by have:=HK1.out;have:=HK2.out;omega⟩,⟨by (with_reducible repeat (first|apply yH|apply yI|apply yJ));exact HO_6.out⟩,⟨by (with_reducible repeat (first|apply yH|apply yI|apply yJ));exact HO_7.out⟩,⟨by (with_reducible repeat (first|apply yH|apply yI|apply yJ));exact HO_452000.out⟩,⟨by (with_reducible repeat (first|apply yH|apply yI|apply yJ));exact HO_452001.out⟩,⟨by (with_reducible repeat (first|refine yE ?_ _|refine yF ?_|refine yG ?_ _));exact BK451.out⟩,⟨by repeat (first|(with_reducible first|exact HB.out|apply yA|apply yB|apply yC|refine yD ?_ GE451.out)|exact HB.out)⟩⟩
        ·replace c13:=Bool.eq_false_iff.mpr c13
         subst c13
         have H1:(if 0≤x10_2 then (if x10_2<(t452.length:Int) then (if rdOf false t452 x10_2=true then (if 0≤(wrap64 (x8_1 - x10_2)) then (if (wrap64 (x8_1 - x10_2))<(t452.length:Int) then (impl_StarParts.l1 k2 t452 x7_1 x8_1 (rdOf false t452 (wrap64 (x8_1 - x10_2))) (wrap64 (x10_2+1)) t444 t447) else (none)) else (none)) else (impl_StarParts.l1 k2 t452 x7_1 x8_1 false (wrap64 (x10_2+1)) t444 t447)) else (none)) else (none))=some (r1,r2):=by rw [if_neg (show ¬ (false=true) by decide)] at H;exact H
         clear H
         have H:=H1
         clear H1
         by_cases c14:0≤x10_2
         ·rw [if_pos c14] at H
          have c14b0:decide (0≤x10_2)=true:=decide_eq_true c14
          clear c14
          by_cases c15:x10_2<(t452.length:Int)
          ·rw [if_pos c15] at H
           have c15b0:decide (x10_2<(t452.length:Int))=true:=decide_eq_true c15
           clear c15
           obtain ⟨bq16,hbq16⟩:∃ b_:Bool,b_=(rdOf false t452 x10_2):=⟨_,rfl⟩
           replace H:(if bq16=true then (if 0≤(wrap64 (x8_1 - x10_2)) then (if (wrap64 (x8_1 - x10_2))<(t452.length:Int) then (impl_StarParts.l1 k2 t452 x7_1 x8_1 (rdOf false t452 (wrap64 (x8_1 - x10_2))) (wrap64 (x10_2+1)) t444 t447) else (none)) else (none)) else (impl_StarParts.l1 k2 t452 x7_1 x8_1 false (wrap64 (x10_2+1)) t444 t447))=some (r1,r2):=by rw [← hbq16] at H;exact H
           have Nbq16:=Aside0.mk hbq16
           clear hbq16
           by_cases c17:bq16=true
           ·subst c17
            have H1:(if 0≤(wrap64 (x8_1 - x10_2)) then (if (wrap64 (x8_1 - x10_2))<(t452.length:Int) then (impl_StarParts.l1 k2 t452 x7_1 x8_1 (rdOf false t452 (wrap64 (x8_1 - x10_2))) (wrap64 (x10_2+1)) t444 t447) else (none)) else (none))=some (r1,r2):=by rw [if_pos rfl] at H;exact H
            clear H
            have H:=H1
            clear H1
            obtain ⟨ji18,hji18⟩:∃ j_:Int,(wrap64 (x8_1 - x10_2))=j_:=⟨_,rfl⟩
            replace H:(if 0≤(ji18) then (if (ji18)<(t452.length:Int) then (impl_StarParts.l1 k2 t452 x7_1 x8_1 (rdOf false t452 (ji18)) (wrap64 (x10_2+1)) t444 t447) else (none)) else (none))=some (r1,r2):=by first|(rw [hji18] at H;exact H)|(simp only [hji18] at H ⊢;exact H)
            have hji18w:(IntKind.i64.wrap (x8_1 - x10_2))=ji18:=(i64_w _).trans hji18
            by_cases c19:0≤(ji18)
            ·rw [if_pos c19] at H
             have c19b0:decide (0≤(ji18))=true:=decide_eq_true c19
             clear c19
             by_cases c20:(ji18)<(t452.length:Int)
             ·rw [if_pos c20] at H
              have c20b0:decide ((ji18)<(t452.length:Int))=true:=decide_eq_true c20
              clear c20
              have H':=Aside0.mk H
              clear H
              obtain ⟨Ao21,co21,eo21⟩:=Kd.R_slice HO_6.out
              subst eo21
              have p456:0≤(x10_2:Int):=of_decide_eq_true (by first|(with_reducible assumption)|assumption)
              have q456:x10_2<(t452.length:Int):=of_decide_eq_true (by first|(with_reducible assumption)|assumption)
              obtain ⟨ad456,e456,hx456_0⟩:=Kd.at_bool (Kd.R_reads' HO_6.out).2.2 x10_2 p456 q456
              (try rw [← Nbq16.out] at hx456_0)
              cases e456
              replace p456:=eq_true p456
              replace q456:=eq_true q456
              have p457:0≤((ji18):Int):=of_decide_eq_true (by first|(with_reducible assumption)|assumption)
              have q457:(ji18)<(t452.length:Int):=of_decide_eq_true (by first|(with_reducible assumption)|assumption)
              obtain ⟨ad457,e457,hx457_0⟩:=Kd.at_bool (Kd.R_reads' HO_6.out).2.2 (ji18) p457 q457
              (try rw [← Nbq16.out] at hx457_0)
              obtain rfl:ad456=ad457:=(by injection e457)
              replace p457:=eq_true p457
              replace q457:=eq_true q457
              go_wp2
              go_roundg k2
              case measure=>have:=HK1.out;have:=HK2.out;omega
              case rel=>exact ⟨(rdOf false t452 (ji18)),(wrap64 (x10_2+1)),(by first|rfl|(simp;done)|(simp only [← hji18]<;>(first|rfl|simp))|(simp [*];done)),(by first|rfl|(simp;done)|(simp [*];done)|(simp [Int.tmod_eq_emod_of_nonneg];done)),H',⟨by have:=HK1.out;have:=HK2.out;omega⟩,⟨by (with_reducible repeat (first|apply yH|apply yI|apply yJ));exact HO_6.out⟩,⟨by (with_reducible repeat (first|apply yH|apply yI|apply yJ));exact HO_7.out⟩,⟨by (with_reducible repeat (first|apply yH|apply yI|apply yJ));exact HO_452000.out⟩,⟨by (with_reducible repeat (first|apply yH|apply yI|apply yJ));exact HO_452001.out⟩,⟨by (with_reducible repeat (first|refine yE ?_ _|refine yF ?_|refine yG ?_ _));exact BK451.out⟩,⟨by repeat (first|(with_reducible first|exact HB.out|apply yA|apply yB|apply yC|refine yD ?_ GE451.out)|exact HB.out)⟩⟩
             ·rw [if_neg c20] at H
              exact absurd H (by simp)
            ·rw [if_neg c19] at H
             exact absurd H (by simp)
           ·replace c17:=Bool.eq_false_iff.mpr c17
            subst c17
            have H1:(impl_StarParts.l1 k2 t452 x7_1 x8_1 false (wrap64 (x10_2+1)) t444 t447)=some (r1,r2):=by rw [if_neg (show ¬ (false=true) by decide)] at H;exact H
            clear H
            have H:=H1
            clear H1
            have H':=Aside0.mk H
            clear H
            obtain ⟨Ao22,co22,eo22⟩:=Kd.R_slice HO_6.out
            subst eo22
            have p456:0≤(x10_2:Int):=of_decide_eq_true (by first|(with_reducible assumption)|assumption)
            have q456:x10_2<(t452.length:Int):=of_decide_eq_true (by first|(with_reducible assumption)|assumption)
            obtain ⟨ad456,e456,hx456_0⟩:=Kd.at_bool (Kd.R_reads' HO_6.out).2.2 x10_2 p456 q456
            (try rw [← Nbq16.out] at hx456_0)
            cases e456
            replace p456:=eq_true p456
            replace q456:=eq_true q456
            go_wp2
            go_roundg k2
            case measure=>have:=HK1.out;have:=HK2.out;omega
            case rel=>exact ⟨(false),(wrap64 (x10_2+1)),(by first|rfl|(simp;done)|(simp [*];done)|(simp [Int.tmod_eq_emod_of_nonneg];done)),(by first|rfl|(simp;done)|(simp [*];done)|(simp [Int.tmod_eq_emod_of_nonneg];done)),H',⟨by have:=HK1.out;have:=HK2.out;omega⟩,⟨by (with_reducible repeat (first|apply yH|apply yI|apply yJ));exact HO_6.out⟩,⟨by (with_reducible repeat (first|apply yH|apply yI|apply yJ));exact HO_7.out⟩,⟨by (with_reducible repeat (first|apply yH|apply yI|apply yJ));exact HO_452000.out⟩,⟨by (with_reducible repeat (first|apply yH|apply yI|apply yJ));exact HO_452001.out⟩,⟨by (with_reducible repeat (first|refine yE ?_ _|refine yF ?_|refine yG ?_ _));exact BK451.out⟩,⟨by repeat (first|(with_reducible first|exact HB.out|apply yA|apply yB|apply yC|refine yD ?_ GE451.out)|exact HB.out)⟩⟩
          ·rw [if_neg c15] at H
           exact absurd H (by simp)
         ·rw [if_neg c14] at H
          exact absurd H (by simp)
       ·rw [if_neg c12] at H
        have c12b0:decide (x10_2<x8_1)=false:=decide_eq_false c12
        clear c12
        replace H:=Option.bind_eq_some_iff.mp H
        obtain ⟨t458,A230,H⟩:=H
        replace H:(if t458=true then (if x9_2=true then (impl_StarParts.l0 k2 t452 x7_1 (wrap64 (x8_1+1)) t444 t447) else (if x7_1.length<17592186044416 then (impl_StarParts.l0 k2 t452 (x7_1++[x8_1]) (wrap64 (x8_1+1)) t444 t447) else (none))) else (impl_StarParts.l0 k2 t452 x7_1 (wrap64 (x8_1+1)) t444 t447))=some (r1,r2):=H
        have A23:=Aside0.mk A230
        clear A230
        by_cases c24:t458=true
        ·subst c24
         have H1:(if x9_2=true then (impl_StarParts.l0 k2 t452 x7_1 (wrap64 (x8_1+1)) t444 t447) else (if x7_1.length<17592186044416 then (impl_StarParts.l0 k2 t452 (x7_1++[x8_1]) (wrap64 (x8_1+1)) t444 t447) else (none)))=some (r1,r2):=by rw [if_pos rfl] at H;exact H
         clear H
         have H:=H1
         clear H1
         by_cases c25:x9_2=true
         ·subst c25
          have H1:(impl_StarParts.l0 k2 t452 x7_1 (wrap64 (x8_1+1)) t444 t447)=some (r1,r2):=by rw [if_pos rfl] at H;exact H
          clear H
          have H:=H1
          clear H1
          have H':=Aside0.mk H
          clear H
          have hcz26_0:wr.cell? ⟨gb451,0,none⟩=some (.slice Ao7 t444.length co7):=(blk_cell BK451.out 0).trans rfl
          have hcz26_1:wr.cell? ⟨gb451,1,none⟩=some (.slice Ao9 t447.length co9):=(blk_cell BK451.out 1).trans rfl
          have hfz26_0:=blk_frozen BK451.out 0
          have hfz26_1:=blk_frozen BK451.out 1
          go_wp2_with (first|((with_reducible refine gate_callee (f:=27) rfl ?_);refine goesL_ (some 46) rfl rfl Try.func27 (by kernel_rfl) rfl #[.agg #[.slice Ao7 t444.length co7,.slice Ao9 t447.length co9],.int .i64 x8_1] rfl (by (try simp only [List.map_toArray,List.map_cons,List.map_nil]);first|done|rfl|(simp only [List.length_drop,List.length_take];rfl)) ?_;(with_reducible refine (impl_set_has.calls _ _ t444 _ _ t447 x8_1 true _ ?side1 ?side2 ?side3 ?side4 A23.out).mono ?_);(case side1=>repeat (first|exact (Kd.R_reads' HO_452000.out).2.2|(with_reducible refine Kd.C_alloc ?_ _)|(with_reducible refine Kd.C_drewN ?_ _)|(with_reducible refine Kd.C_drew ?_)));(case side2=>exact (Kd.R_reads' HO_452000.out).2.1);(case side3=>repeat (first|exact (Kd.R_reads' HO_452001.out).2.2|(with_reducible refine Kd.C_alloc ?_ _)|(with_reducible refine Kd.C_drewN ?_ _)|(with_reducible refine Kd.C_drew ?_)));(case side4=>exact (Kd.R_reads' HO_452001.out).2.1);rintro e w27 ⟨rfl,hb⟩;refine ⟨_,rfl,?_⟩;have n0_:=Aside0.mk (Kd.R_below (by (with_reducible repeat (first|apply yH|apply yI|apply yJ));exact HO_6.out) hb);have n1_:=Aside0.mk (Kd.R_below (by (with_reducible repeat (first|apply yH|apply yI|apply yJ));exact HO_7.out) hb);have n2_:=Aside0.mk (Kd.R_below (by (with_reducible repeat (first|apply yH|apply yI|apply yJ));exact HO_452000.out) hb);have n3_:=Aside0.mk (Kd.R_below (by (with_reducible repeat (first|apply yH|apply yI|apply yJ));exact HO_452001.out) hb);have n4_:=Aside0.mk (blk_below (g:=gb451) (o:=.cells #[.slice Ao7 t444.length co7,.slice Ao9 t447.length co9] 43 (0,0)) (by (with_reducible repeat (first|refine yE ?_ _|refine yF ?_|refine yG ?_ _));exact BK451.out) hb);have n5_:=Aside0.mk (yP (by repeat (first|(with_reducible first|exact HB.out|apply yA|apply yB|apply yC|refine yD ?_ GE451.out)|exact HB.out)) hb);clear HO_6;clear HO_7;clear HO_452000;clear HO_452001;clear BK451;clear HB;have HO_6:=n0_;have HO_7:=n1_;have HO_452000:=n2_;have HO_452001:=n3_;have BK451:=n4_;have HB:=n5_;clear n0_ n1_ n2_ n3_ n4_ n5_;(try clear hb);(try clear hb2);(try clear hk);(try clear hi)))
          go_roundg k2
          case measure=>have:=HK1.out;have:=HK2.out;omega
          case rel=>exact ⟨(x7_1),(wrap64 (x8_1+1)),(by first|rfl|(simp;done)|(simp [*];done)|(simp [Int.tmod_eq_emod_of_nonneg];done)),H',⟨by have:=HK1.out;have:=HK2.out;omega⟩,⟨by (with_reducible repeat (first|apply yH|apply yI|apply yJ));exact HO_6.out⟩,⟨by (with_reducible repeat (first|apply yH|apply yI|apply yJ));exact HO_7.out⟩,⟨by (with_reducible repeat (first|apply yH|apply yI|apply yJ));exact HO_452000.out⟩,⟨by (with_reducible repeat (first|apply yH|apply yI|apply yJ));exact HO_452001.out⟩,⟨by (with_reducible repeat (first|refine yE ?_ _|refine yF ?_|refine yG ?_ _));exact BK451.out⟩,⟨by repeat (first|(with_reducible first|exact HB.out|apply yA|apply yB|apply yC|refine yD ?_ GE451.out)|exact HB.out)⟩⟩
         ·replace c25:=Bool.eq_false_iff.mpr c25
          subst c25
          have H1:(if x7_1.length<17592186044416 then (impl_StarParts.l0 k2 t452 (x7_1++[x8_1]) (wrap64 (x8_1+1)) t444 t447) else (none))=some (r1,r2):=by rw [if_neg (show ¬ (false=true) by decide)] at H;exact H
          clear H
          have H:=H1
          clear H1
          by_cases c28:x7_1.length<17592186044416
          ·rw [if_pos c28] at H
           have LMc28:=Aside0.mk c28
           clear c28
           obtain ⟨y459,hy459⟩:∃ y_:List Int,y_=(x7_1++[x8_1]):=⟨_,rfl⟩
           replace H:(impl_StarParts.l0 k2 t452 y459 (wrap64 (x8_1+1)) t444 t447)=some (r1,r2):=by first|(rw [hy459];with_reducible exact H)|(have H2_:=(Option.bind_some _ _).symm.trans H;rw [hy459];with_reducible exact H2_)|(have H2_:=(Option.bind_some _ _).symm.trans H;with_reducible exact H2_)|with_reducible exact H|(rw [hy459];exact H)|exact H
           have Ny459:=Aside0.mk hy459
           clear hy459
           have H':=Aside0.mk H
           clear H
           have hcz29_0:wr.cell? ⟨gb451,0,none⟩=some (.slice Ao7 t444.length co7):=(blk_cell BK451.out 0).trans rfl
           have hcz29_1:wr.cell? ⟨gb451,1,none⟩=some (.slice Ao9 t447.length co9):=(blk_cell BK451.out 1).trans rfl
           have hfz29_0:=blk_frozen BK451.out 0
           have hfz29_1:=blk_frozen BK451.out 1
           go_wp2_with (first|((with_reducible refine gate_callee (f:=27) rfl ?_);refine goesL_ (some 46) rfl rfl Try.func27 (by kernel_rfl) rfl #[.agg #[.slice Ao7 t444.length co7,.slice Ao9 t447.length co9],.int .i64 x8_1] rfl (by (try simp only [List.map_toArray,List.map_cons,List.map_nil]);first|done|rfl|(simp only [List.length_drop,List.length_take];rfl)) ?_;(with_reducible refine (impl_set_has.calls _ _ t444 _ _ t447 x8_1 true _ ?side1 ?side2 ?side3 ?side4 A23.out).mono ?_);(case side1=>repeat (first|exact (Kd.R_reads' HO_452000.out).2.2|(with_reducible refine Kd.C_alloc ?_ _)|(with_reducible refine Kd.C_drewN ?_ _)|(with_reducible refine Kd.C_drew ?_)));(case side2=>exact (Kd.R_reads' HO_452000.out).2.1);(case side3=>repeat (first|exact (Kd.R_reads' HO_452001.out).2.2|(with_reducible refine Kd.C_alloc ?_ _)|(with_reducible refine Kd.C_drewN ?_ _)|(with_reducible refine Kd.C_drew ?_)));(case side4=>exact (Kd.R_reads' HO_452001.out).2.1);rintro e w30 ⟨rfl,hb⟩;refine ⟨_,rfl,?_⟩;have n0_:=Aside0.mk (Kd.R_below (by (with_reducible repeat (first|apply yH|apply yI|apply yJ));exact HO_6.out) hb);have n1_:=Aside0.mk (Kd.R_below (by (with_reducible repeat (first|apply yH|apply yI|apply yJ));exact HO_7.out) hb);have n2_:=Aside0.mk (Kd.R_below (by (with_reducible repeat (first|apply yH|apply yI|apply yJ));exact HO_452000.out) hb);have n3_:=Aside0.mk (Kd.R_below (by (with_reducible repeat (first|apply yH|apply yI|apply yJ));exact HO_452001.out) hb);have n4_:=Aside0.mk (blk_below (g:=gb451) (o:=.cells #[.slice Ao7 t444.length co7,.slice Ao9 t447.length co9] 43 (0,0)) (by (with_reducible repeat (first|refine yE ?_ _|refine yF ?_|refine yG ?_ _));exact BK451.out) hb);have n5_:=Aside0.mk (yP (by repeat (first|(with_reducible first|exact HB.out|apply yA|apply yB|apply yC|refine yD ?_ GE451.out)|exact HB.out)) hb);clear HO_6;clear HO_7;clear HO_452000;clear HO_452001;clear BK451;clear HB;have HO_6:=n0_;have HO_7:=n1_;have HO_452000:=n2_;have HO_452001:=n3_;have BK451:=n4_;have HB:=n5_;clear n0_ n1_ n2_ n3_ n4_ n5_;(try clear hb);(try clear hb2);(try clear hk);(try clear hi))|((with_reducible refine gate_builtin (b:=.append) (xs:=#[.tmp 51,.tmp 53]) rfl ?_);(try (refine gate_guard (by rfl) ?_;dsimp only));at_builtin;refine Kd.R_append (Kd.int .i64) (w0:=w) w.heap.size rfl (.tmp 51) (.tmp 53) 29 3 (.int .i64 0) 8 rfl Try.underlying29 info3 rfl (by decide) (by omega) u7 x7_1 x8_1 [.int .i64 x8_1] (fun _=>True) (fun _=>False) rfl rfl ?aP (fun _ hk=>hk.elim) ?aF ?aO ?aB ?aS ?aL ?_;(case aP=>exact rfl);(case aB=>exact (by repeat (first|(with_reducible first|exact HB.out|apply yA|apply yB|apply yC|refine yD ?_ GE451.out)|exact HB.out)));(case aF=>exact (fun _ _=>trivial));(case aO=>exact (by (with_reducible repeat (first|apply yH|apply yI|apply yJ));exact HO_7.out));(case aS=>exact (yQ (by repeat (first|(with_reducible first|exact HB.out|apply yA|apply yB|apply yC|refine yD ?_ GE451.out)|exact HB.out))));(case aL=>have:=LMc28.out;omega);intro v460 w31 ho hb hg hat;rw [← Ny459.out] at ho;have n0_:=Aside0.mk (Kd.R_over' (by (with_reducible repeat (first|apply yH|apply yI|apply yJ));exact HO_6.out) (Kd.R_typed (by (with_reducible repeat (first|apply yH|apply yI|apply yJ));exact HO_7.out)) (by decide) hg);have n1_:=Aside0.mk (Kd.R_over' (by (with_reducible repeat (first|apply yH|apply yI|apply yJ));exact HO_452000.out) (Kd.R_typed (by (with_reducible repeat (first|apply yH|apply yI|apply yJ));exact HO_7.out)) (by decide) hg);have n2_:=Aside0.mk (Kd.R_over' (by (with_reducible repeat (first|apply yH|apply yI|apply yJ));exact HO_452001.out) (Kd.R_typed (by (with_reducible repeat (first|apply yH|apply yI|apply yJ));exact HO_7.out)) (by decide) hg);have n3_:=Aside0.mk (blk_grown (g:=gb451) (o:=.cells #[.slice Ao7 t444.length co7,.slice Ao9 t447.length co9] 43 (0,0)) (by (with_reducible repeat (first|refine yE ?_ _|refine yF ?_|refine yG ?_ _));exact BK451.out) hg (Kd.R_ne HO_7.out BK451.out (by decide)));have n4_:=Aside0.mk (hb);have n5_:=Aside0.mk (ho);clear HO_6;clear HO_452000;clear HO_452001;clear BK451;clear HB;clear HO_7;have HO_6:=n0_;have HO_452000:=n1_;have HO_452001:=n2_;have BK451:=n3_;have HB:=n4_;have HO461:=n5_;clear n0_ n1_ n2_ n3_ n4_ n5_;clear ho hb hg hat))
           go_roundg k2
           case measure=>have:=HK1.out;have:=HK2.out;omega
           case rel=>exact ⟨(y459),(wrap64 (x8_1+1)),(by first|rfl|(simp;done)|(simp [*];done)|(simp [Int.tmod_eq_emod_of_nonneg];done)),H',⟨by have:=HK1.out;have:=HK2.out;omega⟩,⟨by (with_reducible repeat (first|apply yH|apply yI|apply yJ));exact HO_6.out⟩,⟨by (with_reducible repeat (first|apply yH|apply yI|apply yJ));exact HO461.out⟩,⟨by (with_reducible repeat (first|apply yH|apply yI|apply yJ));exact HO_452000.out⟩,⟨by (with_reducible repeat (first|apply yH|apply yI|apply yJ));exact HO_452001.out⟩,⟨by (with_reducible repeat (first|refine yE ?_ _|refine yF ?_|refine yG ?_ _));exact BK451.out⟩,⟨by repeat (first|(with_reducible first|exact HB.out|apply yA|apply yB|apply yC|refine yD ?_ GE451.out)|exact HB.out)⟩⟩
          ·rw [if_neg c28] at H
           exact absurd H (by simp)
        ·replace c24:=Bool.eq_false_iff.mpr c24
         subst c24
         have H1:(impl_StarParts.l0 k2 t452 x7_1 (wrap64 (x8_1+1)) t444 t447)=some (r1,r2):=by rw [if_neg (show ¬ (false=true) by decide)] at H;exact H
         clear H
         have H:=H1
         clear H1
         have H':=Aside0.mk H
         clear H
         have hcz32_0:wr.cell? ⟨gb451,0,none⟩=some (.slice Ao7 t444.length co7):=(blk_cell BK451.out 0).trans rfl
         have hcz32_1:wr.cell? ⟨gb451,1,none⟩=some (.slice Ao9 t447.length co9):=(blk_cell BK451.out 1).trans rfl
         have hfz32_0:=blk_frozen BK451.out 0
         have hfz32_1:=blk_frozen BK451.out 1
         go_wp2_with (first|((with_reducible refine gate_callee (f:=27) rfl ?_);refine goesL_ (some 46) rfl rfl Try.func27 (by kernel_rfl) rfl #[.agg #[.slice Ao7 t444.length co7,.slice Ao9 t447.length co9],.int .i64 x8_1] rfl (by (try simp only [List.map_toArray,List.map_cons,List.map_nil]);first|done|rfl|(simp only [List.length_drop,List.length_take];rfl)) ?_;(with_reducible refine (impl_set_has.calls _ _ t444 _ _ t447 x8_1 false _ ?side1 ?side2 ?side3 ?side4 A23.out).mono ?_);(case side1=>repeat (first|exact (Kd.R_reads' HO_452000.out).2.2|(with_reducible refine Kd.C_alloc ?_ _)|(with_reducible refine Kd.C_drewN ?_ _)|(with_reducible refine Kd.C_drew ?_)));(case side2=>exact (Kd.R_reads' HO_452000.out).2.1);(case side3=>repeat (first|exact (Kd.R_reads' HO_452001.out).2.2|(with_reducible refine Kd.C_alloc ?_ _)|(with_reducible refine Kd.C_drewN ?_ _)|(with_reducible refine Kd.C_drew ?_)));(case side4=>exact (Kd.R_reads' HO_452001.out).2.1);rintro e w33 ⟨rfl,hb⟩;refine ⟨_,rfl,?_⟩;have n0_:=Aside0.mk (Kd.R_below (by (with_reducible repeat (first|apply yH|apply yI|apply yJ));exact HO_6.out) hb);have n1_:=Aside0.mk (Kd.R_below (by (with_reducible repeat (first|apply yH|apply yI|apply yJ));exact HO_7.out) hb);have n2_:=Aside0.mk (Kd.R_below (by (with_reducible repeat (first|apply yH|apply yI|apply yJ));exact HO_452000.out) hb);have n3_:=Aside0.mk (Kd.R_below (by (with_reducible repeat (first|apply yH|apply yI|apply yJ));exact HO_452001.out) hb);have n4_:=Aside0.mk (blk_below (g:=gb451) (o:=.cells #[.slice Ao7 t444.length co7,.slice Ao9 t447.length co9] 43 (0,0)) (by (with_reducible repeat (first|refine yE ?_ _|refine yF ?_|refine yG ?_ _));exact BK451.out) hb);have n5_:=Aside0.mk (yP (by repeat (first|(with_reducible first|exact HB.out|apply yA|apply yB|apply yC|refine yD ?_ GE451.out)|exact HB.out)) hb);clear HO_6;clear HO_7;clear HO_452000;clear HO_452001;clear BK451;clear HB;have HO_6:=n0_;have HO_7:=n1_;have HO_452000:=n2_;have HO_452001:=n3_;have BK451:=n4_;have HB:=n5_;clear n0_ n1_ n2_ n3_ n4_ n5_;(try clear hb);(try clear hb2);(try clear hk);(try clear hi)))
         go_roundg k2
         case measure=>have:=HK1.out;have:=HK2.out;omega
         case rel=>exact ⟨(x7_1),(wrap64 (x8_1+1)),(by first|rfl|(simp;done)|(simp [*];done)|(simp [Int.tmod_eq_emod_of_nonneg];done)),H',⟨by have:=HK1.out;have:=HK2.out;omega⟩,⟨by (with_reducible repeat (first|apply yH|apply yI|apply yJ));exact HO_6.out⟩,⟨by (with_reducible repeat (first|apply yH|apply yI|apply yJ));exact HO_7.out⟩,⟨by (with_reducible repeat (first|apply yH|apply yI|apply yJ));exact HO_452000.out⟩,⟨by (with_reducible repeat (first|apply yH|apply yI|apply yJ));exact HO_452001.out⟩,⟨by (with_reducible repeat (first|refine yE ?_ _|refine yF ?_|refine yG ?_ _));exact BK451.out⟩,⟨by repeat (first|(with_reducible first|exact HB.out|apply yA|apply yB|apply yC|refine yD ?_ GE451.out)|exact HB.out)⟩⟩
    ·rw [if_neg c11] at H
     have c11b0:decide (x8_1<200)=false:=decide_eq_false c11
     clear c11
     by_cases c34:(x7_1.length:Int) > 0
     ·rw [if_pos c34] at H
      have c34b0:decide (0<(x7_1.length:Int))=true:=decide_eq_true c34
      have c34b1:decide (0<x7_1.length)=true:=decide_eq_true (by omega)
      clear c34
      obtain ⟨ji35,hji35⟩:∃ j_:Int,(wrap64 ((x7_1.length:Int) - 1))=j_:=⟨_,rfl⟩
      replace H:(if 0≤(ji35) then (if (ji35)<(x7_1.length:Int) then (if (rd x7_1 (ji35)) ≥ 60 then (some (([]:List Int),false)) else (some (x7_1,true))) else (none)) else (none))=some (r1,r2):=by first|(rw [hji35] at H;exact H)|(simp only [hji35] at H ⊢;exact H)
      have hji35w:(IntKind.i64.wrap ((x7_1.length:Int) - 1))=ji35:=(i64_w _).trans hji35
      by_cases c36:0≤(ji35)
      ·rw [if_pos c36] at H
       have c36b0:decide (0≤(ji35))=true:=decide_eq_true c36
       clear c36
       by_cases c37:(ji35)<(x7_1.length:Int)
       ·rw [if_pos c37] at H
        have c37b0:decide ((ji35)<(x7_1.length:Int))=true:=decide_eq_true c37
        clear c37
        by_cases c38:(rd x7_1 (ji35)) ≥ 60
        ·rw [if_pos c38] at H
         have c38b0:decide (60≤(rd x7_1 (ji35)))=true:=decide_eq_true c38
         clear c38
         simp only [Option.some.injEq,Prod.mk.injEq] at H
         obtain ⟨rfl,rfl⟩:=H
         obtain ⟨Ao39,co39,eo39⟩:=Kd.R_slice HO_7.out
         subst eo39
         have p455:0≤((ji35):Int):=of_decide_eq_true (by first|(with_reducible assumption)|assumption)
         have q455:(ji35)<(x7_1.length:Int):=of_decide_eq_true (by first|(with_reducible assumption)|assumption)
         obtain ⟨ad455,e455,hx455_0⟩:=Kd.at_int (Kd.R_reads' HO_7.out).2.2 (ji35) p455 q455
         cases e455
         replace p455:=eq_true p455
         replace q455:=eq_true q455
         go_wp2
         go_ret2
         exact ⟨_,by first|rfl|(simp [errW_none,errW_some]<;>rfl)|(simp only [← hji35];first|rfl|(simp [errW_none,errW_some]<;>rfl))|(simp [*,errW_none,errW_some]<;>rfl),by first|exact Kd.R_nil _ _ _ _ _|exact Kd.N_nil _ _ _ _ _|exact Kd.V_nil _ _ _ _ _|exact Kd.Q_nil _ _ _ _ _|exact Kd.S_nil _ _ _ _ _,by repeat (first|(with_reducible first|exact HB.out|apply yA|apply yB|apply yC|refine yD ?_ GE451.out)|exact HB.out)⟩
        ·rw [if_neg c38] at H
         have c38b0:decide (60≤(rd x7_1 (ji35)))=false:=decide_eq_false c38
         clear c38
         simp only [Option.some.injEq,Prod.mk.injEq] at H
         obtain ⟨rfl,rfl⟩:=H
         obtain ⟨Ao40,co40,eo40⟩:=Kd.R_slice HO_7.out
         subst eo40
         have p455:0≤((ji35):Int):=of_decide_eq_true (by first|(with_reducible assumption)|assumption)
         have q455:(ji35)<(x7_1.length:Int):=of_decide_eq_true (by first|(with_reducible assumption)|assumption)
         obtain ⟨ad455,e455,hx455_0⟩:=Kd.at_int (Kd.R_reads' HO_7.out).2.2 (ji35) p455 q455
         cases e455
         replace p455:=eq_true p455
         replace q455:=eq_true q455
         go_wp2
         go_ret2
         exact ⟨_,by first|rfl|(simp [errW_none,errW_some]<;>rfl)|(simp only [← hji35];first|rfl|(simp [errW_none,errW_some]<;>rfl))|(simp [*,errW_none,errW_some]<;>rfl),by (with_reducible repeat (first|apply yH|apply yI|apply yJ));exact HO_7.out,by repeat (first|(with_reducible first|exact HB.out|apply yA|apply yB|apply yC|refine yD ?_ GE451.out)|exact HB.out)⟩
       ·rw [if_neg c37] at H
        exact absurd H (by simp)
      ·rw [if_neg c36] at H
       exact absurd H (by simp)
     ·rw [if_neg c34] at H
      have c34b0:decide (0<(x7_1.length:Int))=false:=decide_eq_false c34
      have c34b1:decide (0<x7_1.length)=false:=decide_eq_false (by omega)
      clear c34
      simp only [Option.some.injEq,Prod.mk.injEq] at H
      obtain ⟨rfl,rfl⟩:=H
      obtain ⟨Ao41,co41,eo41⟩:=Kd.R_slice HO_7.out
      subst eo41
      go_wp2
      go_ret2
      exact ⟨_,by first|rfl|(simp [errW_none,errW_some]<;>rfl)|(simp [*,errW_none,errW_some]<;>rfl)|(simp [errW_none,errW_some];exact ⟨rfl,rfl⟩),by (with_reducible repeat (first|apply yH|apply yI|apply yJ));exact HO_7.out,by repeat (first|(with_reducible first|exact HB.out|apply yA|apply yB|apply yC|refine yD ?_ GE451.out)|exact HB.out)⟩
 ·replace c3:=Bool.eq_false_iff.mpr c3
  subst c3
  have H1:(some (([]:List Int),false))=some (r1,r2):=by rw [if_neg (show ¬ (false=true) by decide)] at H;exact H
  clear H
  have H:=H1
  clear H1
  simp only [Option.some.injEq,Prod.mk.injEq] at H
  obtain ⟨rfl,rfl⟩:=H
  go_enter Try.func12,Try.ntmps12
  go_wp2_with (first|((with_reducible refine gate_callee (f:=29) rfl ?_);refine goesL_ (some 13) rfl rfl Try.func29 (by kernel_rfl) rfl #[.string a0] rfl (by (try simp only [List.map_toArray,List.map_cons,List.map_nil]);first|done|rfl|(simp only [List.length_drop,List.length_take];rfl)) ?_;(with_reducible refine (impl_small.calls k a0 t444 t447 false _ A2.out).mono ?_);rintro e w42 ⟨v445,v448,rfl,ho0,ho1,hb⟩;refine ⟨_,rfl,?_⟩;have n0_:=Aside0.mk (Kd.R_lower ho0 (yQ (by repeat (first|(with_reducible first|exact HB.out|apply yA|apply yB|apply yC)|exact HB.out))));have n1_:=Aside0.mk (Kd.R_lower ho1 (yQ (by repeat (first|(with_reducible first|exact HB.out|apply yA|apply yB|apply yC)|exact HB.out))));have n2_:=Aside0.mk (yP (by repeat (first|(with_reducible first|exact HB.out|apply yA|apply yB|apply yC)|exact HB.out)) hb);clear HB;have HO446:=n0_;have HO449:=n1_;have HB:=n2_;clear n0_ n1_ n2_;(try clear hb);(try clear hb2);(try clear hk);(try clear hi);(try clear ho0);(try clear ho1))|((with_reducible refine gate_dst (N:=4) rfl ?_);(try (refine gate_guard (by rfl) ?_;dsimp only));refine box_event ?hg (N:=4) ?hd (cs:=#[.slice none 0 0,.slice none 0 0]) (t:=43) ?hr ?_;(case hd=>rfl);(case hg=>rfl);(case hr=>first|(go_simp;done)|(go_simp;rfl));intro gb451 hg w43 hbox hb;have n0_:=Aside0.mk (Kd.R_below (by (with_reducible repeat (first|apply yH|apply yI|apply yJ));exact HO446.out) hb);have n1_:=Aside0.mk (Kd.R_below (by (with_reducible repeat (first|apply yH|apply yI|apply yJ));exact HO449.out) hb);have n2_:=Aside0.mk (yP (by repeat (first|(with_reducible first|exact HB.out|apply yA|apply yB|apply yC)|exact HB.out)) hb);have n3_:=Aside0.mk (hbox);have n4_:=Aside0.mk ((by rw [hg];exact (yQ (by repeat (first|(with_reducible first|exact HB.out|apply yA|apply yB|apply yC)|exact HB.out))):w.heap.size≤gb451));have n5_:=Aside0.mk ((by rw [hg];exact (yQ (by repeat (first|(with_reducible first|exact HB.out|apply yA|apply yB|apply yC)|exact HB.out))):w.heap.size≤gb451));clear HO446;clear HO449;clear HB;have HO446:=n0_;have HO449:=n1_;have HB:=n2_;have BK451:=n3_;have GW451:=n4_;have GE451:=n5_;clear n0_ n1_ n2_ n3_ n4_ n5_;clear hb hbox hg;obtain ⟨Ao44,co44,eo44⟩:=Kd.R_slice HO446.out;subst eo44;have hcz45_0:w43.cell? ⟨gb451,0,none⟩=some (.slice none 0 0):=(blk_cell BK451.out 0).trans rfl;have hcz45_1:w43.cell? ⟨gb451,1,none⟩=some (.slice none 0 0):=(blk_cell BK451.out 1).trans rfl;have hfz45_0:=blk_frozen BK451.out 0;have hfz45_1:=blk_frozen BK451.out 1;obtain ⟨Ao46,co46,eo46⟩:=Kd.R_slice HO449.out;subst eo46))
  go_ret2
  exact ⟨_,by first|rfl|(simp [errW_none,errW_some]<;>rfl)|(simp [*,errW_none,errW_some]<;>rfl)|(simp [errW_none,errW_some];exact ⟨rfl,rfl⟩),by first|exact Kd.R_nil _ _ _ _ _|exact Kd.N_nil _ _ _ _ _|exact Kd.V_nil _ _ _ _ _|exact Kd.Q_nil _ _ _ _ _|exact Kd.S_nil _ _ _ _ _,by repeat (first|(with_reducible first|exact HB.out|apply yA|apply yB|apply yC|refine yD ?_ GE451.out)|exact HB.out)⟩

end Go.Proofs.Yticdcfgjpopkoaa.P

namespace Go.Proofs.Yticdcfgjpopkoaa.P
open Go.RowKit Go.Proofs.YticdcfgjpopkoaaW.PrintWords Go.Proofs.YticdcfgjpopkoaaW.PrintLast Go.Proofs.YticdcfgjpopkoaaW.PrintMore
attribute [local go_sem] max2_int min2_int max_two min_two max_three min_three max_four min_four   -- for this text's walks alone
set_option linter.unusedVariables false
set_option linter.unusedSimpArgs false

/-! ### impl_SetHas: function 9 -/
def impl_SetHas.f (k:Nat) (a0:ByteArray) (a1:Int):Option (Bool):=(impl_setOf.f k a0).bind fun bt394=>(if bt394.2.2=true then ((impl_set_has.f bt394.1 bt394.2.1 a1).bind fun t402=>(some t402)) else (some false))
theorem impl_SetHas.mono:∀ a0 a1 k,LeO (impl_SetHas.f k a0 a1) (impl_SetHas.f (k+1) a0 a1):=by
 intro a0 a1 k
 unfold impl_SetHas.f
 repeat' first
   | (with_reducible exact impl_setOf.mono _ _)
   | (with_reducible exact LeO.refl _)
   | (with_reducible exact LeO.none _)
   | (with_reducible refine LeO.ite ?_ ?_)
   | (with_reducible refine LeO.bind ?_ (fun _=>?_))
   | exact impl_setOf.mono _ _
   | exact LeO.none _
   | refine LeO.ite ?_ ?_
   | refine LeO.bind ?_ (fun _=>?_)
set_option maxHeartbeats 8000000 in
set_option maxRecDepth 100000 in
theorem impl_SetHas.calls (k:Nat) (a0:ByteArray) (a1:Int) (r:Bool) (w:World) (h:impl_SetHas.f k a0 a1=some r) :
  Calls Try.prog 9 #[.string a0,.int .i64 a1] w fun e w'=>e=.returned (.bool r)∧Below w.heap.size w w':=by
 have hu43:=Try.underlying43
 have HB:=Aside0.mk (Below.refl w.heap.size w)
 have H:((impl_setOf.f k a0).bind fun bt394=>(if bt394.2.2=true then ((impl_set_has.f bt394.1 bt394.2.1 a1).bind fun t402=>(some t402)) else (some false)))=some r:=h
 clear h
 replace H:=Option.bind_eq_some_iff.mp H
 obtain ⟨⟨t394,t397,t400⟩,A30,H⟩:=H
 replace H:(if t400=true then ((impl_set_has.f t394 t397 a1).bind fun t402=>(some t402)) else (some false))=some r:=H
 have A3:=Aside0.mk A30
 clear A30
 by_cases c4:t400=true
 ·subst c4
  have H1:((impl_set_has.f t394 t397 a1).bind fun t402=>(some t402))=some r:=by rw [if_pos rfl] at H;exact H
  clear H
  have H:=H1
  clear H1
  replace H:=Option.bind_eq_some_iff.mp H
  obtain ⟨t402,A50,H⟩:=H
  replace H:(some t402)=some r:=H
  have A5:=Aside0.mk A50
  clear A50
  obtain rfl:=Option.some.inj H
  go_enter Try.func9,Try.ntmps9
  go_wp2_with (first|((with_reducible refine gate_callee (f:=26) rfl ?_);refine goesL_ (some 9) rfl rfl Try.func26 (by kernel_rfl) rfl #[.string a0] rfl (by (try simp only [List.map_toArray,List.map_cons,List.map_nil]);first|done|rfl|(simp only [List.length_drop,List.length_take];rfl)) ?_;(with_reducible refine (impl_setOf.calls k a0 t394 t397 true _ A3.out).mono ?_);rintro e w6 ⟨v395,v398,rfl,ho0,ho1,hb⟩;refine ⟨_,rfl,?_⟩;have n0_:=Aside0.mk (Kd.R_lower ho0 (yQ (by repeat (first|(with_reducible first|exact HB.out|apply yA|apply yB|apply yC)|exact HB.out))));have n1_:=Aside0.mk (Kd.R_lower ho1 (yQ (by repeat (first|(with_reducible first|exact HB.out|apply yA|apply yB|apply yC)|exact HB.out))));have n2_:=Aside0.mk (yP (by repeat (first|(with_reducible first|exact HB.out|apply yA|apply yB|apply yC)|exact HB.out)) hb);clear HB;have HO396:=n0_;have HO399:=n1_;have HB:=n2_;clear n0_ n1_ n2_;(try clear hb);(try clear hb2);(try clear hk);(try clear hi);(try clear ho0);(try clear ho1))|((with_reducible refine gate_dst (N:=5) rfl ?_);refine box_event ?hg (N:=5) ?hd (cs:=#[.slice none 0 0,.slice none 0 0]) (t:=43) ?hr ?_;(case hd=>rfl);(case hg=>rfl);(case hr=>first|(go_simp;done)|(go_simp;rfl));intro gb401 hg w7 hbox hb;have n0_:=Aside0.mk (Kd.R_below (by (with_reducible repeat (first|apply yH|apply yI|apply yJ));exact HO396.out) hb);have n1_:=Aside0.mk (Kd.R_below (by (with_reducible repeat (first|apply yH|apply yI|apply yJ));exact HO399.out) hb);have n2_:=Aside0.mk (yP (by repeat (first|(with_reducible first|exact HB.out|apply yA|apply yB|apply yC)|exact HB.out)) hb);have n3_:=Aside0.mk (hbox);have n4_:=Aside0.mk ((by rw [hg];exact (yQ (by repeat (first|(with_reducible first|exact HB.out|apply yA|apply yB|apply yC)|exact HB.out))):w.heap.size≤gb401));have n5_:=Aside0.mk ((by rw [hg];exact (yQ (by repeat (first|(with_reducible first|exact HB.out|apply yA|apply yB|apply yC)|exact HB.out))):w.heap.size≤gb401));clear HO396;clear HO399;clear HB;have HO396:=n0_;have HO399:=n1_;have HB:=n2_;have BK401:=n3_;have GW401:=n4_;have GE401:=n5_;clear n0_ n1_ n2_ n3_ n4_ n5_;clear hb hbox hg;obtain ⟨Ao8,co8,eo8⟩:=Kd.R_slice HO396.out;subst eo8;have hcz9_0:w7.cell? ⟨gb401,0,none⟩=some (.slice none 0 0):=(blk_cell BK401.out 0).trans rfl;have hcz9_1:w7.cell? ⟨gb401,1,none⟩=some (.slice none 0 0):=(blk_cell BK401.out 1).trans rfl;have hfz9_0:=blk_frozen BK401.out 0;have hfz9_1:=blk_frozen BK401.out 1;obtain ⟨Ao10,co10,eo10⟩:=Kd.R_slice HO399.out;subst eo10)|(go_at_call 27;(with_reducible refine (impl_set_has.calls _ _ t394 _ _ t397 a1 t402 _ ?side1 ?side2 ?side3 ?side4 A5.out).mono ?_);(case side1=>refine (Kd.R_reads' (e:=4) (base:=w.heap.size) (ok:=fun k_=>some k_≠(.slice Ao10 t397.length co10:Value).ownBlock) (n:=t394.length) (c:=co8) ?_).2.2;exact (by (with_reducible repeat (first|apply yH|apply yI|apply yJ));exact (Kd.R_mono (Kd.R_far (p:=⟨gb401,1,none⟩) (Kd.R_far (p:=⟨gb401,0,none⟩) (Kd.R_types HO396.out BK401.out (by decide)) (fun _ hk=>hk.2) (.slice Ao8 t394.length co8)) (fun _ hk=>hk.2) (.slice Ao10 t397.length co10)) (fun _ h_=>h_.1))));(case side2=>exact (Kd.R_reads' HO396.out).2.1);(case side3=>refine (Kd.R_reads' (e:=4) (base:=w.heap.size) (ok:=fun k_=>some k_≠(.slice Ao8 t394.length co8:Value).ownBlock) (n:=t397.length) (c:=co10) ?_).2.2;exact (by (with_reducible repeat (first|apply yH|apply yI|apply yJ));exact (Kd.R_mono (Kd.R_far (p:=⟨gb401,1,none⟩) (Kd.R_far (p:=⟨gb401,0,none⟩) (Kd.R_types HO399.out BK401.out (by decide)) (fun _ hk=>hk.2) (.slice Ao8 t394.length co8)) (fun _ hk=>hk.2) (.slice Ao10 t397.length co10)) (fun _ h_=>h_.1))));(case side4=>exact (Kd.R_reads' HO399.out).2.1);rintro e w11 ⟨rfl,hb⟩;have n0_:=Aside0.mk (Kd.R_below (by (with_reducible repeat (first|apply yH|apply yI|apply yJ));exact (Kd.R_mono (Kd.R_far (p:=⟨gb401,1,none⟩) (Kd.R_far (p:=⟨gb401,0,none⟩) (Kd.R_types HO396.out BK401.out (by decide)) (fun _ hk=>hk.2) (.slice Ao8 t394.length co8)) (fun _ hk=>hk.2) (.slice Ao10 t397.length co10)) (fun _ h_=>h_.1))) hb);have n1_:=Aside0.mk (Kd.R_below (by (with_reducible repeat (first|apply yH|apply yI|apply yJ));exact (Kd.R_mono (Kd.R_far (p:=⟨gb401,1,none⟩) (Kd.R_far (p:=⟨gb401,0,none⟩) (Kd.R_types HO399.out BK401.out (by decide)) (fun _ hk=>hk.2) (.slice Ao8 t394.length co8)) (fun _ hk=>hk.2) (.slice Ao10 t397.length co10)) (fun _ h_=>h_.1))) hb);have n2_:=Aside0.mk (blk_below (g:=gb401) (o:=.cells #[.slice Ao8 t394.length co8,.slice Ao10 t397.length co10] 43 (0,0)) (by (with_reducible repeat (first|refine yE ?_ _|refine yF ?_|refine yG ?_ _));refine blk_put (cs:=#[.slice Ao8 t394.length co8,.slice none 0 0]) ?_ 1 _ rfl;(with_reducible repeat (first|refine yE ?_ _|refine yF ?_|refine yG ?_ _));refine blk_put (cs:=#[.slice none 0 0,.slice none 0 0]) ?_ 0 _ rfl;(with_reducible repeat (first|refine yE ?_ _|refine yF ?_|refine yG ?_ _));exact BK401.out) hb);have n3_:=Aside0.mk (yP (by repeat (first|(with_reducible first|exact HB.out|apply yA|apply yB|apply yC|refine yD ?_ GE401.out)|exact HB.out)) hb);clear HO396;clear HO399;clear BK401;clear HB;have HO396:=n0_;have HO399:=n1_;have BK401:=n2_;have HB:=n3_;clear n0_ n1_ n2_ n3_;(try clear hb);(try clear hb2);(try clear hk);(try clear hi)))
  go_ret
  exact ⟨by first|rfl|(simp [errW_none,errW_some]<;>rfl)|(simp [*,errW_none,errW_some]<;>rfl)|(simp [errW_none,errW_some];exact ⟨rfl,rfl⟩),by repeat (first|(with_reducible first|exact HB.out|apply yA|apply yB|apply yC|refine yD ?_ GE401.out)|exact HB.out)⟩
 ·replace c4:=Bool.eq_false_iff.mpr c4
  subst c4
  have H1:(some false)=some r:=by rw [if_neg (show ¬ (false=true) by decide)] at H;exact H
  clear H
  have H:=H1
  clear H1
  obtain rfl:=Option.some.inj H
  go_enter Try.func9,Try.ntmps9
  go_wp2_with (first|((with_reducible refine gate_callee (f:=26) rfl ?_);refine goesL_ (some 9) rfl rfl Try.func26 (by kernel_rfl) rfl #[.string a0] rfl (by (try simp only [List.map_toArray,List.map_cons,List.map_nil]);first|done|rfl|(simp only [List.length_drop,List.length_take];rfl)) ?_;(with_reducible refine (impl_setOf.calls k a0 t394 t397 false _ A3.out).mono ?_);rintro e w12 ⟨v395,v398,rfl,ho0,ho1,hb⟩;refine ⟨_,rfl,?_⟩;have n0_:=Aside0.mk (Kd.R_lower ho0 (yQ (by repeat (first|(with_reducible first|exact HB.out|apply yA|apply yB|apply yC)|exact HB.out))));have n1_:=Aside0.mk (Kd.R_lower ho1 (yQ (by repeat (first|(with_reducible first|exact HB.out|apply yA|apply yB|apply yC)|exact HB.out))));have n2_:=Aside0.mk (yP (by repeat (first|(with_reducible first|exact HB.out|apply yA|apply yB|apply yC)|exact HB.out)) hb);clear HB;have HO396:=n0_;have HO399:=n1_;have HB:=n2_;clear n0_ n1_ n2_;(try clear hb);(try clear hb2);(try clear hk);(try clear hi);(try clear ho0);(try clear ho1))|((with_reducible refine gate_dst (N:=5) rfl ?_);refine box_event ?hg (N:=5) ?hd (cs:=#[.slice none 0 0,.slice none 0 0]) (t:=43) ?hr ?_;(case hd=>rfl);(case hg=>rfl);(case hr=>first|(go_simp;done)|(go_simp;rfl));intro gb401 hg w13 hbox hb;have n0_:=Aside0.mk (Kd.R_below (by (with_reducible repeat (first|apply yH|apply yI|apply yJ));exact HO396.out) hb);have n1_:=Aside0.mk (Kd.R_below (by (with_reducible repeat (first|apply yH|apply yI|apply yJ));exact HO399.out) hb);have n2_:=Aside0.mk (yP (by repeat (first|(with_reducible first|exact HB.out|apply yA|apply yB|apply yC)|exact HB.out)) hb);have n3_:=Aside0.mk (hbox);have n4_:=Aside0.mk ((by rw [hg];exact (yQ (by repeat (first|(with_reducible first|exact HB.out|apply yA|apply yB|apply yC)|exact HB.out))):w.heap.size≤gb401));have n5_:=Aside0.mk ((by rw [hg];exact (yQ (by repeat (first|(with_reducible first|exact HB.out|apply yA|apply yB|apply yC)|exact HB.out))):w.heap.size≤gb401));clear HO396;clear HO399;clear HB;have HO396:=n0_;have HO399:=n1_;have HB:=n2_;have BK401:=n3_;have GW401:=n4_;have GE401:=n5_;clear n0_ n1_ n2_ n3_ n4_ n5_;clear hb hbox hg;obtain ⟨Ao14,co14,eo14⟩:=Kd.R_slice HO396.out;subst eo14;have hcz15_0:w13.cell? ⟨gb401,0,none⟩=some (.slice none 0 0):=(blk_cell BK401.out 0).trans rfl;have hcz15_1:w13.cell? ⟨gb401,1,none⟩=some (.slice none 0 0):=(blk_cell BK401.out 1).trans rfl;have hfz15_0:=blk_frozen BK401.out 0;have hfz15_1:=blk_frozen BK401.out 1;obtain ⟨Ao16,co16,eo16⟩:=Kd.R_slice HO399.out;subst eo16))
  go_ret
  exact ⟨by first|rfl|(simp [errW_none,errW_some]<;>rfl)|(simp [*,errW_none,errW_some]<;>rfl)|(simp [errW_none,errW_some];exact ⟨rfl,rfl⟩),by repeat (first|(with_reducible first|exact HB.out|apply yA|apply yB|apply yC|refine yD ?_ GE401.out)|exact HB.out)⟩

end Go.Proofs.Yticdcfgjpopkoaa.P

-- The tidy form of a set of numbers told by a tail and a ring is one; texts and what they tell.
namespace Go.Proofs.Yticdcfgjpopkoaa.P
open Go.RowKit Go.Proofs.YticdcfgjpopkoaaW.PrintWords Go.Proofs.YticdcfgjpopkoaaW.PrintLast Go.Proofs.YticdcfgjpopkoaaW.PrintMore
set_option linter.unusedVariables false
set_option linter.unusedSimpArgs false
/-- Is a number in the set of a tail and a ring? -/
def hasB (t r : List Bool) (n : Nat) : Bool := if n < t.length then t.getD n false else r.getD ((n - t.length) % r.length) false

/-- No shorter ring tells the same: of each proper divisor's period some place is not met. -/
def Prim (r : List Bool) : Prop := r ≠ [] ∧ ∀ d, 0 < d → d < r.length → d ∣ r.length → ∃ i, i < r.length ∧ r.getD i false ≠ r.getD (i % d) false

/-- The tidy form. -/
def Canon (t r : List Bool) : Prop := Prim r ∧ (t = [] ∨ t.getD (t.length - 1) false ≠ r.getD (r.length - 1) false)

theorem hasB_tail {t r : List Bool} {n : Nat} (h : n < t.length) : hasB t r n = t.getD n false := by simp [hasB, h]
theorem hasB_ring {t r : List Bool} {i : Nat} : hasB t r (t.length + i) = r.getD (i % r.length) false := by
  unfold hasB; rw [if_neg (by omega)]; congr 2; omega
theorem hasB_ring' {t r : List Bool} {n : Nat} (h : t.length ≤ n) : hasB t r n = r.getD ((n - t.length) % r.length) false := by
  unfold hasB; rw [if_neg (by omega)]

/-- f comes again by p, from m on. -/
def Per (f : Nat → Bool) (m p : Nat) : Prop := ∀ n, m ≤ n → f (n + p) = f n

theorem Per.mono {f : Nat → Bool} {m m' p : Nat} (h : Per f m p) (hm : m ≤ m') : Per f m' p := fun n hn => h n (by omega)
theorem Per.mul {f : Nat → Bool} {m p : Nat} (h : Per f m p) : ∀ k, Per f m (k * p)
  | 0 => fun n _ => by simp
  | k + 1 => fun n hn => by
    have h1 := Per.mul h k n hn
    have h2 := h (n + k * p) (by omega)
    rw [Nat.succ_mul, ← Nat.add_assoc, h2, h1]
theorem Per.dvd {f : Nat → Bool} {m p q : Nat} (h : Per f m p) (hd : p ∣ q) : Per f m q := by
  obtain ⟨k, rfl⟩ := hd
  rw [Nat.mul_comm]; exact h.mul k
theorem hasB_per (t r : List Bool) : Per (hasB t r) t.length r.length := fun n hn => by
  rw [hasB_ring' hn, hasB_ring' (by omega)]
  congr 1
  rw [show n + r.length - t.length = (n - t.length) + r.length by omega, Nat.add_mod_right]

/-- From a point far out on, a number and another one of the same rest. -/
theorem Per.mod {f : Nat → Bool} {m p : Nat} (h : Per f m p) (n : Nat) (hn : m ≤ n) : f n = f (m + (n - m) % p) := by
  have h1 := h.mul ((n - m) / p) (m + (n - m) % p) (by omega)
  rw [← h1]
  congr 1
  have := Nat.mod_add_div (n - m) p
  rw [Nat.mul_comm] at this
  omega

/-- Two numbers' greatest divisor, out of both: g + a q = b p. -/
theorem bezout_nat (p : Nat) : ∀ q, 0 < p → ∃ a b, Nat.gcd p q + a * q = b * p := by
  intro q hp
  have key : ∀ n, ∀ p q : Nat, p + q ≤ n → 0 < p → (∃ a b, Nat.gcd p q + a * q = b * p) := by
    intro n
    induction n with
    | zero => intro p q h hp; omega
    | succ n ih =>
      intro p q h hp
      rcases Nat.eq_zero_or_pos q with rfl | hq
      · exact ⟨0, 1, by simp⟩
      · rcases Nat.lt_or_ge q p with hlt | hge
        · -- q < p: swap
          obtain ⟨a, b, e⟩ := ih q (p % q) (by have := Nat.mod_lt p hq; omega) hq
          -- gcd q (p % q) + a (p % q) = b q
          have hg : Nat.gcd q (p % q) = Nat.gcd p q := by rw [Nat.gcd_comm p q, Nat.gcd_rec q p, Nat.gcd_comm]
          rw [hg] at e
          -- p = q (p/q) + p % q : g + a p = (b + a (p/q)) q ; want g + A q = B p
          have hp2 := Nat.mod_add_div p q
          have e2 : Nat.gcd p q + a * p = (b + a * (p / q)) * q := by
            have : a * p = a * (p % q) + a * (p / q) * q := by
              conv => lhs; rw [← hp2]
              rw [Nat.mul_add, Nat.mul_comm q (p / q), Nat.mul_assoc]
            rw [this, Nat.add_mul, ← Nat.add_assoc, e]
          -- g + a p = c q. take B = a' p with...: g + (k p - c) q = (k q - a) p with k large
          refine ⟨(b + a * (p / q) + a) * p - (b + a * (p / q)), (b + a * (p / q) + a) * q - a, ?_⟩
          generalize hc : b + a * (p / q) = c at e2 ⊢
          have h1 : c ≤ (c + a) * p := Nat.le_trans (Nat.le_add_right c a) (Nat.le_mul_of_pos_right _ hp)
          have h2 : a ≤ (c + a) * q := Nat.le_trans (Nat.le_add_left a c) (Nat.le_mul_of_pos_right _ hq)
          rw [Nat.sub_mul, Nat.sub_mul]
          have h3 : c * q ≤ (c + a) * p * q := Nat.mul_le_mul_right q h1
          have h4 : a * p ≤ (c + a) * q * p := Nat.mul_le_mul_right p h2
          have h5 : (c + a) * p * q = (c + a) * q * p := by rw [Nat.mul_assoc, Nat.mul_comm p q, Nat.mul_assoc]
          omega
        · obtain ⟨a, b, e⟩ := ih p (q - p) (by omega) hp
          have hg : Nat.gcd p (q - p) = Nat.gcd p q := Nat.gcd_sub_self_right hge
          rw [hg] at e
          refine ⟨a, b + a, ?_⟩
          have : a * q = a * (q - p) + a * p := by rw [← Nat.mul_add]; congr 1; omega
          rw [this, ← Nat.add_assoc, e, Nat.add_mul]
  exact key (p + q) p q (Nat.le_refl _) hp

theorem Per.gcd {f : Nat → Bool} {m p q : Nat} (hp : 0 < p) (h : Per f m p) (h' : Per f m q) : Per f m (Nat.gcd p q) := by
  obtain ⟨a, b, e⟩ := bezout_nat p q hp
  intro n hn
  have h1 := h'.mul a (n + Nat.gcd p q) (by omega)
  have h2 := h.mul b n hn
  rw [← h1, Nat.add_assoc, e, h2]

theorem prim_period {t r : List Bool} (h : Prim r) {M g : Nat} (hg : 0 < g) (hd : g ∣ r.length) (hM : t.length ≤ M) (hp : Per (hasB t r) M g) : g = r.length := by
  rcases Nat.lt_or_ge g r.length with hlt | hge
  · exfalso
    obtain ⟨i, hi, hne⟩ := h.2 g hg hlt hd
    apply hne
    -- r[i] = f (m + i + k p) with k p large
    have hpos : 0 < r.length := by omega
    have e1 : ∀ j, j < r.length → r.getD j false = hasB t r (t.length + (j + M * r.length)) := by
      intro j hj
      rw [hasB_ring, Nat.add_mul_mod_self_right, Nat.mod_eq_of_lt hj]
    have hMl : M ≤ M * r.length := Nat.le_mul_of_pos_right _ hpos
    have hmod : i % g < r.length := Nat.lt_of_lt_of_le (Nat.mod_lt i hg) (by omega)
    rw [e1 i hi, e1 (i % g) hmod]
    have := hp.mul (i / g) (t.length + (i % g + M * r.length)) (by omega)
    rw [← this]
    congr 1
    have := Nat.mod_add_div i g
    rw [Nat.mul_comm] at this
    omega
  · exact Nat.le_antisymm (Nat.le_of_dvd (by have := h.1; exact List.length_pos_iff.2 this) hd) hge

/-- THE TIDY FORM IS ONE. -/
theorem canon_unique {t r t' r' : List Bool} (h : Canon t r) (h' : Canon t' r') (he : ∀ n, hasB t r n = hasB t' r' n) : t = t' ∧ r = r' := by
  have hf : hasB t r = hasB t' r' := funext he
  have hr : 0 < r.length := List.length_pos_iff.2 h.1.1
  have hr' : 0 < r'.length := List.length_pos_iff.2 h'.1.1
  have p1 : Per (hasB t r) (t.length + t'.length) r.length := (hasB_per t r).mono (by omega)
  have p2 : Per (hasB t r) (t.length + t'.length) r'.length := by rw [hf]; exact (hasB_per t' r').mono (by omega)
  have pg := p1.gcd hr p2
  have hgp : 0 < Nat.gcd r.length r'.length := Nat.gcd_pos_of_pos_left _ hr
  have e1 := prim_period (M := t.length + t'.length) h.1 hgp (Nat.gcd_dvd_left _ _) (by omega) pg
  have e2 := prim_period (t := t') (M := t.length + t'.length) h'.1 hgp (Nat.gcd_dvd_right _ _) (by omega) (by rw [← hf]; exact pg)
  have hl : r.length = r'.length := by omega
  have aux : ∀ {t r t' r' : List Bool}, Canon t' r' → hasB t r = hasB t' r' → r.length = r'.length → 0 < r.length → ¬ t.length < t'.length := by
    intro t r t' r' h' hf hl hr hlt
    rcases h'.2 with h0 | h0
    · rw [h0] at hlt; simp at hlt
    · apply h0
      have a1 : t'.getD (t'.length - 1) false = hasB t r (t'.length - 1) := by rw [hf, hasB_tail (by omega)]
      have a2 : r'.getD (r'.length - 1) false = hasB t r (t'.length - 1 + r.length) := by
        rw [hf, hl, hasB_ring' (by omega)]
        congr 1
        rw [show t'.length - 1 + r'.length - t'.length = r'.length - 1 by omega, Nat.mod_eq_of_lt (by omega)]
      rw [a1, a2, hasB_per t r _ (by omega)]
  have hm : t.length = t'.length := by
    have b1 := aux h' hf hl hr
    have b2 := aux h hf.symm hl.symm hr'
    omega
  constructor
  · apply List.ext_getElem hm
    intro i h1 h2
    have := he i
    rw [hasB_tail h1, hasB_tail h2] at this
    simpa [List.getD_eq_getElem?_getD, h1, h2] using this
  · apply List.ext_getElem hl
    intro i h1 h2
    have := he (t.length + i)
    rw [hasB_ring, hm, hasB_ring, Nat.mod_eq_of_lt h1, Nat.mod_eq_of_lt h2] at this
    simpa [List.getD_eq_getElem?_getD, h1, h2] using this
/-- d parts the ring's length, and all is as d places ahead. -/
def IsPer (r : List Bool) (d : Nat) : Prop := r.length % d = 0 ∧ ∀ i, d ≤ i → i < r.length → r.getD i false = r.getD (i - d) false

theorem IsPer.mod {r : List Bool} {d : Nat} (h : IsPer r d) (hd : 0 < d) : ∀ i, i < r.length → r.getD i false = r.getD (i % d) false := by
  intro i
  induction i using Nat.strongRecOn with
  | _ i ih =>
    intro hi
    rcases Nat.lt_or_ge i d with hlt | hge
    · rw [Nat.mod_eq_of_lt hlt]
    · rw [h.2 i hge hi, ih (i - d) (by omega) (by omega)]
      congr 1
      conv => rhs; rw [show i = (i - d) + d by omega, Nat.add_mod_right]

theorem IsPer.of_mod {r : List Bool} {d : Nat} (hl : r.length % d = 0) (hd : 0 < d) (h : ∀ i, i < r.length → r.getD i false = r.getD (i % d) false) : IsPer r d := by
  refine ⟨hl, fun i hi hlt => ?_⟩
  rw [h i hlt, h (i - d) (by omega)]
  congr 1
  conv => lhs; rw [show i = (i - d) + d by omega, Nat.add_mod_right]

theorem prim_of {r : List Bool} (hr : r ≠ []) (h : ∀ d, 0 < d → d < r.length → ¬ IsPer r d) : Prim r := by
  refine ⟨hr, fun d h0 hlt hd => ?_⟩
  refine Classical.byContradiction fun hn => ?_
  apply h d h0 hlt
  refine IsPer.of_mod (Nat.mod_eq_zero_of_dvd hd) h0 fun i hi => ?_
  exact Classical.byContradiction fun hne => hn ⟨i, hi, hne⟩

theorem take_has {t r : List Bool} {d : Nat} (h : IsPer r d) (h0 : 0 < d) (hd : d ≤ r.length) (x : Nat) : hasB t (r.take d) x = hasB t r x := by
  rcases Nat.lt_or_ge x t.length with hlt | hge
  · rw [hasB_tail hlt, hasB_tail hlt]
  · rw [hasB_ring' hge, hasB_ring' hge]
    have hl : (r.take d).length = d := by rw [List.length_take]; omega
    have hdv : d ∣ r.length := Nat.dvd_of_mod_eq_zero h.1
    rw [hl, h.mod h0 _ (Nat.mod_lt _ (by omega)), Nat.mod_mod_of_dvd _ hdv]
    simp [List.getD_eq_getElem?_getD, List.getElem?_take, Nat.mod_lt _ h0]

/-- The last sign of the tail goes into the ring. -/
def rotR (r : List Bool) : List Bool := r.getD (r.length - 1) false :: r.take (r.length - 1)
theorem rotR_length {r : List Bool} (hr : r ≠ []) : (rotR r).length = r.length := by
  have := List.length_pos_iff.2 hr
  simp [rotR]; omega
theorem rotR_get {r : List Bool} (hr : r ≠ []) {i : Nat} (hi : i < r.length) : (rotR r).getD i false = if i = 0 then r.getD (r.length - 1) false else r.getD (i - 1) false := by
  cases i with
  | zero => simp [rotR]
  | succ i =>
    simp [rotR, List.getD_eq_getElem?_getD, List.getElem?_take]
    rw [if_pos (by omega)]
theorem rot_has {t r : List Bool} (ht : t ≠ []) (hr : r ≠ []) (h : t.getD (t.length - 1) false = r.getD (r.length - 1) false) (x : Nat) :
    hasB (t.take (t.length - 1)) (rotR r) x = hasB t r x := by
  have hm := List.length_pos_iff.2 ht
  have hn := List.length_pos_iff.2 hr
  have hl : (t.take (t.length - 1)).length = t.length - 1 := by rw [List.length_take]; omega
  rcases Nat.lt_or_ge x (t.length - 1) with hlt | hge
  · rw [hasB_tail (by omega), hasB_tail (by omega)]
    simp only [List.getD_eq_getElem?_getD, List.getElem?_take, if_pos hlt]
  · rw [hasB_ring' (by omega), hl, rotR_length hr]
    have hmod := Nat.mod_lt (x - (t.length - 1)) hn
    rw [rotR_get hr hmod]
    rcases Nat.eq_or_lt_of_le hge with he | hgt
    · rw [← he, Nat.sub_self, Nat.zero_mod, if_pos rfl, hasB_tail (by omega), h]
    · rw [hasB_ring' (by omega), show x - (t.length - 1) = (x - t.length) + 1 by omega]
      have hmod2 := Nat.mod_lt (x - t.length) hn
      rcases Nat.eq_or_lt_of_le (show (x - t.length) % r.length + 1 ≤ r.length by omega) with he | hlt
      · have : ((x - t.length) + 1) % r.length = 0 := by rw [Nat.add_mod]; rcases Nat.eq_or_lt_of_le (show 1 ≤ r.length from hn) with h1 | h1
                                                         · rw [← h1]; exact Nat.mod_one _
                                                         · rw [Nat.mod_eq_of_lt h1, he, Nat.mod_self]
        rw [this, if_pos rfl]; congr 1; omega
      · have : ((x - t.length) + 1) % r.length = (x - t.length) % r.length + 1 := by
          rw [Nat.add_mod, Nat.mod_eq_of_lt (show 1 < r.length by omega), Nat.mod_eq_of_lt hlt]
        rw [this, if_neg (by omega), Nat.add_sub_cancel]

theorem prim_rot {r : List Bool} (h : Prim r) : Prim (rotR r) := by
  have hr := h.1
  have hn := List.length_pos_iff.2 hr
  refine prim_of (by simp [rotR]) fun d h0 hlt hp => ?_
  rw [rotR_length hr] at hlt
  have hd : d ∣ r.length := by rw [← rotR_length hr]; exact Nat.dvd_of_mod_eq_zero hp.1
  have e : hasB [r.getD (r.length - 1) false] r = hasB [] (rotR r) := funext fun x => by
    have := rot_has (t := [r.getD (r.length - 1) false]) (by simp) hr (by simp) x
    rw [← this]; simp
  have hper : Per (hasB [r.getD (r.length - 1) false] r) 1 d := by
    rw [e]
    intro n _
    have e1 := take_has (t := []) hp h0 (by rw [rotR_length hr]; omega)
    rw [← e1, ← e1]
    have := hasB_per [] ((rotR r).take d) n (by simp)
    rwa [List.length_take, rotR_length hr, Nat.min_eq_left (by omega)] at this
  have := prim_period (t := [r.getD (r.length - 1) false]) (M := 1) h h0 hd (by simp) hper
  omega

/-- (t', r') is the tidy form of (t, r). -/
structure Tidy (t r t' r' : List Bool) : Prop where
  canon : Canon t' r'
  has : ∀ n, hasB t' r' n = hasB t r n
  tl : t'.length ≤ t.length
  rl : r'.length ≤ r.length
theorem Tidy.same {t r t' r' a b : List Bool} (h : Tidy t r t' r') (h' : Tidy t r a b) : t' = a ∧ r' = b := canon_unique h.canon h'.canon fun n => by rw [h.has, h'.has]
theorem Tidy.pos {t r t' r' : List Bool} (h : Tidy t r t' r') : 0 < r'.length := List.length_pos_iff.2 h.canon.1.1
theorem prim_take {r : List Bool} {d : Nat} (hd : 0 < d) (hdl : d ≤ r.length) (hp : IsPer r d) (hmin : ∀ d', 0 < d' → d' < d → ¬ IsPer r d') : Prim (r.take d) := by
  have hl : (r.take d).length = d := by rw [List.length_take]; omega
  refine prim_of (by intro e; rw [e] at hl; simp at hl; omega) fun d' h0 h1 h2 => ?_
  rw [hl] at h1
  apply hmin d' h0 h1
  have g1 : ∀ i, i < d → (r.take d).getD i false = r.getD i false := fun i hi => by simp only [List.getD_eq_getElem?_getD, List.getElem?_take, if_pos hi]
  have hdd : d' ∣ d := by rw [← hl]; exact Nat.dvd_of_mod_eq_zero h2.1
  refine IsPer.of_mod (Nat.mod_eq_zero_of_dvd (Nat.dvd_trans hdd (Nat.dvd_of_mod_eq_zero hp.1))) h0 fun i hi => ?_
  have a1 := hp.mod hd i hi
  have hm := Nat.mod_lt i hd
  have a2 := h2.mod h0 (i % d) (by rw [hl]; exact hm)
  rw [g1 _ hm, g1 _ (Nat.lt_trans (Nat.mod_lt _ h0) h1), Nat.mod_mod_of_dvd _ hdd] at a2
  rw [a1, a2]

theorem tidy_exists : ∀ (n : Nat) (t r : List Bool), t.length + r.length = n → r ≠ [] → ∃ t' r', Tidy t r t' r' := by
  intro n
  induction n using Nat.strongRecOn with
  | _ n ih =>
    intro t r hn hr
    have hpos := List.length_pos_iff.2 hr
    by_cases hex : ∃ d, 0 < d ∧ d < r.length ∧ IsPer r d
    · obtain ⟨d, h0, hd, hp⟩ := hex
      have hlt : (r.take d).length = d := by rw [List.length_take]; omega
      obtain ⟨t', r', h⟩ := ih (t.length + (r.take d).length) (by omega) t (r.take d) rfl (by intro e; rw [e] at hlt; simp at hlt; omega)
      exact ⟨t', r', h.canon, fun x => by rw [h.has, take_has hp h0 (by omega)], h.tl, by have := h.rl; omega⟩
    · have hprim : Prim r := prim_of hr fun d h0 h1 hp => hex ⟨d, h0, h1, hp⟩
      by_cases ht : t = []
      · exact ⟨t, r, ⟨hprim, .inl ht⟩, fun _ => rfl, Nat.le_refl _, Nat.le_refl _⟩
      · have htp := List.length_pos_iff.2 ht
        by_cases he : t.getD (t.length - 1) false = r.getD (r.length - 1) false
        · obtain ⟨t', r', h⟩ := ih ((t.take (t.length - 1)).length + (rotR r).length) (by rw [rotR_length hr, List.length_take]; omega) (t.take (t.length - 1)) (rotR r) rfl (by simp [rotR])
          exact ⟨t', r', h.canon, fun x => by rw [h.has, rot_has ht hr he], by have := h.tl; rw [List.length_take] at this; omega, by have := h.rl; rw [rotR_length hr] at this; omega⟩
        · exact ⟨t, r, ⟨hprim, .inr he⟩, fun _ => rfl, Nat.le_refl _, Nat.le_refl _⟩

/-- The tidy tail and ring of a set. -/
noncomputable def cn (f : Nat → Bool) : List Bool × List Bool :=
  open Classical in if h : ∃ p : List Bool × List Bool, Canon p.1 p.2 ∧ hasB p.1 p.2 = f then Classical.choose h else ([], [])
theorem cn_uniq {t r : List Bool} {f : Nat → Bool} (h : Canon t r) (hf : hasB t r = f) : cn f = (t, r) := by
  have hx : ∃ p : List Bool × List Bool, Canon p.1 p.2 ∧ hasB p.1 p.2 = f := ⟨(t, r), h, hf⟩
  unfold cn
  rw [dif_pos hx]
  have hs := Classical.choose_spec hx
  obtain ⟨e1, e2⟩ := canon_unique hs.1 h fun n => by rw [hs.2, hf]
  exact Prod.ext e1 e2
theorem Tidy.cn {t r t' r' : List Bool} (h : Tidy t r t' r') : cn (hasB t r) = (t', r') := cn_uniq h.canon (funext h.has)
theorem cn_tidy {t r : List Bool} (hr : r ≠ []) : Tidy t r (cn (hasB t r)).1 (cn (hasB t r)).2 := by
  obtain ⟨t', r', h⟩ := tidy_exists _ t r rfl hr
  rw [h.cn]; exact h

/-- The signs of a set: the first m, and the p behind these. -/
def mkT (f : Nat → Bool) (m : Nat) : List Bool := (List.range m).map f
def mkR (f : Nat → Bool) (m p : Nat) : List Bool := (List.range p).map fun i => f (m + i)
theorem mkT_length (f : Nat → Bool) (m : Nat) : (mkT f m).length = m := by simp [mkT]
theorem mkR_length (f : Nat → Bool) (m p : Nat) : (mkR f m p).length = p := by simp [mkR]
theorem mkT_get (f : Nat → Bool) {m i : Nat} (h : i < m) : (mkT f m).getD i false = f i := by simp [mkT, List.getD_eq_getElem?_getD, h]
theorem mkR_get (f : Nat → Bool) {m p i : Nat} (h : i < p) : (mkR f m p).getD i false = f (m + i) := by simp [mkR, List.getD_eq_getElem?_getD, h]
theorem mkR_ne (f : Nat → Bool) {m p : Nat} (h : 0 < p) : mkR f m p ≠ [] := by intro e; have := mkR_length f m p; rw [e] at this; simp at this; omega
theorem mk_has {f : Nat → Bool} {m p : Nat} (hp : 0 < p) (h : Per f m p) : hasB (mkT f m) (mkR f m p) = f := by
  funext x
  rcases Nat.lt_or_ge x m with hlt | hge
  · rw [hasB_tail (by rw [mkT_length]; exact hlt), mkT_get f hlt]
  · rw [hasB_ring' (by rw [mkT_length]; exact hge), mkT_length, mkR_length, mkR_get f (Nat.mod_lt _ hp), ← h.mod x hge]
theorem mkT_succ (f : Nat → Bool) (m : Nat) : mkT f (m + 1) = mkT f m ++ [f m] := by simp [mkT, List.range_succ]
theorem mkR_succ (f : Nat → Bool) (m p : Nat) : mkR f m (p + 1) = mkR f m p ++ [f (m + p)] := by simp [mkR, List.range_succ]
theorem mkT_add (f : Nat → Bool) (m p : Nat) : mkT f (m + p) = mkT f m ++ mkR f m p := by
  induction p with
  | zero => simp [mkR]
  | succ p ih => rw [← Nat.add_assoc, mkT_succ, ih, mkR_succ, List.append_assoc]
theorem mkT_take (f : Nat → Bool) (m p : Nat) : (mkT f (m + p)).take m = mkT f m := by rw [mkT_add, List.take_left' (mkT_length f m)]
theorem mkT_drop (f : Nat → Bool) (m p : Nat) : (mkT f (m + p)).drop m = mkR f m p := by rw [mkT_add, List.drop_left' (mkT_length f m)]

theorem cn_spec {f : Nat → Bool} {m p : Nat} (hp : 0 < p) (h : Per f m p) : Canon (cn f).1 (cn f).2 ∧ hasB (cn f).1 (cn f).2 = f ∧ (cn f).1.length ≤ m ∧ (cn f).2.length ≤ p := by
  have ht := cn_tidy (t := mkT f m) (mkR_ne f (m := m) hp)
  rw [mk_has hp h] at ht
  refine ⟨ht.canon, funext fun n => by rw [ht.has, mk_has hp h], ?_, ?_⟩
  · have := ht.tl; rwa [mkT_length] at this
  · have := ht.rl; rwa [mkR_length] at this
theorem cn_has {f : Nat → Bool} {m p : Nat} (hp : 0 < p) (h : Per f m p) : hasB (cn f).1 (cn f).2 = f := (cn_spec hp h).2.1
theorem cn_ne {f : Nat → Bool} {m p : Nat} (hp : 0 < p) (h : Per f m p) : (cn f).2 ≠ [] := (cn_spec hp h).1.1.1

/-- The least number by which the rest is the same. -/
def restN (t r : List Bool) (k : Nat) : Nat := if k < t.length then k else t.length + (k - t.length) % r.length
theorem restN_lt {t r : List Bool} (hr : 0 < r.length) (k : Nat) : restN t r k < t.length + r.length := by
  unfold restN
  have := Nat.mod_lt (k - t.length) hr
  split <;> omega
theorem restN_self {t r : List Bool} {k : Nat} (h : k < t.length + r.length) : restN t r k = k := by
  unfold restN
  split
  · rfl
  · rw [Nat.mod_eq_of_lt (by omega)]; omega
theorem restN_idem {t r : List Bool} (hr : 0 < r.length) (k : Nat) : restN t r (restN t r k) = restN t r k := restN_self (restN_lt hr k)
theorem restN_le {t r : List Bool} (k : Nat) : restN t r k ≤ k := by
  unfold restN
  split
  · exact Nat.le_refl _
  · have := Nat.mod_le (k - t.length) r.length; omega
theorem has_restN {t r : List Bool} (hr : 0 < r.length) (k n : Nat) : hasB t r (n + k) = hasB t r (n + restN t r k) := by
  unfold restN
  split
  · rfl
  · rename_i h
    have hp := hasB_per t r
    have h1 := hp.mul ((k - t.length) / r.length) (n + (t.length + (k - t.length) % r.length)) (by omega)
    rw [← h1]
    congr 1
    have := Nat.mod_add_div (k - t.length) r.length
    rw [Nat.mul_comm] at this
    omega
/-- Rests by two lesser numbers are different. -/
theorem rest_diff {t r : List Bool} (h : Canon t r) {i j : Nat} (hij : i < j) (hj : j < t.length + r.length) (he : ∀ n, hasB t r (n + i) = hasB t r (n + j)) : False := by
  have hr := List.length_pos_iff.2 h.1.1
  have hd : Per (hasB t r) i (j - i) := fun n hn => by
    have := he (n - i)
    rw [show n - i + i = n by omega, show n - i + j = n + (j - i) by omega] at this
    exact this.symm
  have hg := (hd.mono (m' := max i t.length) (by omega)).gcd (by omega) ((hasB_per t r).mono (m' := max i t.length) (by omega))
  have hgp : 0 < Nat.gcd (j - i) r.length := Nat.gcd_pos_of_pos_left _ (by omega)
  have e := prim_period (t := t) (M := max i t.length) h.1 hgp (Nat.gcd_dvd_right _ _) (by omega) hg
  have hdv : r.length ∣ j - i := by rw [← e]; exact Nat.gcd_dvd_left _ _
  have hle := Nat.le_of_dvd (by omega) hdv
  rcases Nat.lt_or_ge i t.length with hlt | hge
  · rcases h.2 with h0 | h0
    · rw [h0] at hlt; simp at hlt
    · apply h0
      have h1 := hd (t.length - 1) (by omega)
      rw [hasB_tail (show t.length - 1 < t.length by omega), hasB_ring' (by omega)] at h1
      rw [← h1]
      congr 1
      obtain ⟨c, hc⟩ := hdv
      have hc0 : 0 < c := by rcases Nat.eq_zero_or_pos c with h | h; rw [h, Nat.mul_zero] at hc; omega; exact h
      have hmul : r.length * c = r.length * (c - 1) + r.length := by
        rw [← Nat.mul_succ]; congr 1; omega
      rw [hc, show t.length - 1 + r.length * c - t.length = (r.length - 1) + r.length * (c - 1) by omega, Nat.add_mul_mod_self_left, Nat.mod_eq_of_lt (by omega)]
  · omega
theorem rest_same {t r : List Bool} (h : Canon t r) (i j : Nat) : (∀ n, hasB t r (n + i) = hasB t r (n + j)) ↔ restN t r i = restN t r j := by
  have hr := List.length_pos_iff.2 h.1.1
  constructor
  · intro he
    have he2 : ∀ n, hasB t r (n + restN t r i) = hasB t r (n + restN t r j) := fun n => by rw [← has_restN hr, ← has_restN hr, he]
    rcases Nat.lt_trichotomy (restN t r i) (restN t r j) with hlt | heq | hgt
    · exact (rest_diff h hlt (restN_lt hr j) he2).elim
    · exact heq
    · exact (rest_diff h hgt (restN_lt hr i) fun n => (he2 n).symm).elim
  · intro he n
    rw [has_restN hr i, has_restN hr j, he]

theorem bitsL_length : ∀ {s : List UInt8} {l : List Bool}, bitsL s = some l → l.length = s.length
  | [], l, h => by simp [bitsL] at h; subst h; rfl
  | c :: cs, l, h => by
    simp only [bitsL] at h
    split at h
    · obtain ⟨q, hq, rfl⟩ := Option.map_eq_some_iff.1 h; simp [bitsL_length hq]
    · split at h
      · obtain ⟨q, hq, rfl⟩ := Option.map_eq_some_iff.1 h; simp [bitsL_length hq]
      · cases h
theorem bitsL_sgn : ∀ l : List Bool, bitsL (l.map sgn) = some l
  | [] => rfl
  | b :: l => by cases b <;> simp [bitsL, sgn, bitsL_sgn l]
theorem byteArray_empty_chrs : chrs (⟨#[]⟩ : ByteArray) = [] := rfl
/-- A set text: its tail and its ring. -/
def parse (s : List UInt8) : Option (List Bool × List Bool) :=
  if s.findIdx (· == 40) + 2 < s.length ∧ s[s.length - 1]? = some 41 then
    match bitsL (s.take (s.findIdx (· == 40))), bitsL ((s.take (s.length - 1)).drop (s.findIdx (· == 40) + 1)) with
    | some a, some b => if a.length ≤ 60 ∧ b.length ≤ 60 then some (a, b) else none
    | _, _ => none
  else none
def parsed (s : ByteArray) (t r : List Bool) : List Bool × List Bool × Bool := match parse (chrs s) with | some (a, b) => (a, b, true) | none => (t, r, false)

theorem parse_some {s : List UInt8} {a b : List Bool} (h : parse s = some (a, b)) : a.length ≤ 60 ∧ b.length ≤ 60 ∧ b ≠ [] := by
  unfold parse at h
  split at h
  · rename_i hc
    split at h
    · rename_i x y hx hy
      split at h
      · rename_i hl
        simp only [Option.some.injEq, Prod.mk.injEq] at h
        obtain ⟨rfl, rfl⟩ := h
        refine ⟨hl.1, hl.2, fun e => ?_⟩
        have := bitsL_length hy
        rw [e] at this
        simp at this
        omega
      · cases h
    · cases h
  · cases h


/-- The text of a set, and true; false if it is too long. -/
def txt (p : List Bool × List Bool) : ByteArray × Bool := if p.1.length ≤ 60 ∧ p.2.length ≤ 60 then (textOf p.1 p.2, true) else (⟨#[]⟩, false)
theorem txt_ok {p : List Bool × List Bool} (h1 : p.1.length ≤ 60) (h2 : p.2.length ≤ 60) : txt p = (textOf p.1 p.2, true) := by unfold txt; rw [if_pos ⟨h1, h2⟩]
theorem chrs_append (a b : ByteArray) : chrs (a ++ b) = chrs a ++ chrs b := by simp [chrs, ByteArray.data_append]
theorem parse_ne {s : List UInt8} {a b : List Bool} (h : parse s = some (a, b)) : b ≠ [] := (parse_some h).2.2
theorem findIdx_sgn (t : List Bool) (l : List UInt8) : (t.map sgn ++ 40 :: l).findIdx (· == 40) = t.length := by
  induction t with
  | nil => rfl
  | cons b t ih =>
    rw [List.map_cons, List.cons_append, List.findIdx_cons, ih]
    cases b <;> rfl
/-- A text reads as what it was written of. -/
theorem parse_textOf {t r : List Bool} (ht : t.length ≤ 60) (hr : r.length ≤ 60) (hn : r ≠ []) : parse (chrs (textOf t r)) = some (t, r) := by
  have hpos := List.length_pos_iff.2 hn
  have e : chrs (textOf t r) = t.map sgn ++ 40 :: (r.map sgn ++ [41]) := by rw [chrs_textOf]; simp
  rw [e]
  unfold parse
  rw [findIdx_sgn]
  have hl : (t.map sgn ++ 40 :: (r.map sgn ++ [41])).length = t.length + (r.length + 2) := by simp
  rw [hl, if_pos]
  · have e1 : (t.map sgn ++ 40 :: (r.map sgn ++ [41])).take t.length = t.map sgn := by rw [List.take_left']; simp
    have e2 : ((t.map sgn ++ 40 :: (r.map sgn ++ [41])).take (t.length + (r.length + 2) - 1)).drop (t.length + 1) = r.map sgn := by
      rw [show t.map sgn ++ 40 :: (r.map sgn ++ [41]) = (t.map sgn ++ 40 :: r.map sgn) ++ [41] by simp, List.take_left' (by simp <;> omega), show t.map sgn ++ 40 :: r.map sgn = (t.map sgn ++ [40]) ++ r.map sgn by simp, List.drop_left' (by simp)]
    rw [e1, e2, bitsL_sgn, bitsL_sgn]
    simp only
    rw [if_pos ⟨ht, hr⟩]
  · refine ⟨by omega, ?_⟩
    rw [show t.map sgn ++ 40 :: (r.map sgn ++ [41]) = (t.map sgn ++ 40 :: r.map sgn) ++ [41] by simp, List.getElem?_append_right (by simp <;> omega)]
    rw [show t.length + (r.length + 2) - 1 - (t.map sgn ++ 40 :: r.map sgn).length = 0 by simp <;> omega]; rfl
theorem textOf_inj {t r t' r' : List Bool} (ht : t.length ≤ 60) (hr : r.length ≤ 60) (hn : r ≠ []) (ht' : t'.length ≤ 60) (hr' : r'.length ≤ 60) (hn' : r' ≠ []) (h : textOf t r = textOf t' r') : t = t' ∧ r = r' := by
  have h1 := parse_textOf ht hr hn
  rw [h, parse_textOf ht' hr' hn'] at h1
  simp only [Option.some.injEq, Prod.mk.injEq] at h1
  exact ⟨h1.1.symm, h1.2.symm⟩
theorem textOf_size (t r : List Bool) : (textOf t r).size = t.length + r.length + 2 := by
  rw [← chrs_length, chrs_textOf]; simp <;> omega


end Go.Proofs.Yticdcfgjpopkoaa.P

-- Texts of rests: as many as the tidy text has signs.
namespace Go.Proofs.Yticdcfgjpopkoaa.P
open Go.RowKit Go.Proofs.YticdcfgjpopkoaaW.PrintWords Go.Proofs.YticdcfgjpopkoaaW.PrintLast Go.Proofs.YticdcfgjpopkoaaW.PrintMore
set_option linter.unusedVariables false
set_option linter.unusedSimpArgs false

/-- A set, k taken away. -/
def shf (f : Nat → Bool) (k : Nat) : Nat → Bool := fun n => f (n + k)
theorem shf_per {f : Nat → Bool} {m p : Nat} (h : Per f m p) (k : Nat) : Per (shf f k) (m - k) p := fun n hn => by
  unfold shf
  rw [show n + p + k = n + k + p by omega]; exact h _ (by omega)
/-- The text of the rest by k. -/
noncomputable def rtext (f : Nat → Bool) (k : Nat) : ByteArray := textOf (cn (shf f k)).1 (cn (shf f k)).2
/-- The place of the rest by k. -/
noncomputable def rpl (f : Nat → Bool) (k : Nat) : Nat := restN (cn f).1 (cn f).2 k
/-- How many rests. -/
noncomputable def rnum (f : Nat → Bool) : Nat := (cn f).1.length + (cn f).2.length
section
variable {f : Nat → Bool} {m p : Nat}
theorem rpl_lt (hp : 0 < p) (h : Per f m p) (k : Nat) : rpl f k < rnum f := restN_lt (List.length_pos_iff.2 (cn_ne hp h)) k
theorem rpl_self {k : Nat} (hk : k < rnum f) : rpl f k = k := restN_self hk
theorem rpl_le (k : Nat) : rpl f k ≤ k := restN_le k
theorem rnum_le (hp : 0 < p) (h : Per f m p) : rnum f ≤ m + p := by
  have := cn_spec hp h
  unfold rnum; omega
theorem rpl_eq (hp : 0 < p) (h : Per f m p) (i j : Nat) : shf f i = shf f j ↔ rpl f i = rpl f j := by
  have hs := cn_spec hp h
  have := rest_same hs.1 i j
  rw [hs.2.1] at this
  constructor
  · intro e; exact this.1 fun n => congrFun e n
  · intro e; exact funext (this.2 e)
theorem rtext_eq (hp : 0 < p) (h : Per f m p) (hm : m ≤ 60) (hp2 : p ≤ 60) (i j : Nat) : rtext f i = rtext f j ↔ rpl f i = rpl f j := by
  rw [← rpl_eq hp h]
  have si := cn_spec hp (shf_per h i)
  have sj := cn_spec hp (shf_per h j)
  constructor
  · intro e
    obtain ⟨e1, e2⟩ := textOf_inj (by omega) (by omega) si.1.1.1 (by omega) (by omega) sj.1.1.1 e
    rw [← si.2.1, ← sj.2.1, e1, e2]
  · intro e; unfold rtext; rw [e]
end

end Go.Proofs.Yticdcfgjpopkoaa.P

-- The tidy text of a text.
namespace Go.Proofs.Yticdcfgjpopkoaa.P
open Go.RowKit Go.Proofs.YticdcfgjpopkoaaW.PrintWords Go.Proofs.YticdcfgjpopkoaaW.PrintLast Go.Proofs.YticdcfgjpopkoaaW.PrintMore
set_option linter.unusedVariables false
set_option linter.unusedSimpArgs false

theorem parse_len {s : List UInt8} {a b : List Bool} (h : parse s = some (a, b)) : s.length = a.length + b.length + 2 := by
  unfold parse at h
  split at h
  · rename_i hc
    split at h
    · rename_i x y hx hy
      split at h
      · simp only [Option.some.injEq, Prod.mk.injEq] at h
        obtain ⟨rfl, rfl⟩ := h
        have h1 := bitsL_length hx
        have h2 := bitsL_length hy
        simp only [List.length_take, List.length_drop] at h1 h2
        omega
      · cases h
    · cases h
  · cases h
/-- The set of a text. -/
def setf (s : List UInt8) : Nat → Bool := match parse s with | some (a, b) => hasB a b | none => fun _ => false
theorem setf_some {s : List UInt8} {a b : List Bool} (h : parse s = some (a, b)) : setf s = hasB a b := by unfold setf; rw [h]
/-- What SetTidy answers. -/
noncomputable def tdy (s : List UInt8) : ByteArray × Bool := match parse s with | some (a, b) => (textOf (cn (hasB a b)).1 (cn (hasB a b)).2, true) | none => (⟨#[]⟩, false)
theorem tdy_some {s : List UInt8} {a b : List Bool} (h : parse s = some (a, b)) : tdy s = (textOf (cn (hasB a b)).1 (cn (hasB a b)).2, true) := by unfold tdy; rw [h]
theorem tdy_none {s : List UInt8} (h : parse s = none) : tdy s = (⟨#[]⟩, false) := by unfold tdy; rw [h]
/-- The tidy text is a text of the same set, tail and ring tidy. -/
theorem parse_cn {f : Nat → Bool} {m p : Nat} (hp : 0 < p) (h : Per f m p) (hm : (cn f).1.length ≤ 60) (hp2 : (cn f).2.length ≤ 60) : parse (chrs (textOf (cn f).1 (cn f).2)) = some ((cn f).1, (cn f).2) :=
  parse_textOf hm hp2 (cn_ne hp h)
theorem cn_cn {f : Nat → Bool} {m p : Nat} (hp : 0 < p) (h : Per f m p) : cn (hasB (cn f).1 (cn f).2) = cn f := by rw [cn_has hp h]
theorem parse_per {s : List UInt8} {a b : List Bool} (h : parse s = some (a, b)) : 0 < b.length ∧ Per (hasB a b) a.length b.length := ⟨List.length_pos_iff.2 (parse_some h).2.2, hasB_per a b⟩
theorem parse_tdy {s : List UInt8} {a b : List Bool} (h : parse s = some (a, b)) : parse (chrs (tdy s).1) = some ((cn (hasB a b)).1, (cn (hasB a b)).2) := by
  obtain ⟨h1, h2⟩ := parse_per h
  have h3 := (cn_spec h1 h2).2.2
  have h4 := parse_some h
  rw [tdy_some h]
  exact parse_cn h1 h2 (by omega) (by omega)
theorem tdy_tdy {s : List UInt8} {a b : List Bool} (h : parse s = some (a, b)) : tdy (chrs (tdy s).1) = tdy s := by
  obtain ⟨h1, h2⟩ := parse_per h
  rw [tdy_some (parse_tdy h), tdy_some h, cn_cn h1 h2]
theorem tdy_size {s : List UInt8} {a b : List Bool} (h : parse s = some (a, b)) : (tdy s).1.size ≤ s.length := by
  obtain ⟨h1, h2⟩ := parse_per h
  have h3 := (cn_spec h1 h2).2.2
  rw [tdy_some h, textOf_size, parse_len h]
  show (cn (hasB a b)).1.length + _ + 2 ≤ _
  omega
/-- Whether two texts tell the same set. -/
noncomputable def sameS (s t : List UInt8) : Bool := (tdy s).2 && (tdy t).2 && ((tdy s).1.toList == (tdy t).1.toList)
theorem tdy_ok {s : List UInt8} : (tdy s).2 = (parse s).isSome := by
  cases h : parse s with
  | none => rw [tdy_none h]; rfl
  | some ab => rw [tdy_some (a := ab.1) (b := ab.2) h]; rfl
theorem sameS_comm (s t : List UInt8) : sameS s t = sameS t s := by
  unfold sameS
  have e : ((tdy s).1.toList == (tdy t).1.toList) = ((tdy t).1.toList == (tdy s).1.toList) := by
    rw [Bool.eq_iff_iff, beq_iff_eq, beq_iff_eq]; exact eq_comm
  rw [e, Bool.and_comm (tdy s).2]
theorem toList_inj {a b : ByteArray} (h : a.toList = b.toList) : a = b := by
  rw [ByteArray.toList_eq, ByteArray.toList_eq] at h
  exact chrs_inj h
theorem sameS_some {s t : List UInt8} {a b c d : List Bool} (h : parse s = some (a, b)) (h' : parse t = some (c, d)) : sameS s t = true ↔ hasB a b = hasB c d := by
  obtain ⟨h1, h2⟩ := parse_per h
  obtain ⟨h1', h2'⟩ := parse_per h'
  have s1 := cn_spec h1 h2
  have s2 := cn_spec h1' h2'
  have q1 := parse_some h
  have q2 := parse_some h'
  unfold sameS
  rw [tdy_some h, tdy_some h']
  simp only [Bool.true_and, Bool.and_true, beq_iff_eq]
  constructor
  · intro e
    have := textOf_inj (by omega) (by omega) (cn_ne h1 h2) (by omega) (by omega) (cn_ne h1' h2') (toList_inj e)
    rw [← s1.2.1, ← s2.2.1, this.1, this.2]
  · intro e; rw [e]

end Go.Proofs.Yticdcfgjpopkoaa.P

-- Two sets together: from which number on, and by how many, both come again.
namespace Go.Proofs.Yticdcfgjpopkoaa.P
open Go.RowKit Go.Proofs.YticdcfgjpopkoaaW.PrintWords Go.Proofs.YticdcfgjpopkoaaW.PrintLast Go.Proofs.YticdcfgjpopkoaaW.PrintMore
set_option linter.unusedVariables false
set_option linter.unusedSimpArgs false

/-- Whether something holds. -/
noncomputable def dec (p : Prop) : Bool := @decide p (Classical.propDecidable p)
theorem dec_iff {p : Prop} : dec p = true ↔ p := by unfold dec; exact @decide_eq_true_iff p (Classical.propDecidable p)
theorem dec_true {p : Prop} (h : p) : dec p = true := dec_iff.2 h
theorem dec_false {p : Prop} (h : ¬ p) : dec p = false := by
  cases e : dec p with
  | false => rfl
  | true => exact absurd (dec_iff.1 e) h
theorem dec_congr {p q : Prop} (h : p ↔ q) : dec p = dec q := by rw [show p = q from propext h]
theorem Per.lcm_left {f : Nat → Bool} {m p : Nat} (h : Per f m p) (m' p' : Nat) : Per f (max m m') (Nat.lcm p p') := (h.mono (by omega)).dvd (Nat.dvd_lcm_left p p')
theorem Per.lcm_right {f : Nat → Bool} {m p : Nat} (h : Per f m p) (m' p' : Nat) : Per f (max m' m) (Nat.lcm p' p) := (h.mono (by omega)).dvd (Nat.dvd_lcm_right p' p)
theorem per_all {f g : Nat → Bool} {m p : Nat} (hp : 0 < p) (hf : Per f m p) (hg : Per g m p) {q : Bool → Bool → Prop} (h : ∀ n, n < m + p → q (f n) (g n)) : ∀ n, q (f n) (g n) := fun n => by
  rcases Nat.lt_or_ge n m with hn | hn
  · exact h n (by omega)
  · rw [hf.mod n hn, hg.mod n hn]
    exact h _ (by have := Nat.mod_lt (n - m) hp; omega)
theorem pair_per {f g : Nat → Bool} {m p : Nat} (hf : Per f m p) (hg : Per g m p) (q : Bool → Bool → Bool) : Per (fun n => q (f n) (g n)) m p := fun n hn => by
  show q (f (n + p)) (g (n + p)) = _
  rw [hf n hn, hg n hn]
theorem lcm_small {m n : Nat} (hm : m ≤ 60) (hn : n ≤ 60) : Nat.lcm m n ≤ 3600 := by
  have h1 : Nat.lcm m n ≤ m * n := by unfold Nat.lcm; exact Nat.div_le_self _ _
  have h2 : m * n ≤ 60 * 60 := Nat.mul_le_mul hm hn
  omega
/-- Whether each number of the first one is in the second one. -/
noncomputable def bel (s t : List UInt8) : Bool := (parse s).isSome && (parse t).isSome && dec (∀ n, setf s n = true → setf t n = true)
theorem bel_some {s t : List UInt8} {a b c d : List Bool} (h : parse s = some (a, b)) (h' : parse t = some (c, d)) : bel s t = dec (∀ n, hasB a b n = true → hasB c d n = true) := by
  unfold bel; rw [h, h', setf_some h, setf_some h']; rfl
theorem bel_none1 {s t : List UInt8} (h : parse s = none) : bel s t = false := by unfold bel; rw [h]; rfl
theorem bel_none2 {s t : List UInt8} (h : parse t = none) : bel s t = false := by unfold bel; rw [h]; simp
theorem sameS_none1 {s t : List UInt8} (h : parse s = none) : sameS s t = false := by unfold sameS; rw [tdy_none h]; rfl
theorem sameS_none2 {s t : List UInt8} (h : parse t = none) : sameS s t = false := by unfold sameS; rw [tdy_none h]; simp
theorem bel_same (s t : List UInt8) : (bel s t && bel t s) = sameS s t := by
  cases h : parse s with
  | none => rw [bel_none1 h, sameS_none1 h]; rfl
  | some ab =>
    cases h' : parse t with
    | none => rw [bel_none2 h', sameS_none2 h']; rfl
    | some cd =>
      rw [Bool.eq_iff_iff, Bool.and_eq_true, bel_some (a := ab.1) (b := ab.2) (c := cd.1) (d := cd.2) h h', bel_some (a := cd.1) (b := cd.2) (c := ab.1) (d := ab.2) h' h, dec_iff, dec_iff, sameS_some (a := ab.1) (b := ab.2) (c := cd.1) (d := cd.2) h h']
      constructor
      · rintro ⟨h1, h2⟩
        funext n
        rw [Bool.eq_iff_iff]
        exact ⟨h1 n, h2 n⟩
      · intro e; rw [e]; exact ⟨fun _ x => x, fun _ x => x⟩

/-- What a set of two ones is. -/
noncomputable def two (op : Bool → Bool → Bool) (s t : List UInt8) : ByteArray × Bool := if (parse s).isSome && (parse t).isSome then txt (cn fun n => op (setf s n) (setf t n)) else (⟨#[]⟩, false)

end Go.Proofs.Yticdcfgjpopkoaa.P

-- slices.IndexFunc and slices.ContainsFunc over a question that is answered.
namespace Go.Proofs.Yticdcfgjpopkoaa.P
open Go.RowKit Go.Proofs.YticdcfgjpopkoaaW.PrintWords Go.Proofs.YticdcfgjpopkoaaW.PrintLast Go.Proofs.YticdcfgjpopkoaaW.PrintMore
set_option linter.unusedVariables false
set_option linter.unusedSimpArgs false

/-- Whether a question holds of some number of a list. -/
noncomputable def anyI (l : List Int) (q : Int → Bool) : Bool := dec (∃ i : Nat, i < l.length ∧ q (rd l (i : Int)) = true)

set_option maxHeartbeats 8000000 in
set_option maxRecDepth 100000 in
theorem indexFunc_calls (l : List Int) (hl : l.length ≤ 1000000000000) (A : Option Addr) (c : Nat) (g : Nat) (lb : Array Value) (q : Int → Bool) (w : World) (hC : Kd.C (Kd.int .i64) w A l.length l) (hc : l.length ≤ c)
    (eg : ∀ args w, (callFunc g args).run Try.prog w = .ok (.enter g args) w)
    (hh : ∀ (W : World) (i : Nat), Below w.heap.size w W → i < l.length → Calls Try.prog g (#[.int .i64 (rd l (i : Int))] ++ lb) W fun e w' => e = .returned (.bool (q (rd l (i : Int)))) ∧ Below W.heap.size W w') :
    Calls Try.prog 56 #[.slice A l.length c, .func (.func g) #[] lb] w fun e w' => ∃ v : Int, e = .returned (.int .i64 v) ∧ decide (v ≥ 0) = anyI l q ∧ Below w.heap.size w w' := by
  have HC := Aside0.mk hC
  have HH := Aside0.mk hh
  have HLN := Aside0.mk hl
  clear hC hh hl
  go_enter Try.func56, Try.ntmps56
  go_wp2
  go_loopg [8] l.length (fun gg s8 wr => ∃ i : Nat, i ≤ l.length ∧ l.length - i ≤ gg ∧ s8 = .int .i64 i ∧ Aside0 (∀ j : Nat, j < i → q (rd l (j : Int)) = false) ∧ Aside0 (Below w.heap.size w wr))
  case atStart => exact ⟨0, Nat.zero_le _, by omega, rfl, ⟨fun j hj => by omega⟩, ⟨by repeat (first | exact Below.refl _ _ | apply below_drew1)⟩⟩
  case round =>
    obtain ⟨i, hi, hgg, rfl, HF, HB⟩ := hrel
    by_cases hlt : i < l.length
    · have HC1 := Aside0.mk (Kd.C_below HC.out HB.out)
      have p1 : (0 : Int) ≤ (i : Int) := by omega
      have q1 : (i : Int) < (l.length : Int) := by omega
      obtain ⟨ad1, e1, hx1⟩ := Kd.at_int HC1.out (i : Int) p1 q1
      rw [Int.toNat_natCast] at hx1
      have HCall := Aside0.mk (fun W hW => HH.out W i hW hlt)
      cases hv : q (rd l (i : Int)) with
      | true =>
        have HR : decide ((i : Int) ≥ 0) = anyI l q := by unfold anyI; rw [dec_true ⟨i, hlt, hv⟩]; simp
        have HRA := Aside0.mk HR
        rw [hv] at HCall
        clear hv HR
        cases e1
        go_wp2_with (go_at_fn g; refine (HCall.out _ (by repeat (first | exact HB.out | apply below_drew1))).mono ?_; rintro e w1 ⟨rfl, hd⟩; have HB1 := Aside0.mk (below_step (by repeat (first | exact HB.out | apply below_drew1)) hd); clear hd)
        go_ret
        exact ⟨_, rfl, HRA.out, HB1.out⟩
      | false =>
        have HV := Aside0.mk hv
        rw [hv] at HCall
        clear hv
        cases e1
        go_wp2_with (go_at_fn g; refine (HCall.out _ (by repeat (first | exact HB.out | apply below_drew1))).mono ?_; rintro e w1 ⟨rfl, hd⟩; have HB1 := Aside0.mk (below_step (by repeat (first | exact HB.out | apply below_drew1)) hd); clear hd)
        go_roundg (l.length - (i + 1))
        case measure => omega
        case rel => exact ⟨i + 1, by omega, by omega, congrArg (Value.int .i64) (wsucc (by have := HLN.out; omega)), ⟨fun j hj => by
          rcases Nat.lt_or_ge j i with h | h
          · exact HF.out j h
          · rw [show j = i by omega]; exact HV.out⟩, HB1⟩
    · have e : i = l.length := by omega
      subst e
      have HR : decide ((-1 : Int) ≥ 0) = anyI l q := by
        unfold anyI
        rw [dec_false (fun ⟨j, h1, h2⟩ => by rw [HF.out j h1] at h2; cases h2)]; rfl
      have HRA := Aside0.mk HR
      clear HR
      go_wp2
      go_ret
      exact ⟨_, rfl, HRA.out, HB.out⟩
set_option maxHeartbeats 8000000 in
set_option maxRecDepth 100000 in
theorem containsFunc_calls (l : List Int) (hl : l.length ≤ 1000000000000) (A : Option Addr) (c : Nat) (g : Nat) (lb : Array Value) (q : Int → Bool) (w : World) (hC : Kd.C (Kd.int .i64) w A l.length l) (hc : l.length ≤ c)
    (eg : ∀ args w, (callFunc g args).run Try.prog w = .ok (.enter g args) w)
    (hh : ∀ (W : World) (i : Nat), Below w.heap.size w W → i < l.length → Calls Try.prog g (#[.int .i64 (rd l (i : Int))] ++ lb) W fun e w' => e = .returned (.bool (q (rd l (i : Int)))) ∧ Below W.heap.size W w') :
    Calls Try.prog 33 #[.slice A l.length c, .func (.func g) #[] lb] w fun e w' => e = .returned (.bool (anyI l q)) ∧ Below w.heap.size w w' := by
  have HX := Aside0.mk (indexFunc_calls l hl A c g lb q w hC hc eg hh)
  clear hC hh hl
  go_enter Try.func33, Try.ntmps33
  go_wp2_with (go_at_call 56; refine HX.out.mono ?_; rintro e w1 ⟨v, rfl, hv, hd⟩; have HV := Aside0.mk hv; have HB := Aside0.mk hd; clear hv hd)
  go_ret
  exact ⟨by rw [← HV.out]; rfl, HB.out⟩
end Go.Proofs.Yticdcfgjpopkoaa.P

-- Sums of two sets.
namespace Go.Proofs.Yticdcfgjpopkoaa.P
open Go.RowKit Go.Proofs.YticdcfgjpopkoaaW.PrintWords Go.Proofs.YticdcfgjpopkoaaW.PrintLast Go.Proofs.YticdcfgjpopkoaaW.PrintMore
set_option linter.unusedVariables false
set_option linter.unusedSimpArgs false

/-- All sums of one of each. -/
noncomputable def sumq (f g : Nat → Bool) : Nat → Bool := fun n => dec (∃ k, k ≤ n ∧ f k = true ∧ g (n - k) = true)
theorem sumq_iff {f g : Nat → Bool} {n : Nat} : sumq f g n = true ↔ ∃ i j, i + j = n ∧ f i = true ∧ g j = true := by
  unfold sumq
  rw [dec_iff]
  constructor
  · rintro ⟨k, h1, h2, h3⟩; exact ⟨k, n - k, by omega, h2, h3⟩
  · rintro ⟨i, j, h1, h2, h3⟩; exact ⟨i, by omega, h2, by rw [show n - i = j by omega]; exact h3⟩
theorem per_back {f : Nat → Bool} {m p n : Nat} (h : Per f m p) (hn : m + p ≤ n) (hf : f n = true) : f (n - p) = true := by
  have := h (n - p) (by omega)
  rw [show n - p + p = n by omega] at this
  rw [← this]; exact hf
theorem per_fwd {f : Nat → Bool} {m p n : Nat} (h : Per f m p) (hn : m ≤ n) (hf : f n = true) : f (n + p) = true := by rw [h n hn]; exact hf
theorem sumq_per {f g : Nat → Bool} {m m' L : Nat} (hf : Per f m L) (hg : Per g m' L) : Per (sumq f g) (m + m' + L) L := fun n hn => by
  rw [Bool.eq_iff_iff, sumq_iff, sumq_iff]
  constructor
  · rintro ⟨i, j, h1, h2, h3⟩
    by_cases hi : m + L ≤ i
    · exact ⟨i - L, j, by omega, per_back hf hi h2, h3⟩
    · exact ⟨i, j - L, by omega, h2, per_back hg (by omega) h3⟩
  · rintro ⟨i, j, h1, h2, h3⟩
    by_cases hi : m ≤ i
    · exact ⟨i + L, j, by omega, per_fwd hf hi h2, h3⟩
    · exact ⟨i, j + L, by omega, h2, per_fwd hg (by omega) h3⟩
/-- All sums of two different ones. -/
noncomputable def dblq (f : Nat → Bool) : Nat → Bool := fun n => dec (∃ k, k ≤ n ∧ f k = true ∧ f (n - k) = true ∧ k ≠ n - k)
theorem dblq_iff {f : Nat → Bool} {n : Nat} : dblq f n = true ↔ ∃ i j, i + j = n ∧ i < j ∧ f i = true ∧ f j = true := by
  unfold dblq
  rw [dec_iff]
  constructor
  · rintro ⟨k, h1, h2, h3, h4⟩
    rcases Nat.lt_or_ge k (n - k) with h | h
    · exact ⟨k, n - k, by omega, h, h2, h3⟩
    · exact ⟨n - k, k, by omega, by omega, h3, h2⟩
  · rintro ⟨i, j, h1, h2, h3, h4⟩
    exact ⟨i, by omega, h3, by rw [show n - i = j by omega]; exact h4, by omega⟩
theorem dblq_iff' {f : Nat → Bool} {n : Nat} : dblq f n = dec (∃ k, 2 * k < n ∧ f k = true ∧ f (n - k) = true) := by
  rw [Bool.eq_iff_iff, dblq_iff, dec_iff]
  constructor
  · rintro ⟨i, j, h1, h2, h3, h4⟩; exact ⟨i, by omega, h3, by rw [show n - i = j by omega]; exact h4⟩
  · rintro ⟨k, h1, h2, h3⟩; exact ⟨k, n - k, by omega, by omega, h2, h3⟩
theorem dblq_per {f : Nat → Bool} {m L : Nat} (hf : Per f m L) : Per (dblq f) (2 * m + 2 * L) L := fun n hn => by
  rw [Bool.eq_iff_iff, dblq_iff, dblq_iff]
  constructor
  · rintro ⟨i, j, h1, h2, h3, h4⟩
    have h5 := per_back hf (show m + L ≤ j by omega) h4
    rcases Nat.lt_trichotomy i (j - L) with h | h | h
    · exact ⟨i, j - L, by omega, h, h3, h5⟩
    · rcases Nat.eq_zero_or_pos L with hL | hL
      · exact ⟨i, j, by omega, h2, h3, h4⟩
      · exact ⟨i - L, j, by omega, by omega, per_back hf (by omega) h3, h4⟩
    · exact ⟨j - L, i, by omega, h, h5, h3⟩
  · rintro ⟨i, j, h1, h2, h3, h4⟩
    exact ⟨i, j + L, by omega, by omega, h3, per_fwd hf (by omega) h4⟩
theorem sumq_comm (f g : Nat → Bool) : sumq f g = sumq g f := by
  funext n
  rw [Bool.eq_iff_iff, sumq_iff, sumq_iff]
  constructor
  · rintro ⟨i, j, h1, h2, h3⟩; exact ⟨j, i, by omega, h3, h2⟩
  · rintro ⟨i, j, h1, h2, h3⟩; exact ⟨j, i, by omega, h3, h2⟩
theorem sumq_or (f g h : Nat → Bool) : sumq (fun n => f n || g n) h = fun n => sumq f h n || sumq g h n := by
  funext n
  rw [Bool.eq_iff_iff, Bool.or_eq_true, sumq_iff, sumq_iff, sumq_iff]
  constructor
  · rintro ⟨i, j, h1, h2, h3⟩
    rcases Bool.or_eq_true_iff.1 h2 with h2 | h2
    · exact .inl ⟨i, j, h1, h2, h3⟩
    · exact .inr ⟨i, j, h1, h2, h3⟩
  · rintro (⟨i, j, h1, h2, h3⟩ | ⟨i, j, h1, h2, h3⟩)
    · exact ⟨i, j, h1, by rw [h2]; rfl, h3⟩
    · exact ⟨i, j, h1, by rw [h2, Bool.or_true], h3⟩
/-- A tidy small set. -/
def Small (t : List Bool × List Bool) : Prop := t.1.length ≤ 8 ∧ t.2.length ≤ 8
noncomputable def smallB (s : List UInt8) : Bool := (parse s).isSome && dec (Small (cn (setf s)))
theorem smallB_ok {s : List UInt8} (h : smallB s = true) : ∃ a b, parse s = some (a, b) ∧ setf s = hasB a b ∧ (cn (setf s)).1.length ≤ 8 ∧ (cn (setf s)).2.length ≤ 8 ∧ 0 < (cn (setf s)).2.length ∧ Per (setf s) (cn (setf s)).1.length (cn (setf s)).2.length := by
  unfold smallB at h
  rw [Bool.and_eq_true, dec_iff] at h
  obtain ⟨⟨a, b⟩, hp⟩ := Option.isSome_iff_exists.1 h.1
  obtain ⟨p1, p2⟩ := parse_per hp
  have hset := setf_some hp
  have hper := hasB_per (cn (setf s)).1 (cn (setf s)).2
  have hs := cn_spec p1 p2
  rw [← hset] at hs
  rw [hs.2.1] at hper
  exact ⟨a, b, hp, hset, h.2.1, h.2.2, List.length_pos_iff.2 hs.1.1.1, hper⟩
/-- What SumOf answers. -/
noncomputable def smr (s t : List UInt8) : ByteArray × Bool := if smallB s && smallB t then txt (cn (sumq (setf s) (setf t))) else (⟨#[]⟩, false)
/-- What SumDouble answers. -/
noncomputable def dbr (s : List UInt8) : ByteArray × Bool := if smallB s then txt (cn (dblq (setf s))) else (⟨#[]⟩, false)
theorem lcm_le8 {m n : Nat} (h0 : 0 < m) (h0' : 0 < n) (hm : m ≤ 8) (hn : n ≤ 8) : Nat.lcm m n ≤ 56 := by
  have hd := Nat.gcd_dvd_left m n
  rcases Nat.lt_or_ge (m * n) 57 with h | h
  · have : Nat.lcm m n ≤ m * n := by unfold Nat.lcm; exact Nat.div_le_self _ _
    omega
  · have : m = 8 ∧ n = 8 := by
      constructor
      · refine Classical.byContradiction fun hne => ?_
        have : m * n ≤ 7 * 8 := Nat.mul_le_mul (by omega) hn
        omega
      · refine Classical.byContradiction fun hne => ?_
        have : m * n ≤ 8 * 7 := Nat.mul_le_mul hm (by omega)
        omega
    rw [this.1, this.2]; decide
end Go.Proofs.Yticdcfgjpopkoaa.P

-- The star of a set: from some number on it comes again by its least number.
namespace Go.Proofs.Yticdcfgjpopkoaa.P
open Go.RowKit Go.Proofs.YticdcfgjpopkoaaW.PrintWords Go.Proofs.YticdcfgjpopkoaaW.PrintLast Go.Proofs.YticdcfgjpopkoaaW.PrintMore
set_option linter.unusedVariables false
set_option linter.unusedSimpArgs false

/-- A list of numbers above 0 of a set. -/
def Parts (f : Nat → Bool) (l : List Nat) : Prop := ∀ a, a ∈ l → 0 < a ∧ f a = true
def St (f : Nat → Bool) (n : Nat) : Prop := ∃ l, Parts f l ∧ l.sum = n
theorem St.zero (f : Nat → Bool) : St f 0 := ⟨[], fun a h => by simp at h, rfl⟩
theorem St.of {f : Nat → Bool} {a : Nat} (h0 : 0 < a) (h : f a = true) : St f a := ⟨[a], fun b hb => by rw [List.mem_singleton.1 hb]; exact ⟨h0, h⟩, by simp⟩
theorem St.add {f : Nat → Bool} {n m : Nat} (h : St f n) (h' : St f m) : St f (n + m) := by
  obtain ⟨l, h1, rfl⟩ := h
  obtain ⟨r, h2, rfl⟩ := h'
  exact ⟨l ++ r, fun a ha => (List.mem_append.1 ha).elim (h1 a) (h2 a), by simp⟩
theorem St.mul {f : Nat → Bool} {n : Nat} (h : St f n) : ∀ k, St f (k * n)
  | 0 => by rw [Nat.zero_mul]; exact St.zero f
  | k + 1 => by rw [Nat.succ_mul]; exact (St.mul h k).add h
theorem parts_cons {f : Nat → Bool} {a : Nat} {l : List Nat} : Parts f (a :: l) ↔ (0 < a ∧ f a = true) ∧ Parts f l := by
  constructor
  · intro h; exact ⟨h a (by simp), fun b hb => h b (by simp [hb])⟩
  · rintro ⟨h1, h2⟩ b hb
    rcases List.mem_cons.1 hb with rfl | hb
    · exact h1
    · exact h2 b hb
theorem St.step {f : Nat → Bool} {n : Nat} (h : St f n) (hn : 0 < n) : ∃ k, 1 ≤ k ∧ k ≤ n ∧ f k = true ∧ St f (n - k) := by
  obtain ⟨l, h1, rfl⟩ := h
  cases l with
  | nil => simp at hn
  | cons a l =>
    obtain ⟨⟨h2, h3⟩, h4⟩ := parts_cons.1 h1
    rw [List.sum_cons]
    exact ⟨a, h2, by omega, h3, l, h4, by omega⟩
theorem St.iff {f : Nat → Bool} {n : Nat} (hn : 0 < n) : St f n ↔ ∃ k, 1 ≤ k ∧ k ≤ n ∧ f k = true ∧ St f (n - k) := by
  constructor
  · intro h; exact h.step hn
  · rintro ⟨k, h1, h2, h3, h4⟩
    have := (St.of (by omega) h3).add h4
    rwa [show k + (n - k) = n by omega] at this
/-- Whether a number is in the star. -/
noncomputable def stq (f : Nat → Bool) : Nat → Bool := fun n => dec (St f n)
theorem stq_iff {f : Nat → Bool} {n : Nat} : stq f n = true ↔ St f n := dec_iff
theorem pigeon : ∀ (d : Nat) (g : Nat → Nat), (∀ i, i ≤ d → g i < d) → ∃ i j, i < j ∧ j ≤ d ∧ g i = g j := by
  intro d
  induction d with
  | zero => intro g h; have := h 0 (Nat.le_refl _); omega
  | succ d ih =>
    intro g h
    by_cases hx : ∃ i, i ≤ d ∧ g i = g (d + 1)
    · obtain ⟨i, h1, h2⟩ := hx
      exact ⟨i, d + 1, by omega, Nat.le_refl _, h2⟩
    · have hne : ∀ i, i ≤ d → g i ≠ g (d + 1) := fun i hi e => hx ⟨i, hi, e⟩
      obtain ⟨i, j, h1, h2, h3⟩ := ih (fun i => if g i = d then g (d + 1) else g i) (fun i hi => by
        have a := h i (by omega)
        have b := h (d + 1) (Nat.le_refl _)
        have c := hne i hi
        show (if g i = d then g (d + 1) else g i) < d
        split <;> omega)
      refine ⟨i, j, h1, by omega, ?_⟩
      have a := hne i (by omega)
      have b := hne j h2
      by_cases c1 : g i = d
      · by_cases c2 : g j = d
        · rw [c1, c2]
        · simp only [if_pos c1, if_neg c2] at h3; omega
      · by_cases c2 : g j = d
        · simp only [if_neg c1, if_pos c2] at h3; omega
        · simp only [if_neg c1, if_neg c2] at h3; exact h3
theorem sum_take_drop (l : List Nat) (i : Nat) : (l.take i).sum + (l.drop i).sum = l.sum := by
  rw [← List.sum_append, List.take_append_drop]
theorem sum_pos {f : Nat → Bool} {l : List Nat} (h : Parts f l) (hn : l ≠ []) : 0 < l.sum := by
  cases l with
  | nil => exact absurd rfl hn
  | cons a l => have := (parts_cons.1 h).1.1; rw [List.sum_cons]; omega
/-- Of a long list a piece is a multiple of q. -/
theorem parts_cut {f : Nat → Bool} {q : Nat} (hq : 0 < q) {l : List Nat} (h : Parts f l) (hl : q + 1 ≤ l.length) : ∃ e, 0 < e ∧ q * e < l.sum ∧ St f (l.sum - q * e) := by
  obtain ⟨i, j, h1, h2, h3⟩ := pigeon q (fun i => (l.take i).sum % q) (fun i _ => Nat.mod_lt _ hq)
  have h3 : (l.take i).sum % q = (l.take j).sum % q := h3
  have hij : (l.take j).sum = (l.take i).sum + ((l.drop i).take (j - i)).sum := by
    rw [← List.sum_append]
    congr 1
    have e := List.take_append_drop i (l.take j)
    rw [List.take_take, Nat.min_eq_left (by omega), List.drop_take] at e
    exact e.symm
  have hc : ((l.drop i).take (j - i)).sum % q = 0 := by
    rw [hij, Nat.add_mod] at h3
    have a := Nat.mod_lt ((l.take i).sum) hq
    have b := Nat.mod_lt (((l.drop i).take (j - i)).sum) hq
    rcases Nat.lt_or_ge ((l.take i).sum % q + ((l.drop i).take (j - i)).sum % q) q with c | c
    · rw [Nat.mod_eq_of_lt c] at h3; omega
    · have : ((l.take i).sum % q + ((l.drop i).take (j - i)).sum % q) % q = (l.take i).sum % q + ((l.drop i).take (j - i)).sum % q - q := by
        rw [Nat.mod_eq_sub_mod c, Nat.mod_eq_of_lt (by omega)]
      rw [this] at h3; omega
  have hsub : ∀ {r : List Nat}, (∀ a, a ∈ r → a ∈ l) → Parts f r := fun hr a ha => h a (hr a ha)
  have p1 : Parts f (l.take i) := hsub fun a ha => List.mem_of_mem_take ha
  have p2 : Parts f ((l.drop i).take (j - i)) := hsub fun a ha => List.mem_of_mem_drop (List.mem_of_mem_take ha)
  have p3 : Parts f (l.drop j) := hsub fun a ha => List.mem_of_mem_drop ha
  have hpos : 0 < ((l.drop i).take (j - i)).sum := sum_pos p2 (by
    intro e
    have := congrArg List.length e
    rw [List.length_take, List.length_drop, List.length_nil] at this
    omega)
  have hpos3 : 0 < (l.drop j).sum := sum_pos p3 (by
    intro e
    have := congrArg List.length e
    rw [List.length_drop, List.length_nil] at this
    omega)
  have htot := sum_take_drop l j
  obtain ⟨e, he⟩ := Nat.dvd_of_mod_eq_zero hc
  have hst : St f ((l.take i).sum + (l.drop j).sum) := St.add ⟨_, p1, rfl⟩ ⟨_, p3, rfl⟩
  refine ⟨e, ?_, by omega, ?_⟩
  · rcases Nat.eq_zero_or_pos e with rfl | x
    · rw [Nat.mul_zero] at he; omega
    · exact x
  · rw [show l.sum - q * e = (l.take i).sum + (l.drop j).sum by omega]
    exact hst
theorem sum_bound {l : List Nat} {G : Nat} (h : ∀ a, a ∈ l → a ≤ G) : l.sum ≤ l.length * G := by
  induction l with
  | nil => simp
  | cons a l ih =>
    have := ih fun b hb => h b (by simp [hb])
    have := h a (by simp)
    rw [List.sum_cons, List.length_cons, Nat.succ_mul]; omega
/-- If what is above 0 goes on by q, and a great part is another one and q times some number: behind some number one may take q away. -/
theorem St.back {f : Nat → Bool} {q G : Nat} (hq : 0 < q) (h1 : ∀ n, 0 < n → St f n → St f (n + q)) (h2 : ∀ a, G < a → f a = true → ∃ a' e, 0 < a' ∧ 0 < e ∧ a' + q * e = a ∧ f a' = true) {n : Nat} (hn : q * G < n) (h : St f n) : St f (n - q) := by
  have up : ∀ e m, 0 < m → St f m → St f (m + q * e) := by
    intro e
    induction e with
    | zero => intro m _ hs; rw [Nat.mul_zero, Nat.add_zero]; exact hs
    | succ e ih =>
      intro m hm hs
      have := h1 _ (by omega) (ih m hm hs)
      rwa [Nat.add_assoc, ← Nat.mul_succ] at this
  obtain ⟨l, hl, rfl⟩ := h
  by_cases hlen : q + 1 ≤ l.length
  · obtain ⟨e, he, hlt, hs⟩ := parts_cut hq hl hlen
    have := up (e - 1) _ (by omega) hs
    have he2 : q * e = q * (e - 1) + q := by rw [← Nat.mul_succ]; congr 1; omega
    rwa [show l.sum - q * e + q * (e - 1) = l.sum - q by omega] at this
  · by_cases hall : ∀ a, a ∈ l → a ≤ G
    · have b1 := sum_bound hall
      have b2 : l.length * G ≤ q * G := Nat.mul_le_mul_right G (by omega)
      omega
    · obtain ⟨a, ha, hG⟩ : ∃ a, a ∈ l ∧ G < a := by
        refine Classical.byContradiction fun hno => hall fun a ha => ?_
        rcases Nat.lt_or_ge G a with x | x
        · exact absurd ⟨a, ha, x⟩ hno
        · exact x
      obtain ⟨a', e, h3, h4, h5, h6⟩ := h2 a hG (hl a ha).2
      obtain ⟨x, y, rfl⟩ := List.append_of_mem ha
      have hx : Parts f (x ++ a' :: y) := by
        intro b hb
        rcases List.mem_append.1 hb with c | c
        · exact hl b (List.mem_append.2 (.inl c))
        · rcases List.mem_cons.1 c with rfl | c
          · exact ⟨h3, h6⟩
          · exact hl b (List.mem_append.2 (.inr (List.mem_cons.2 (.inr c))))
      have hs : St f (x ++ a' :: y).sum := ⟨_, hx, rfl⟩
      have e1 : (x ++ a :: y).sum = x.sum + (a + y.sum) := by rw [List.sum_append, List.sum_cons]
      have e2 : (x ++ a' :: y).sum = x.sum + (a' + y.sum) := by rw [List.sum_append, List.sum_cons]
      rw [e2] at hs
      have := up (e - 1) _ (by omega) hs
      have he2 : q * e = q * (e - 1) + q := by rw [← Nat.mul_succ]; congr 1; omega
      rw [e1]
      rwa [show x.sum + (a' + y.sum) + q * (e - 1) = x.sum + (a + y.sum) - q by omega] at this
theorem per_sub {f : Nat → Bool} {m p : Nat} (h : Per f m p) : ∀ k a, m + k * p ≤ a → f a = true → f (a - k * p) = true
  | 0, a, _, hf => by rw [Nat.zero_mul, Nat.sub_zero]; exact hf
  | k + 1, a, ha, hf => by
    rw [Nat.succ_mul] at ha ⊢
    have := per_sub h k a (by omega) hf
    have := per_back h (by omega) this
    rwa [Nat.sub_sub] at this
/-- THE STAR COMES AGAIN by the least number of a small set. -/
theorem stq_per {f : Nat → Bool} {m p d : Nat} (hm : m ≤ 8) (hp : 0 < p) (hp8 : p ≤ 8) (hper : Per f m p) (hd : 0 < d) (hfd : f d = true) (hmin : ∀ k, 0 < k → k < d → f k = false) : Per (stq f) 584 d := by
  have hSd : St f d := St.of hd hfd
  by_cases h8 : d ≤ 8
  · have hpd : p * d ≤ 8 * 8 := Nat.mul_le_mul hp8 h8
    have hq := fun n (hn : 584 < n) (h : St f n) => St.back (G := m + p * d) hd (fun n _ h => h.add hSd) (fun a ha hf => by
      have hc : d * p = p * d := Nat.mul_comm _ _
      have := per_sub hper d a (by omega) hf
      exact ⟨a - d * p, p, by omega, hp, by omega, this⟩) (n := n) (by
        have : d * (m + p * d) ≤ 8 * (8 + 64) := Nat.mul_le_mul h8 (by omega)
        omega) h
    intro n hn
    rw [Bool.eq_iff_iff, stq_iff, stq_iff]
    constructor
    · intro h
      have := hq _ (by omega) h
      rwa [Nat.add_sub_cancel] at this
    · intro h; exact h.add hSd
  · have hge : ∀ a, 0 < a → f a = true → d ≤ a := fun a h0 ha => by
      rcases Nat.lt_or_ge a d with x | x
      · rw [hmin a h0 x] at ha; cases ha
      · exact x
    have hup : ∀ n, 0 < n → St f n → St f (n + p) := by
      intro n hn h
      obtain ⟨k, h1, h2, h3, h4⟩ := h.step hn
      have h5 := per_fwd hper (show m ≤ k by have := hge k (by omega) h3; omega) h3
      have := (St.of (show 0 < k + p by omega) h5).add h4
      rwa [show k + p + (n - k) = n + p by omega] at this
    have hq := fun n (hn : 128 < n) (h : St f n) => St.back (G := m + p) hp hup (fun a ha hf => by
      have h1 := hge a (by omega) hf
      exact ⟨a - p, 1, by omega, by omega, by rw [Nat.mul_one]; omega, per_back hper (by omega) hf⟩) (n := n) (by
        have : p * (m + p) ≤ 8 * 16 := Nat.mul_le_mul hp8 (by omega)
        omega) h
    have hper2 : Per (stq f) 584 p := by
      intro n hn
      rw [Bool.eq_iff_iff, stq_iff, stq_iff]
      constructor
      · intro h
        have := hq _ (by omega) h
        rwa [Nat.add_sub_cancel] at this
      · intro h; exact hup n (by omega) h
    intro n hn
    rw [Bool.eq_iff_iff]
    constructor
    · intro h
      rw [stq_iff] at h
      have h2 := (h.add (hSd.mul (p - 1)))
      have h3 := hper2.mul d n hn
      rw [← stq_iff] at h2
      have e : n + d + (p - 1) * d = n + d * p := by
        have : p * d = (p - 1) * d + d := by rw [← Nat.succ_mul]; congr 1; omega
        rw [Nat.mul_comm d p]; omega
      rw [e, h3] at h2; exact h2
    · intro h
      rw [stq_iff] at h ⊢
      exact h.add hSd
theorem stq_none {f : Nat → Bool} (h : ∀ k, 0 < k → f k = false) : stq f = fun n => decide (n = 0) := by
  funext n
  rcases Nat.eq_zero_or_pos n with rfl | hn
  · rw [stq_iff.2 (St.zero f)]; rfl
  · rw [decide_eq_false (by omega)]
    cases hx : stq f n with
    | false => rfl
    | true =>
      obtain ⟨k, h1, _, h3, _⟩ := (stq_iff.1 hx).step hn
      rw [h k (by omega)] at h3; cases h3
theorem stq_idem (f : Nat → Bool) : stq (stq f) = stq f := by
  funext n
  rw [Bool.eq_iff_iff, stq_iff, stq_iff]
  constructor
  · rintro ⟨l, h1, rfl⟩
    induction l with
    | nil => exact St.zero f
    | cons a l ih =>
      obtain ⟨⟨_, h2⟩, h3⟩ := parts_cons.1 h1
      rw [List.sum_cons]
      exact (stq_iff.1 h2).add (ih h3)
  · intro h
    rcases Nat.eq_zero_or_pos n with rfl | hn
    · exact St.zero _
    · exact St.of hn (stq_iff.2 h)
theorem stq_or (f g : Nat → Bool) : stq (fun n => f n || g n) = sumq (stq f) (stq g) := by
  funext n
  rw [Bool.eq_iff_iff, stq_iff, sumq_iff]
  constructor
  · rintro ⟨l, h1, rfl⟩
    induction l with
    | nil => exact ⟨0, 0, rfl, stq_iff.2 (St.zero f), stq_iff.2 (St.zero g)⟩
    | cons a l ih =>
      obtain ⟨⟨h0, h2⟩, h3⟩ := parts_cons.1 h1
      obtain ⟨i, j, e, hi, hj⟩ := ih h3
      rw [List.sum_cons]
      rcases Bool.or_eq_true_iff.1 h2 with h2 | h2
      · exact ⟨a + i, j, by omega, stq_iff.2 ((St.of h0 h2).add (stq_iff.1 hi)), hj⟩
      · exact ⟨i, a + j, by omega, hi, stq_iff.2 ((St.of h0 h2).add (stq_iff.1 hj))⟩
  · rintro ⟨i, j, rfl, hi, hj⟩
    have mono : ∀ (u v : Nat → Bool) m, (∀ k, u k = true → v k = true) → St u m → St v m := fun u v m h hs => by
      obtain ⟨l, h1, rfl⟩ := hs
      exact ⟨l, fun a ha => ⟨(h1 a ha).1, h a (h1 a ha).2⟩, rfl⟩
    exact (mono f _ i (fun k h => by rw [h]; rfl) (stq_iff.1 hi)).add (mono g _ j (fun k h => by rw [h, Bool.or_true]) (stq_iff.1 hj))
end Go.Proofs.Yticdcfgjpopkoaa.P

-- The parts of a star; marks that are being made.
namespace Go.Proofs.Yticdcfgjpopkoaa.P
open Go.RowKit Go.Proofs.YticdcfgjpopkoaaW.PrintWords Go.Proofs.YticdcfgjpopkoaaW.PrintLast Go.Proofs.YticdcfgjpopkoaaW.PrintMore
set_option linter.unusedVariables false
set_option linter.unusedSimpArgs false

/-- Whether a number is the sum of two of the star, both above 0. -/
noncomputable def dcm (f : Nat → Bool) (n : Nat) : Bool := dec (∃ j, 1 ≤ j ∧ j < n ∧ stq f j = true ∧ stq f (n - j) = true)
/-- The parts: numbers of the set above 0 that are no such sum. -/
noncomputable def atm (f : Nat → Bool) (n : Nat) : Bool := decide (0 < n) && (f n && !dcm f n)
theorem stq_pos (f : Nat → Bool) {n : Nat} (hn : 0 < n) : stq f n = (dcm f n || f n) := by
  rw [Bool.eq_iff_iff, Bool.or_eq_true]
  constructor
  · intro h
    obtain ⟨k, h1, h2, h3, h4⟩ := (stq_iff.1 h).step hn
    rcases Nat.lt_or_ge k n with hk | hk
    · exact .inl (dec_true ⟨k, h1, hk, stq_iff.2 (St.of (by omega) h3), stq_iff.2 h4⟩)
    · rw [show k = n by omega] at h3; exact .inr h3
  · rintro (h | h)
    · obtain ⟨j, h1, h2, h3, h4⟩ := dec_iff.1 h
      have := (stq_iff.1 h3).add (stq_iff.1 h4)
      rw [show j + (n - j) = n by omega] at this
      exact stq_iff.2 this
    · exact stq_iff.2 (St.of hn h)
theorem atm_of {f : Nat → Bool} : ∀ j : Nat, 0 < j → stq f j = true → ∃ p, 1 ≤ p ∧ p ≤ j ∧ atm f p = true ∧ stq f (j - p) = true := by
  intro j
  induction j using Nat.strongRecOn with
  | ind j ih =>
    intro h0 h
    rw [stq_pos f h0] at h
    cases hd : dcm f j with
    | true =>
      obtain ⟨k, h1, h2, h3, h4⟩ := dec_iff.1 hd
      obtain ⟨p, p1, p2, p3, p4⟩ := ih k h2 h1 h3
      refine ⟨p, p1, by omega, p3, ?_⟩
      have := (stq_iff.1 p4).add (stq_iff.1 h4)
      rw [show k - p + (j - k) = j - p by omega] at this
      exact stq_iff.2 this
    | false =>
      rw [hd, Bool.false_or] at h
      refine ⟨j, h0, Nat.le_refl _, ?_, by rw [Nat.sub_self]; exact stq_iff.2 (St.zero f)⟩
      unfold atm
      rw [h, hd, decide_eq_true h0]; rfl
theorem dcm_parts {f : Nat → Bool} {n : Nat} : dcm f n = dec (∃ p, p < n ∧ atm f p = true ∧ stq f (n - p) = true) := by
  apply dec_congr
  constructor
  · rintro ⟨j, h1, h2, h3, h4⟩
    obtain ⟨p, p1, p2, p3, p4⟩ := atm_of j h1 h3
    refine ⟨p, by omega, p3, ?_⟩
    have := (stq_iff.1 p4).add (stq_iff.1 h4)
    rw [show j - p + (n - j) = n - p by omega] at this
    exact stq_iff.2 this
  · rintro ⟨p, h1, h2, h3⟩
    unfold atm at h2
    rw [Bool.and_eq_true, Bool.and_eq_true, decide_eq_true_iff] at h2
    exact ⟨p, h2.1, h1, stq_iff.2 (St.of h2.1 h2.2.1), h3⟩
/-- Marks that are made up to n, one that is being made, and others that are not. -/
def mid (q : Nat → Bool) (n : Nat) (v : Bool) (m : Nat) : List Bool := mkT q n ++ v :: List.replicate m false
theorem mid_length (q : Nat → Bool) (n : Nat) (v : Bool) (m : Nat) : (mid q n v m).length = n + 1 + m := by
  unfold mid; rw [List.length_append, mkT_length, List.length_cons, List.length_replicate]; omega
theorem mid_set (q : Nat → Bool) (n : Nat) (v u : Bool) (m : Nat) : (mid q n v m).set n u = mid q n u m := by
  unfold mid
  rw [List.set_append_right n u (by rw [mkT_length]; exact Nat.le_refl _), mkT_length, Nat.sub_self]; rfl
theorem mid_self (q : Nat → Bool) (n : Nat) (v : Bool) (m : Nat) : (mid q n v m).getD n false = v := by
  unfold mid
  rw [List.getD_eq_getElem?_getD, List.getElem?_append_right (by rw [mkT_length]; exact Nat.le_refl _), mkT_length, Nat.sub_self]; rfl
theorem mid_lt (q : Nat → Bool) {n i : Nat} (hi : i < n) (v : Bool) (m : Nat) : (mid q n v m).getD i false = q i := by
  unfold mid
  rw [List.getD_eq_getElem?_getD, List.getElem?_append_left (by rw [mkT_length]; exact hi), ← List.getD_eq_getElem?_getD, mkT_get q hi]
theorem mid_next (q : Nat → Bool) (n : Nat) (m : Nat) : mid q n (q n) (m + 1) = mid q (n + 1) false m := by
  unfold mid
  rw [mkT_succ, List.append_assoc]; rfl
theorem mid_start (q : Nat → Bool) (m : Nat) : List.replicate (m + 1) false = mid q 0 false m := by
  unfold mid mkT; rfl
theorem mid_end (q : Nat → Bool) (n : Nat) : mid q n (q n) 0 = mkT q (n + 1) := by
  unfold mid; rw [mkT_succ]; rfl
/-- The star's least number above 0, 0 if there is none. -/
def IsLeast (f : Nat → Bool) (d : Nat) : Prop := (d = 0 ∧ ∀ k, 0 < k → f k = false) ∨ (0 < d ∧ f d = true ∧ ∀ k, 0 < k → k < d → f k = false)
theorem isLeast_uniq {f : Nat → Bool} {d d' : Nat} (h : IsLeast f d) (h' : IsLeast f d') : d = d' := by
  rcases h with ⟨h1, h2⟩ | ⟨h1, h2, h3⟩
  · rcases h' with ⟨g1, g2⟩ | ⟨g1, g2, g3⟩
    · rw [h1, g1]
    · rw [h2 d' g1] at g2; cases g2
  · rcases h' with ⟨g1, g2⟩ | ⟨g1, g2, g3⟩
    · rw [g2 d h1] at h2; cases h2
    · rcases Nat.lt_trichotomy d d' with x | x | x
      · rw [g3 d h1 x] at h2; cases h2
      · exact x
      · rw [h3 d' g1 x] at g2; cases g2
theorem none_of {f : Nat → Bool} {m p : Nat} (hp : 0 < p) (h : Per f m p) (hn : ∀ k, 0 < k → k ≤ m + p → f k = false) : ∀ k, 0 < k → f k = false := fun k hk => by
  rcases Nat.lt_or_ge (m + p) k with h1 | h1
  · -- k = m + 1 + (k - m - 1), and the rest of that by p
    have h2 : Per f (m + 1) p := h.mono (by omega)
    rw [h2.mod k (by omega)]
    have := Nat.mod_lt (k - (m + 1)) hp
    exact hn _ (by omega) (by omega)
  · exact hn k hk h1
/-- The star, with 0 or not. -/
noncomputable def stz (z : Bool) (f : Nat → Bool) : Nat → Bool := fun n => if n = 0 then z else stq f n
theorem stz_true (f : Nat → Bool) : stz true f = stq f := by
  funext n
  unfold stz
  split
  · rename_i h; subst h; exact (stq_iff.2 (St.zero f)).symm
  · rfl
theorem stz_per {f : Nat → Bool} {m p d : Nat} (hm : m ≤ 8) (hp : 0 < p) (hp8 : p ≤ 8) (hper : Per f m p) (hd : IsLeast f d) (z : Bool) : Per (stz z f) 584 (max d 1) := by
  have key : Per (stq f) 584 (max d 1) := by
    rcases hd with ⟨rfl, h⟩ | ⟨h1, h2, h3⟩
    · rw [stq_none h]
      intro n hn
      show decide (n + max 0 1 = 0) = decide (n = 0)
      rw [decide_eq_false (by omega), decide_eq_false (by omega)]
    · rw [Nat.max_eq_left h1]
      exact stq_per hm hp hp8 hper h1 h2 h3
  intro n hn
  unfold stz
  rw [if_neg (by omega), if_neg (by omega)]
  exact key n hn
theorem isLeast_le {f : Nat → Bool} {m p d : Nat} (hp : 0 < p) (hper : Per f m p) (hd : IsLeast f d) : d ≤ m + p := by
  rcases hd with ⟨rfl, _⟩ | ⟨h1, h2, h3⟩
  · omega
  · refine Classical.byContradiction fun hlt => ?_
    have := none_of hp hper (fun k hk hk2 => h3 k hk (by omega)) d h1
    rw [h2] at this; cases this
/-- What StarOf (zero is in it) and StarPlus answer. -/
noncomputable def str (s : List UInt8) (z : Bool) : ByteArray × Bool := if smallB s then txt (cn (stz z (setf s))) else (⟨#[]⟩, false)
end Go.Proofs.Yticdcfgjpopkoaa.P

-- impl.set.has asks for the place.
namespace Go.Proofs.Yticdcfgjpopkoaa.P
open Go.RowKit Go.Proofs.YticdcfgjpopkoaaW.PrintWords Go.Proofs.YticdcfgjpopkoaaW.PrintLast Go.Proofs.YticdcfgjpopkoaaW.PrintMore
set_option linter.unusedVariables false
set_option linter.unusedSimpArgs false

theorem ihas_f (t r : List Bool) (hr : r ≠ []) (hl : t.length + r.length ≤ 70368744177664) (n : Nat) (hn : n ≤ 70368744177664) : impl_set_has.f t r n = some (hasB t r n) := by
  have hpos := List.length_pos_iff.2 hr
  unfold impl_set_has.f
  rw [if_neg (by omega)]
  by_cases h : n < t.length
  · rw [if_pos (by omega), if_pos (by omega), rdOf_nat, hasB_tail h]
  · have hm := Nat.mod_lt (n - t.length) hpos
    have e : Int.tmod (wrap64 ((n : Int) - (t.length : Int))) (r.length : Int) = (((n - t.length) % r.length : Nat) : Int) := by
      rw [w64 (by omega) (by omega), show (n : Int) - (t.length : Int) = ((n - t.length : Nat) : Int) by omega, Int.tmod_eq_emod_of_nonneg (by omega)]; rfl
    rw [if_neg (by omega), if_neg (by omega), e, if_pos (by omega), if_pos (by omega), rdOf_nat, hasB_ring' (by omega)]
theorem ihas_neg (t r : List Bool) (n : Int) (hn : n < 0) : impl_set_has.f t r n = some false := by unfold impl_set_has.f; rw [if_pos hn]

end Go.Proofs.Yticdcfgjpopkoaa.P

-- impl.in: a number in a range.
namespace Go.Proofs.Yticdcfgjpopkoaa.P
open Go.RowKit Go.Proofs.YticdcfgjpopkoaaW.PrintWords Go.Proofs.YticdcfgjpopkoaaW.PrintLast Go.Proofs.YticdcfgjpopkoaaW.PrintMore
set_option linter.unusedVariables false
set_option linter.unusedSimpArgs false

theorem in_f (a b c : Int) : impl_in.f a b c = some (decide (b ≤ a ∧ a ≤ c)) := by
  unfold impl_in.f
  by_cases h : a ≥ b
  · rw [if_pos h]; congr 1; apply decide_eq_decide.2; omega
  · rw [if_neg h]; congr 1; symm; rw [decide_eq_false_iff_not]; omega

end Go.Proofs.Yticdcfgjpopkoaa.P

-- spec.l1Has asks for the place.
namespace Go.Proofs.Yticdcfgjpopkoaa.P
open Go.RowKit Go.Proofs.YticdcfgjpopkoaaW.PrintWords Go.Proofs.YticdcfgjpopkoaaW.PrintLast Go.Proofs.YticdcfgjpopkoaaW.PrintMore
set_option linter.unusedVariables false
set_option linter.unusedSimpArgs false

theorem shas_f (t r : List Bool) (hr : r ≠ []) (hl : t.length + r.length ≤ 70368744177664) (n : Nat) (hn : n ≤ 70368744177664) : spec_l1Has.f t r n = some (hasB t r n) := by
  have hpos := List.length_pos_iff.2 hr
  unfold spec_l1Has.f
  by_cases h : n < t.length
  · rw [if_pos (by omega), if_pos (by omega), rdOf_nat, hasB_tail h]
  · have hm := Nat.mod_lt (n - t.length) hpos
    have e : Int.tmod (wrap64 ((n : Int) - (t.length : Int))) (r.length : Int) = (((n - t.length) % r.length : Nat) : Int) := by
      rw [w64 (by omega) (by omega), show (n : Int) - (t.length : Int) = ((n - t.length : Nat) : Int) by omega, Int.tmod_eq_emod_of_nonneg (by omega)]; rfl
    rw [if_neg (by omega), if_neg (by omega), e, if_pos (by omega), if_pos (by omega), rdOf_nat, hasB_ring' (by omega)]

end Go.Proofs.Yticdcfgjpopkoaa.P

-- spec.l4Least finds the least number above 0 of a small set.
namespace Go.Proofs.Yticdcfgjpopkoaa.P
open Go.RowKit Go.Proofs.YticdcfgjpopkoaaW.PrintWords Go.Proofs.YticdcfgjpopkoaaW.PrintLast Go.Proofs.YticdcfgjpopkoaaW.PrintMore
set_option linter.unusedVariables false
set_option linter.unusedSimpArgs false

theorem l4least_l0 (a b : List Bool) (hb : b ≠ []) (h1 : a.length ≤ 8) (h2 : b.length ≤ 8) {d : Nat} (hd : IsLeast (hasB a b) d) : ∀ (e i : Nat), 1 ≤ i → i ≤ 21 → 21 - i = e → (∀ k, 0 < k → k < i → hasB a b k = false) →
    Ev (fun k => spec_l4Least.l0 k i a b) (d : Int) := by
  have hpos := List.length_pos_iff.2 hb
  intro e
  induction e with
  | zero =>
    intro i hi1 hi he hno
    have : d = 0 := isLeast_uniq hd (.inl ⟨rfl, none_of hpos (hasB_per a b) fun k hk hk2 => hno k hk (by omega)⟩)
    subst this
    refine Ev.step (f := fun k => some 0) (fun k => ?_) (Ev.now _)
    simp only [spec_l4Least.l0]; rw [if_neg (by omega)]
  | succ e ih =>
    intro i hi1 hi he hno
    have e1 := shas_f a b hb (by omega) i (by omega)
    cases hv : hasB a b i with
    | true =>
      have : d = i := isLeast_uniq hd (.inr ⟨by omega, hv, hno⟩)
      subst this
      refine Ev.step (f := fun k => some (d : Int)) (fun k => ?_) (Ev.now _)
      simp only [spec_l4Least.l0]
      rw [if_pos (by omega), e1, hv, Option.bind_some, if_pos rfl]
    | false =>
      refine Ev.step (fun k => ?_) (ih (i + 1) (by omega) (by omega) (by omega) (fun k hk hk2 => by
        rcases Nat.lt_or_ge k i with x | x
        · exact hno k hk x
        · rw [show k = i by omega]; exact hv))
      simp only [spec_l4Least.l0]
      rw [if_pos (by omega), e1, hv, Option.bind_some, if_neg (by decide), wsucc (by omega)]
theorem l4least_f (a b : List Bool) (hb : b ≠ []) (h1 : a.length ≤ 8) (h2 : b.length ≤ 8) {d : Nat} (hd : IsLeast (hasB a b) d) : Ev (fun k => spec_l4Least.f k a b) (d : Int) :=
  l4least_l0 a b hb h1 h2 hd _ 1 (Nat.le_refl _) (by omega) rfl fun k hk hk2 => by omega
theorem least_exists {f : Nat → Bool} {m p : Nat} (hp : 0 < p) (h : Per f m p) : ∃ d, IsLeast f d := by
  have key : ∀ N, (∃ d, 0 < d ∧ f d = true ∧ ∀ k, 0 < k → k < d → f k = false) ∨ ∀ k, 0 < k → k ≤ N → f k = false := by
    intro N
    induction N with
    | zero => right; intro k h1 h2; omega
    | succ N ih =>
      rcases ih with h | h
      · exact .inl h
      · cases hv : f (N + 1) with
        | true => exact .inl ⟨N + 1, by omega, hv, fun k h1 h2 => h k h1 (by omega)⟩
        | false =>
          right
          intro k h1 h2
          rcases Nat.lt_or_ge k (N + 1) with x | x
          · exact h k h1 (by omega)
          · rw [show k = N + 1 by omega]; exact hv
  rcases key (m + p) with ⟨d, h1, h2, h3⟩ | hno
  · exact ⟨d, .inr ⟨h1, h2, h3⟩⟩
  · exact ⟨0, .inl ⟨rfl, none_of hp h hno⟩⟩
end Go.Proofs.Yticdcfgjpopkoaa.P

-- spec.l4Star marks the numbers of a star by its parts; spec.l4Least.
namespace Go.Proofs.Yticdcfgjpopkoaa.P
open Go.RowKit Go.Proofs.YticdcfgjpopkoaaW.PrintWords Go.Proofs.YticdcfgjpopkoaaW.PrintLast Go.Proofs.YticdcfgjpopkoaaW.PrintMore
set_option linter.unusedVariables false
set_option linter.unusedSimpArgs false

/-- The parts less than n. -/
noncomputable def pts (f : Nat → Bool) (n : Nat) : List Int := ((List.range n).filter (atm f)).map Int.ofNat
theorem pts_succ (f : Nat → Bool) (n : Nat) : pts f (n + 1) = if atm f n = true then pts f n ++ [(n : Int)] else pts f n := by
  unfold pts
  rw [List.range_succ, List.filter_append]
  cases h : atm f n <;> simp [h]
theorem pts_length (f : Nat → Bool) (n : Nat) : (pts f n).length ≤ n := by
  unfold pts
  rw [List.length_map]
  have := List.length_filter_le (atm f) (List.range n)
  rwa [List.length_range] at this
theorem pts_at {f : Nat → Bool} {n i : Nat} (h : i < (pts f n).length) : ∃ p, 1 ≤ p ∧ p < n ∧ atm f p = true ∧ rd (pts f n) (i : Int) = (p : Int) := by
  have hm : (pts f n)[i] ∈ pts f n := List.getElem_mem h
  unfold pts at hm
  obtain ⟨p, hp, he⟩ := List.mem_map.1 hm
  obtain ⟨h1, h2⟩ := List.mem_filter.1 hp
  refine ⟨p, ?_, List.mem_range.1 h1, h2, ?_⟩
  · unfold atm at h2
    rw [Bool.and_eq_true, decide_eq_true_iff] at h2
    exact h2.1
  · unfold rd
    rw [Int.toNat_natCast, List.getD_eq_getElem?_getD, List.getElem?_eq_getElem h]
    exact he.symm
theorem pts_has {f : Nat → Bool} {n p : Nat} (h1 : p < n) (h2 : atm f p = true) : ∃ i, i < (pts f n).length ∧ rd (pts f n) (i : Int) = (p : Int) := by
  have hm : (p : Int) ∈ pts f n := List.mem_map.2 ⟨p, List.mem_filter.2 ⟨List.mem_range.2 h1, h2⟩, rfl⟩
  obtain ⟨i, hi, he⟩ := List.mem_iff_getElem.1 hm
  refine ⟨i, hi, ?_⟩
  unfold rd
  rw [Int.toNat_natCast, List.getD_eq_getElem?_getD, List.getElem?_eq_getElem hi]
  exact he
/-- Whether a number is one of the star and a part, of the first i ones. -/
noncomputable def ptU (f : Nat → Bool) (n i : Nat) : Bool := dec (∃ j p : Nat, j < i ∧ j < (pts f n).length ∧ rd (pts f n) (j : Int) = (p : Int) ∧ stq f (n - p) = true)
theorem ptU_zero (f : Nat → Bool) (n : Nat) : ptU f n 0 = false := dec_false fun ⟨j, p, h, _⟩ => by omega
theorem ptU_end {f : Nat → Bool} {n : Nat} : ptU f n (pts f n).length = dcm f n := by
  rw [dcm_parts]
  apply dec_congr
  constructor
  · rintro ⟨j, p, _, h1, h2, h3⟩
    obtain ⟨p', a, b, c, d⟩ := pts_at h1
    have e : p = p' := by rw [h2] at d; omega
    subst e
    exact ⟨p, b, c, h3⟩
  · rintro ⟨p, h1, h2, h3⟩
    obtain ⟨i, a, b⟩ := pts_has h1 h2
    exact ⟨i, p, a, a, b, h3⟩
theorem ptU_dcm {f : Nat → Bool} {n i : Nat} (h : ptU f n i = true) : dcm f n = true := by
  rw [← ptU_end]
  obtain ⟨j, p, h1, h2, h3, h4⟩ := dec_iff.1 h
  exact dec_true ⟨j, p, h2, h2, h3, h4⟩
theorem ptU_step {f : Nat → Bool} {n i p : Nat} (hi : i < (pts f n).length) (hp : rd (pts f n) (i : Int) = (p : Int)) (h : ptU f n i = false) : ptU f n (i + 1) = stq f (n - p) := by
  rw [Bool.eq_iff_iff]
  constructor
  · intro h2
    obtain ⟨j, p', a, b, c, d⟩ := dec_iff.1 h2
    rcases Nat.lt_or_ge j i with x | x
    · have : ptU f n i = true := dec_true ⟨j, p', x, b, c, d⟩
      rw [h] at this; cases this
    · have e : j = i := by omega
      subst e
      have e2 : p' = p := by rw [c] at hp; omega
      rw [← e2]; exact d
  · intro h2; exact dec_true ⟨i, p, Nat.lt_succ_self _, hi, hp, h2⟩
theorem l4star_j2 (a b : List Bool) (hb : b ≠ []) (h1 : a.length ≤ 60) (h2 : b.length ≤ 60) (n m N : Nat) (hn : n ≤ 100000) (hm : m ≤ 100000) (v : List Bool)
    (hv : Ev (fun k => spec_l4Star.l0 k N (mid (stq (hasB a b)) n (stq (hasB a b) n) m) (pts (hasB a b) (n + 1)) ((n + 1 : Nat) : Int) a b) v) :
    Ev (fun k => spec_l4Star.j2 k N (mid (stq (hasB a b)) n (if n = 0 then false else dcm (hasB a b) n) m) (pts (hasB a b) n) n a b) v := by
  have hl : ∀ u, ((mid (stq (hasB a b)) n u m).length : Int) = ((n + 1 + m : Nat) : Int) := fun u => by rw [mid_length]
  have hpl := pts_length (hasB a b) n
  have c1 : n ≤ 4611686018427387904 := by omega
  rw [pts_succ] at hv
  rcases Nat.eq_zero_or_pos n with rfl | hpos
  · have ha : atm (hasB a b) 0 = false := rfl
    have hs : stq (hasB a b) 0 = true := stq_iff.2 (St.zero _)
    rw [ha, hs] at hv
    rw [if_pos rfl]
    refine Ev.step (fun k => ?_) hv
    simp only [spec_l4Star.j2]
    rw [if_pos (by trivial), hl, if_pos (by omega)]
    have e : (mid (stq (hasB a b)) 0 false m).set (Int.toNat 0) true = mid (stq (hasB a b)) 0 true m := mid_set _ _ _ _ _
    rw [e, wsucc c1]; rfl
  · have e1 := shas_f a b hb (by omega) n (by omega)
    rw [if_neg (by omega)]
    have hq := stq_pos (hasB a b) hpos
    cases hd : dcm (hasB a b) n with
    | true =>
      have ha : atm (hasB a b) n = false := by unfold atm; rw [hd]; simp
      rw [hd, Bool.true_or] at hq
      rw [ha, hq] at hv
      refine Ev.step (fun k => ?_) hv
      simp only [spec_l4Star.j2]
      rw [if_neg (by omega), if_pos (by omega), hl, if_pos (by omega), rdOf_nat, mid_self, if_pos (by trivial), wsucc c1]; rfl
    | false =>
      rw [hd, Bool.false_or] at hq
      cases hf : hasB a b n with
      | true =>
        have ha : atm (hasB a b) n = true := by unfold atm; rw [hd, hf, decide_eq_true hpos]; rfl
        rw [hf] at hq
        rw [ha, hq, if_pos rfl] at hv
        refine Ev.step (fun k => ?_) hv
        simp only [spec_l4Star.j2]
        rw [if_neg (by omega), if_pos (by omega), hl, if_pos (by omega), rdOf_nat, mid_self, if_neg (by decide), e1, hf, Option.bind_some, if_pos rfl, if_pos (by omega), Int.toNat_natCast, mid_set, wsucc c1]
      | false =>
        have ha : atm (hasB a b) n = false := by unfold atm; rw [hf]; simp
        rw [hf] at hq
        rw [ha, hq] at hv
        refine Ev.step (fun k => ?_) hv
        simp only [spec_l4Star.j2]
        rw [if_neg (by omega), if_pos (by omega), hl, if_pos (by omega), rdOf_nat, mid_self, if_neg (by decide), e1, hf, Option.bind_some, if_neg (by decide), wsucc c1]; rfl
theorem l4star_l1 (a b : List Bool) (hb : b ≠ []) (h1 : a.length ≤ 60) (h2 : b.length ≤ 60) (n m N : Nat) (hn : n ≤ 100000) (hm : m ≤ 100000) (v : List Bool)
    (hv : Ev (fun k => spec_l4Star.l0 k N (mid (stq (hasB a b)) n (stq (hasB a b) n) m) (pts (hasB a b) (n + 1)) ((n + 1 : Nat) : Int) a b) v) : ∀ (e i : Nat), i ≤ (pts (hasB a b) n).length → (pts (hasB a b) n).length - i = e →
    Ev (fun k => spec_l4Star.l1 k N (mid (stq (hasB a b)) n (ptU (hasB a b) n i) m) (pts (hasB a b) n) n i a b) v := by
  have hj := l4star_j2 a b hb h1 h2 n m N hn hm v hv
  have hl : ∀ u, ((mid (stq (hasB a b)) n u m).length : Int) = ((n + 1 + m : Nat) : Int) := fun u => by rw [mid_length]
  have hpl := pts_length (hasB a b) n
  have hz : n = 0 → (pts (hasB a b) n).length = 0 := fun h => by omega
  clear hv
  intro e
  induction e with
  | zero =>
    intro i hi he
    have e : i = (pts (hasB a b) n).length := by omega
    subst e
    rw [ptU_end]
    have hd : dcm (hasB a b) n = if n = 0 then false else dcm (hasB a b) n := by
      split
      · rename_i h; subst h; exact dec_false fun ⟨j, a, b, _⟩ => by omega
      · rfl
    rw [hd]
    refine Ev.step (fun k => ?_) hj
    simp only [spec_l4Star.l1]
    rw [if_neg (Int.lt_irrefl _)]
  | succ e ih =>
    intro i hi he
    have hlt : i < (pts (hasB a b) n).length := by omega
    have hn0 : ¬ n = 0 := fun h => by have := hz h; omega
    obtain ⟨p, p1, p2, p3, p4⟩ := pts_at hlt
    have hih := ih (i + 1) (by omega) (by omega)
    cases hu : ptU (hasB a b) n i with
    | true =>
      rw [if_neg hn0, ptU_dcm hu] at hj
      refine Ev.step (fun k => ?_) hj
      simp only [spec_l4Star.l1]
      rw [if_pos (by omega), if_pos (by omega), hl, if_pos (by omega), rdOf_nat, mid_self, if_pos (by trivial)]
    | false =>
      rw [ptU_step hlt p4 hu] at hih
      have c1 : n ≤ 4611686018427387904 := by omega
      have c2 : p ≤ n := by omega
      have c3 : i ≤ 4611686018427387904 := by omega
      have c4 : (i : Int) < ((pts (hasB a b) n).length : Int) := by omega
      have c5 : ((n - p : Nat) : Int) < ((n + 1 + m : Nat) : Int) := by omega
      have c6 : n - p < n := by omega
      refine Ev.step (fun k => ?_) hih
      simp only [spec_l4Star.l1]
      rw [if_pos c4, if_pos (by omega), hl, if_pos (by omega), rdOf_nat, mid_self, if_neg (by decide), if_pos (by omega), p4, wsub c2 c1, if_pos (by omega), if_pos c5, rdOf_nat, mid_lt _ c6, Int.toNat_natCast, mid_set, wsucc c3]
theorem l4star_l0 (a b : List Bool) (hb : b ≠ []) (h1 : a.length ≤ 60) (h2 : b.length ≤ 60) : ∀ (m n : Nat), n + m + 1 ≤ 100000 →
    Ev (fun k => spec_l4Star.l0 k ((n + m + 1 : Nat) : Int) (mid (stq (hasB a b)) n false m) (pts (hasB a b) n) n a b) (mkT (stq (hasB a b)) (n + m + 1)) := by
  intro m
  induction m with
  | zero =>
    intro n hn
    have hfin : Ev (fun k => spec_l4Star.l0 k ((n + 0 + 1 : Nat) : Int) (mid (stq (hasB a b)) n (stq (hasB a b) n) 0) (pts (hasB a b) (n + 1)) ((n + 1 : Nat) : Int) a b) (mkT (stq (hasB a b)) (n + 0 + 1)) := by
      rw [mid_end]
      refine Ev.step (f := fun k => some (mkT (stq (hasB a b)) (n + 1))) (fun k => ?_) (Ev.now _)
      simp only [spec_l4Star.l0]; rw [if_neg (Int.lt_irrefl _)]
    have hx := l4star_l1 a b hb h1 h2 n 0 (n + 0 + 1) (by omega) (by omega) _ hfin _ 0 (Nat.zero_le _) rfl
    rw [ptU_zero] at hx
    refine Ev.step (fun k => ?_) hx
    simp only [spec_l4Star.l0]
    rw [if_pos (by omega)]; rfl
  | succ m ih =>
    intro n hn
    have hih := ih (n + 1) (by omega)
    rw [← mid_next, show n + 1 + m + 1 = n + (m + 1) + 1 by omega] at hih
    have hx := l4star_l1 a b hb h1 h2 n (m + 1) (n + (m + 1) + 1) (by omega) (by omega) _ hih _ 0 (Nat.zero_le _) rfl
    rw [ptU_zero] at hx
    refine Ev.step (fun k => ?_) hx
    simp only [spec_l4Star.l0]
    rw [if_pos (by omega)]; rfl
theorem l4star_f (a b : List Bool) (hb : b ≠ []) (h1 : a.length ≤ 60) (h2 : b.length ≤ 60) (N : Nat) (h0 : 0 < N) (hN : N ≤ 100000) : Ev (fun k => spec_l4Star.f k a b N) (mkT (stq (hasB a b)) N) := by
  have h := l4star_l0 a b hb h1 h2 (N - 1) 0 (by omega)
  rw [show 0 + (N - 1) + 1 = N by omega, ← mid_start, show N - 1 + 1 = N by omega] at h
  refine Ev.congr (fun k => ?_) h
  unfold spec_l4Star.f
  rw [if_pos (by omega), Int.toNat_natCast, if_pos (by omega)]; rfl
end Go.Proofs.Yticdcfgjpopkoaa.P

-- spec.l1Less comes to the tidy form.
namespace Go.Proofs.Yticdcfgjpopkoaa.P
open Go.RowKit Go.Proofs.YticdcfgjpopkoaaW.PrintWords Go.Proofs.YticdcfgjpopkoaaW.PrintLast Go.Proofs.YticdcfgjpopkoaaW.PrintMore
set_option linter.unusedVariables false
set_option linter.unusedSimpArgs false
/-- The search for a lesser ring: from divisor d on, and place i. -/
theorem less_l1 (t r : List Bool) (R : List Bool × List Bool) (hr : r.length ≤ 70368744177664) (d : Nat) (hd : 0 < d) (hdl : d < r.length)
    (hno : ¬ IsPer r d → Ev (fun k => spec_l1Less.l0 k r.length ((d + 1 : Nat) : Int) t r) R)
    (hyes : IsPer r d → Ev (fun k => spec_l1Less.f k t (r.take d)) R) :
    ∀ (m i : Nat), d ≤ i → i ≤ r.length → r.length - i = m → ∀ b : Bool, (b = true ↔ r.length % d = 0 ∧ ∀ j, d ≤ j → j < i → r.getD j false = r.getD (j - d) false) →
      Ev (fun k => spec_l1Less.l1 k r.length d b i t r) R := by
  have hw : wrap64 ((d : Int) + 1) = ((d + 1 : Nat) : Int) := by rw [w64 (by omega) (by omega)]; omega
  intro m
  induction m with
  | zero =>
    intro i h1 h2 h3 b hb
    have e : i = r.length := by omega
    subst e
    cases b with
    | true =>
      refine Ev.step (f := fun k => (spec_l1Less.f k t (r.take d)).bind fun bt273 => (some (bt273.1, bt273.2))) (fun k => ?_) (Ev.bind (hyes ?_) (Ev.now _))
      · simp only [spec_l1Less.l1]; rw [if_neg (by omega), if_pos trivial, if_pos (by omega), if_pos (by omega)]; rfl
      · exact ⟨(hb.1 rfl).1, (hb.1 rfl).2⟩
    | false =>
      refine Ev.step (f := fun k => spec_l1Less.l0 k r.length ((d + 1 : Nat) : Int) t r) (fun k => ?_) (hno ?_)
      · simp only [spec_l1Less.l1]; rw [if_neg (by omega), if_neg (by decide), hw]
      · intro hp; exact absurd (hb.2 ⟨hp.1, hp.2⟩) (by decide)
  | succ m ih =>
    intro i h1 h2 h3 b hb
    cases b with
    | true =>
      have hi : wrap64 ((i : Int) + 1) = ((i + 1 : Nat) : Int) := by rw [w64 (by omega) (by omega)]; omega
      have hs : wrap64 ((i : Int) - (d : Int)) = ((i - d : Nat) : Int) := by rw [w64 (by omega) (by omega)]; omega
      refine Ev.step (f := fun k => spec_l1Less.l1 k r.length d (r.getD i false == r.getD (i - d) false) ((i + 1 : Nat) : Int) t r) (fun k => ?_) (ih (i + 1) (by omega) (by omega) (by omega) _ ?_)
      · simp only [spec_l1Less.l1]
        rw [if_pos (by omega), if_pos trivial, if_pos (by omega), if_pos (by omega), hs, if_pos (by omega), if_pos (by omega), hi, rdOf_nat, rdOf_nat]
      · have hb' := hb.1 rfl
        rw [beq_iff_eq]
        constructor
        · intro he
          refine ⟨hb'.1, fun j hj hj2 => ?_⟩
          rcases Nat.lt_or_ge j i with hlt | hge
          · exact hb'.2 j hj hlt
          · have : j = i := by omega
            subst this; exact he
        · intro hh; exact hh.2 i h1 (by omega)
    | false =>
      refine Ev.step (f := fun k => spec_l1Less.l0 k r.length ((d + 1 : Nat) : Int) t r) (fun k => ?_) (hno ?_)
      · simp only [spec_l1Less.l1]; rw [if_pos (by omega), if_neg (by decide), hw]
      · intro hp; exact absurd (hb.2 ⟨hp.1, fun j hj hj2 => hp.2 j hj (by omega)⟩) (by decide)

theorem less_f : ∀ (n : Nat) (t r : List Bool), t.length + r.length = n → r ≠ [] → n ≤ 70368744177664 → ∃ t' r', Ev (fun k => spec_l1Less.f k t r) (t', r') ∧ Tidy t r t' r' := by
  intro n
  induction n using Nat.strongRecOn with
  | _ n ih =>
    intro t r hn hr hl
    have hpos := List.length_pos_iff.2 hr
    -- at the search's end
    have hend : (∀ d, 0 < d → d < r.length → ¬ IsPer r d) → ∃ t' r', Ev (fun k => spec_l1Less.l0 k r.length (r.length : Int) t r) (t', r') ∧ Tidy t r t' r' := by
      intro hno
      have hprim := prim_of hr hno
      by_cases ht : t = []
      · subst ht
        refine ⟨[], r, Ev.step (f := fun k => some (([] : List Bool), r)) (fun k => ?_) (Ev.now _), ⟨hprim, .inl rfl⟩, fun _ => rfl, Nat.le_refl _, Nat.le_refl _⟩
        simp only [spec_l1Less.l0]; rw [if_neg (by omega), if_neg (by simp)]
      · have htp := List.length_pos_iff.2 ht
        have w1 : wrap64 ((t.length : Int) - 1) = ((t.length - 1 : Nat) : Int) := by rw [w64 (by omega) (by omega)]; omega
        have w2 : wrap64 ((r.length : Int) - 1) = ((r.length - 1 : Nat) : Int) := by rw [w64 (by omega) (by omega)]; omega
        by_cases he : t.getD (t.length - 1) false = r.getD (r.length - 1) false
        · obtain ⟨t', r', hev, htd⟩ := ih _ (by have := rotR_length hr; rw [this, List.length_take]; omega) (t.take (t.length - 1)) (rotR r) rfl (by simp [rotR]) (by rw [rotR_length hr, List.length_take]; omega)
          refine ⟨t', r', Ev.step (f := fun k => (spec_l1Less.f k (t.take (t.length - 1)) (rotR r)).bind fun bt260 => (some (bt260.1, bt260.2))) (fun k => ?_) (Ev.bind hev (Ev.now _)), htd.canon, fun x => by rw [htd.has, rot_has ht hr he], by have := htd.tl; rw [List.length_take] at this; omega, by have := htd.rl; rw [rotR_length hr] at this; omega⟩
          simp only [spec_l1Less.l0]
          rw [if_neg (by omega), if_pos (by omega), w1, w2, if_pos (by omega), if_pos (by omega), if_pos (by omega), if_pos (by omega), rdOf_nat, rdOf_nat, if_pos (by rw [he]; exact beq_self_eq_true _)]
          simp only [Option.bind_some]
          rw [if_pos (by omega)]
          simp only [Int.toNat_natCast]
          rw [if_pos (by simp; omega), if_pos (by omega)]
          rfl
        · refine ⟨t, r, Ev.step (f := fun k => some (t, r)) (fun k => ?_) (Ev.now _), ⟨hprim, .inr he⟩, fun _ => rfl, Nat.le_refl _, Nat.le_refl _⟩
          simp only [spec_l1Less.l0]
          rw [if_neg (by omega), if_pos (by omega), w1, w2, if_pos (by omega), if_pos (by omega), if_pos (by omega), if_pos (by omega), rdOf_nat, rdOf_nat, if_neg (by rw [beq_iff_eq]; exact he)]
    -- the search
    have hsearch : ∀ (m d : Nat), 0 < d → d ≤ r.length → r.length - d = m → (∀ d', 0 < d' → d' < d → ¬ IsPer r d') → ∃ t' r', Ev (fun k => spec_l1Less.l0 k r.length (d : Int) t r) (t', r') ∧ Tidy t r t' r' := by
      intro m
      induction m with
      | zero =>
        intro d h0 h1 h2 h3
        have e : d = r.length := by omega
        subst e
        exact hend h3
      | succ m ihm =>
        intro d h0 h1 h2 h3
        have hmod : Int.tmod (r.length : Int) (d : Int) = ((r.length % d : Nat) : Int) := by rw [Int.tmod_eq_emod_of_nonneg (by omega)]; rfl
        have step : ∀ R, Ev (fun k => spec_l1Less.l1 k r.length d ((Int.tmod (r.length : Int) (d : Int)) == 0) d t r) R → Ev (fun k => spec_l1Less.l0 k r.length (d : Int) t r) R := fun R h => by
          refine Ev.step (fun k => ?_) h
          simp only [spec_l1Less.l0]; rw [if_pos (by omega), if_neg (by omega)]
        have hb : ((Int.tmod (r.length : Int) (d : Int)) == 0) = true ↔ r.length % d = 0 ∧ ∀ j, d ≤ j → j < d → r.getD j false = r.getD (j - d) false := by
          rw [hmod, beq_iff_eq]
          constructor
          · intro h; exact ⟨by omega, fun j a b => by omega⟩
          · rintro ⟨h, _⟩; rw [h]; rfl
        by_cases hp : IsPer r d
        · have hlt : (r.take d).length = d := by rw [List.length_take]; omega
          obtain ⟨t', r', hev, htd⟩ := ih (t.length + (r.take d).length) (by omega) t (r.take d) rfl (by intro e; rw [e] at hlt; simp at hlt; omega) (by omega)
          refine ⟨t', r', step _ (less_l1 t r _ (by omega) d h0 (by omega) (fun h => absurd hp h) (fun _ => hev) _ d (Nat.le_refl _) (by omega) rfl _ hb), htd.canon, fun x => by rw [htd.has, take_has hp h0 h1], htd.tl, by have := htd.rl; omega⟩
        · obtain ⟨t', r', hev, htd⟩ := ihm (d + 1) (by omega) (by omega) (by omega) (fun d' a b => by
            rcases Nat.lt_or_ge d' d with h | h
            · exact h3 d' a h
            · have : d' = d := by omega
              subst this; exact hp)
          exact ⟨t', r', step _ (less_l1 t r _ (by omega) d h0 (by omega) (fun _ => hev) (fun h => absurd h hp) _ d (Nat.le_refl _) (by omega) rfl _ hb), htd⟩
    obtain ⟨t', r', hev, htd⟩ := hsearch (r.length - 1) 1 (by omega) (by omega) rfl (fun d' a b => by omega)
    exact ⟨t', r', Ev.step (fun k => by simp only [spec_l1Less.f]; rfl) hev, htd⟩

theorem less_cn (t r : List Bool) (hr : r ≠ []) (hl : t.length + r.length ≤ 70368744177664) : Ev (fun k => spec_l1Less.f k t r) (cn (hasB t r)) := by
  obtain ⟨t', r', h, ht⟩ := less_f _ t r rfl hr hl
  rw [ht.cn]; exact h

end Go.Proofs.Yticdcfgjpopkoaa.P

-- spec.l6Open and pick: whatever is drawn lies in its range.
namespace Go.Proofs.Yticdcfgjpopkoaa.P
open Go.RowKit Go.Proofs.YticdcfgjpopkoaaW.PrintWords Go.Proofs.YticdcfgjpopkoaaW.PrintLast Go.Proofs.YticdcfgjpopkoaaW.PrintMore
set_option linter.unusedVariables false
set_option linter.unusedSimpArgs false

theorem bits_xor_nat (a b : Nat) (ha : a < 2 ^ 62) (hb : b < 2 ^ 62) : Go.bits .xor .i64 (a : Int) (b : Int) = ((a ^^^ b : Nat) : Int) := by
  have ha' : a % 2 ^ IntKind.i64.bits = a := Nat.mod_eq_of_lt (by show a < 2 ^ 64; omega)
  have hb' : b % 2 ^ IntKind.i64.bits = b := Nat.mod_eq_of_lt (by show b < 2 ^ 64; omega)
  have hx := Nat.xor_lt_two_pow ha hb
  simp only [Go.bits, BitVec.ofInt_natCast, BitVec.toNat_xor, BitVec.toNat_ofNat, ha', hb']
  rw [IntKind.wrap_i64]
  omega
theorem open_f (l : List Int) : spec_l6Open.f l = some (l.take 2000, 0) := by
  unfold spec_l6Open.f
  by_cases h : (l.length : Int) > 2000
  · rw [if_pos h, if_pos (by omega)]
  · rw [if_neg h, List.take_of_length_le (by omega)]
/-- The code of a draw: bytes, not too many. -/
structure Code (b : List Int) : Prop where
  byte : ∀ x ∈ b, 0 ≤ x ∧ x ≤ 255
  len : b.length ≤ 2000
theorem code_of {l : List Int} (h : ∀ x ∈ l, (Lit.int .u8 x).wf = true) : Code (l.take 2000) := by
  refine ⟨fun x hx => ?_, by rw [List.length_take]; omega⟩
  have := h x (List.mem_of_mem_take hx)
  have h0 : IntKind.u8.min = 0 := rfl
  have h1 : IntKind.u8.max = 255 := rfl
  simp [Lit.wf, h0, h1] at this
  omega
theorem Code.rd {b : List Int} (h : Code b) {i : Nat} (hi : i < b.length) : 0 ≤ Go.Proofs.YticdcfgjpopkoaaW.PrintWords.rd b (i : Int) ∧ Go.Proofs.YticdcfgjpopkoaaW.PrintWords.rd b (i : Int) ≤ 255 := by
  have e : Go.Proofs.YticdcfgjpopkoaaW.PrintWords.rd b (i : Int) = b[i] := by simp [Go.Proofs.YticdcfgjpopkoaaW.PrintWords.rd, List.getD_eq_getElem?_getD, hi]
  rw [e]; exact h.byte _ (List.getElem_mem hi)
theorem pick_f {b : List Int} (h : Code b) (p n : Nat) (hp : p ≤ 1000000) (hn : 1 ≤ n) (hn2 : n ≤ 1000000) : ∃ v : Nat, v < n ∧ Ev (fun k => spec_l6Rd_pick.f k b p n) ((v : Int), ((p + 1 : Nat) : Int)) := by
  have w1 : wrap64 ((p : Int) + 1) = ((p + 1 : Nat) : Int) := by rw [w64 (by omega) (by omega)]; omega
  have w2 : wrap64 (((p + 1 : Nat) : Int) - 1) = (p : Int) := by rw [w64 (by omega) (by omega)]; omega
  have hlen := h.len
  by_cases h0 : b.length = 0
  · refine ⟨0, by omega, ?_⟩
    have e : ((b.length : Int) == 0) = true := by rw [beq_iff_eq]; omega
    refine Ev.congr (f := fun k => spec_l6Rd_pick.j0 k n true b ((p + 1 : Nat) : Int)) (fun k => ?_) (Ev.step (f := fun k => some (0, ((p + 1 : Nat) : Int))) (fun k => ?_) (Ev.now _))
    · unfold spec_l6Rd_pick.f; rw [if_neg (by omega), e, w1]
    · simp only [spec_l6Rd_pick.j0]; rw [if_pos trivial]
  · have e : ((b.length : Int) == 0) = false := by rw [beq_eq_false_iff_ne]; omega
    have st : ∀ k, spec_l6Rd_pick.f k b p n = spec_l6Rd_pick.j0 k n false b ((p + 1 : Nat) : Int) := fun k => by
      unfold spec_l6Rd_pick.f; rw [if_neg (by omega), e, w1]
    by_cases hlt : p < b.length
    · obtain ⟨v, hv⟩ := Int.eq_ofNat_of_zero_le (h.rd hlt).1
      have hv2 := (h.rd hlt).2
      rw [hv] at hv2
      refine ⟨v % n, Nat.mod_lt _ (by omega), Ev.congr st (Ev.step (f := fun k => some (((v % n : Nat) : Int), ((p + 1 : Nat) : Int))) (fun k => ?_) (Ev.now _))⟩
      simp only [spec_l6Rd_pick.j0]
      rw [if_neg (by decide), w2, if_pos (by omega), if_pos (by omega), if_neg (by omega), hv, w64 (by omega) (by omega), Int.tmod_eq_emod_of_nonneg (by omega)]
      rfl
    · have hpos : 0 < b.length := by omega
      have m1 : Int.tmod (p : Int) (b.length : Int) = ((p % b.length : Nat) : Int) := by rw [Int.tmod_eq_emod_of_nonneg (by omega)]; rfl
      have w3 : wrap64 ((p : Int) * 7) = ((p * 7 : Nat) : Int) := by rw [w64 (by omega) (by omega)]; omega
      have w4 : wrap64 (((p * 7 : Nat) : Int) + 3) = ((p * 7 + 3 : Nat) : Int) := by rw [w64 (by omega) (by omega)]; omega
      have m2 : Int.tmod ((p * 7 + 3 : Nat) : Int) (b.length : Int) = (((p * 7 + 3) % b.length : Nat) : Int) := by rw [Int.tmod_eq_emod_of_nonneg (by omega)]; rfl
      have l1 := Nat.mod_lt p hpos
      have l2 := Nat.mod_lt (p * 7 + 3) hpos
      obtain ⟨v1, hv1⟩ := Int.eq_ofNat_of_zero_le (h.rd l1).1
      obtain ⟨v2, hv2⟩ := Int.eq_ofNat_of_zero_le (h.rd l2).1
      have u1 := (h.rd l1).2
      have u2 := (h.rd l2).2
      rw [hv1] at u1
      rw [hv2] at u2
      have q1 : Int.tdiv (p : Int) (b.length : Int) = ((p / b.length : Nat) : Int) := by rw [Int.tdiv_eq_ediv_of_nonneg (by omega)]; rfl
      have q1l : p / b.length ≤ p := Nat.div_le_self _ _
      generalize p / b.length = qq at q1 q1l
      have s1 : wrap64 (wrap64 (v1 : Int) * 131) = ((v1 * 131 : Nat) : Int) := by rw [w64 (x := (v1 : Int)) (by omega) (by omega), w64 (by omega) (by omega)]; omega
      have s2 : wrap64 (wrap64 (v2 : Int) * 1117) = ((v2 * 1117 : Nat) : Int) := by rw [w64 (x := (v2 : Int)) (by omega) (by omega), w64 (by omega) (by omega)]; omega
      have s3 : wrap64 ((p : Int) * 29) = ((p * 29 : Nat) : Int) := by rw [w64 (by omega) (by omega)]; omega
      have s4 : wrap64 (wrap64 ((qq : Nat) : Int) * 53) = ((qq * 53 : Nat) : Int) := by rw [w64 (x := ((qq : Nat) : Int)) (by omega) (by omega), w64 (by omega) (by omega)]; omega
      have s5 : wrap64 (wrap64 (wrap64 (((v1 * 131 : Nat) : Int) + ((v2 * 1117 : Nat) : Int)) + ((p * 29 : Nat) : Int)) + ((qq * 53 : Nat) : Int)) = ((v1 * 131 + v2 * 1117 + p * 29 + qq * 53 : Nat) : Int) := by
        rw [w64 (x := ((v1 * 131 : Nat) : Int) + ((v2 * 1117 : Nat) : Int)) (by omega) (by omega), w64 (x := ((v1 * 131 : Nat) : Int) + ((v2 * 1117 : Nat) : Int) + ((p * 29 : Nat) : Int)) (by omega) (by omega), w64 (by omega) (by omega)]; omega
      generalize hX : v1 * 131 + v2 * 1117 + p * 29 + qq * 53 = X at s5
      have hXl : X < 100000000 := by omega
      have s6 : wrap64 (Int.tdiv (X : Int) 64) = ((X / 64 : Nat) : Int) := by
        rw [Int.tdiv_eq_ediv_of_nonneg (by omega), w64 (by omega) (by omega)]; omega
      have hx := bits_xor_nat X (X / 64) (by omega) (by omega)
      refine ⟨(X ^^^ X / 64) % n, Nat.mod_lt _ (by omega), Ev.congr st (Ev.step (f := fun k => some ((((X ^^^ X / 64) % n : Nat) : Int), ((p + 1 : Nat) : Int))) (fun k => ?_) (Ev.now _))⟩
      simp only [spec_l6Rd_pick.j0]
      rw [if_neg (by decide), w2, if_neg (by omega), if_neg (by omega), m1, w3, w4, m2, if_pos (by omega), if_pos (by omega), if_pos (by omega), if_pos (by omega), if_neg (by omega), hv1, hv2, q1, s1, s2, s3, s4, s5, s6, hx, Int.tmod_eq_emod_of_nonneg (by omega)]
      rfl

end Go.Proofs.Yticdcfgjpopkoaa.P

-- spec.l91Set draws a set text of few signs, or none.
namespace Go.Proofs.Yticdcfgjpopkoaa.P
open Go.RowKit Go.Proofs.YticdcfgjpopkoaaW.PrintWords Go.Proofs.YticdcfgjpopkoaaW.PrintLast Go.Proofs.YticdcfgjpopkoaaW.PrintMore
set_option linter.unusedVariables false
set_option linter.unusedSimpArgs false

theorem signs91_l0 {b : List Int} (h : Code b) : ∀ (d : Nat) (acc : List Bool) (p : Nat), p + d ≤ 1000000 → acc.length + d ≤ 1000000 → ∃ l : List Bool, l.length = acc.length + d ∧ Ev (fun k => spec_l91Signs.l0 k (acc.map fun x => if x then (49 : Int) else 48) d b p) ((⟨(l.map sgn).toArray⟩ : ByteArray), ((p + d : Nat) : Int)) := by
  intro d
  induction d with
  | zero =>
    intro acc p hp ha
    refine ⟨acc, rfl, Ev.step (f := fun k => some (strOfNums (acc.map fun x => if x then (49 : Int) else 48), (p : Int))) (fun k => ?_) ?_⟩
    · simp only [spec_l91Signs.l0]; rw [if_neg (by omega)]
    · have e : strOfNums (acc.map fun x => if x then (49 : Int) else 48) = ⟨(acc.map sgn).toArray⟩ := by
        simp only [strOfNums, List.map_map]
        congr 2
        apply List.map_congr_left
        intro x _; cases x <;> rfl
      rw [e]; exact Ev.now _
  | succ d ih =>
    intro acc p hp ha
    obtain ⟨v, hv, hev⟩ := pick_f h p 2 (by omega) (by omega) (by omega)
    obtain ⟨l, hl, hlev⟩ := ih (acc ++ [v == 1]) (p + 1) (by omega) (by simp; omega)
    refine ⟨l, by rw [hl]; simp; omega, ?_⟩
    have e1 : (wrap64 (48 + (v : Int))) % 256 = if (v == 1) = true then (49 : Int) else 48 := by
      rw [w64 (by omega) (by omega)]
      rcases (show v = 0 ∨ v = 1 by omega) with rfl | rfl <;> rfl
    have e2 : wrap64 (((d + 1 : Nat) : Int) - 1) = (d : Int) := by rw [w64 (by omega) (by omega)]; omega
    refine Ev.step (f := fun k => (spec_l6Rd_pick.f k b p 2).bind fun bt112 => (if (acc.map fun x => if x then (49 : Int) else 48).length < 140737488355328 then (spec_l91Signs.l0 k ((acc.map fun x => if x then (49 : Int) else 48) ++ [(wrap64 (48 + bt112.1)) % 256]) (wrap64 (((d + 1 : Nat) : Int) - 1)) b bt112.2) else (none))) (fun k => ?_) (Ev.bind hev ?_)
    · simp only [spec_l91Signs.l0]; rw [if_pos (by omega)]
    · simp only [List.length_map, if_pos (show acc.length < 140737488355328 by omega), e1, e2]
      rw [List.map_append] at hlev
      rw [show p + (d + 1) = p + 1 + d by omega]
      exact hlev
theorem signs91_f {b : List Int} (h : Code b) (p low many : Nat) (hp : p ≤ 900000) (hlow : low ≤ 1000) (hm : 1 ≤ many) (hm2 : many ≤ 1000) : ∃ (l : List Bool) (q : Nat), low ≤ l.length ∧ l.length < low + many ∧ q ≤ p + 1 + low + many ∧ Ev (fun k => spec_l91Signs.f k b p low many) ((⟨(l.map sgn).toArray⟩ : ByteArray), (q : Int)) := by
  obtain ⟨v, hv, hev⟩ := pick_f h p many (by omega) hm (by omega)
  obtain ⟨l, hl, hlev⟩ := signs91_l0 h (low + v) [] (p + 1) (by omega) (by simp; omega)
  simp only [List.length_nil, Nat.zero_add] at hl
  refine ⟨l, p + 1 + (low + v), by omega, by omega, by omega, ?_⟩
  refine Ev.congr (fun k => rfl) (Ev.bind hev ?_)
  have e : wrap64 ((low : Int) + (v : Int)) = ((low + v : Nat) : Int) := by rw [w64 (by omega) (by omega)]; omega
  simp only [e]
  exact hlev
theorem bitsL_none : ∀ (l : List UInt8), (∃ c ∈ l, c ≠ 48 ∧ c ≠ 49) → bitsL l = none
  | [], h => by obtain ⟨c, hc, _⟩ := h; cases hc
  | x :: l, h => by
    obtain ⟨c, hc, h0, h1⟩ := h
    simp only [bitsL]
    rcases List.mem_cons.1 hc with rfl | hc
    · rw [if_neg h0, if_neg h1]
    · have := bitsL_none l ⟨c, hc, h0, h1⟩
      rw [this]; split
      · rfl
      · split <;> rfl
/-- A drawn set text. -/
structure Few (s : ByteArray) : Prop where
  size : s.size ≤ 20
  few : ∀ a b, parse (chrs s) = some (a, b) → a.length ≤ 5 ∧ b.length ≤ 5
theorem few_text {t r : List Bool} (ht : t.length ≤ 5) (h1 : 1 ≤ r.length) (hr : r.length ≤ 5) : Few (textOf t r) := by
  refine ⟨by rw [textOf_size]; omega, fun a b h => ?_⟩
  rw [parse_textOf (by omega) (by omega) (by intro e; rw [e] at h1; simp at h1)] at h
  simp only [Option.some.injEq, Prod.mk.injEq] at h
  rw [← h.1, ← h.2]; exact ⟨ht, hr⟩
theorem textOf_eq (t r : List Bool) : (((⟨(t.map sgn).toArray⟩ : ByteArray) ++ (⟨#[40]⟩ : ByteArray)) ++ (⟨(r.map sgn).toArray⟩ : ByteArray)) ++ (⟨#[41]⟩ : ByteArray) = textOf t r := by
  apply chrs_inj
  rw [chrs_append, chrs_append, chrs_append]; rfl
theorem size_sgn (l : List Bool) : (⟨(l.map sgn).toArray⟩ : ByteArray).size = l.length := by show (l.map sgn).toArray.size = _; simp
theorem few_cut {t r : List Bool} (ht : t.length ≤ 5) (h1 : 1 ≤ r.length) (hr : r.length ≤ 5) : Few ((⟨#[40]⟩ : ByteArray) ++ (textOf t r).extract 1 (textOf t r).size) := by
  have hc : chrs ((⟨#[40]⟩ : ByteArray) ++ (textOf t r).extract 1 (textOf t r).size) = 40 :: (chrs (textOf t r)).drop 1 := by
    rw [chrs_append, chrs_extract, List.take_of_length_le (by rw [chrs_length]; omega)]; rfl
  have hs : ((⟨#[40]⟩ : ByteArray) ++ (textOf t r).extract 1 (textOf t r).size).size = t.length + r.length + 2 := by
    rw [← chrs_length, hc, List.length_cons, List.length_drop, chrs_length, textOf_size]; omega
  cases t with
  | nil =>
    have e : ((⟨#[40]⟩ : ByteArray) ++ (textOf [] r).extract 1 (textOf [] r).size) = textOf [] r := by
      apply chrs_inj; rw [hc]; rfl
    rw [e]; exact few_text (by simp) h1 hr
  | cons x t =>
    refine ⟨by rw [hs]; omega, fun a b h => ?_⟩
    exfalso
    rw [hc] at h
    have hd : (chrs (textOf (x :: t) r)).drop 1 = t.map sgn ++ 40 :: (r.map sgn ++ [41]) := by rw [chrs_textOf]; simp
    rw [hd] at h
    unfold parse at h
    have hf : (40 :: (t.map sgn ++ 40 :: (r.map sgn ++ [41]))).findIdx (· == 40) = 0 := rfl
    rw [hf] at h
    have hb : bitsL (((40 :: (t.map sgn ++ 40 :: (r.map sgn ++ [41]))).take ((40 :: (t.map sgn ++ 40 :: (r.map sgn ++ [41]))).length - 1)).drop (0 + 1)) = none := by
      apply bitsL_none
      refine ⟨40, ?_, by decide, by decide⟩
      have hl : (40 :: (t.map sgn ++ 40 :: (r.map sgn ++ [41]))).length - 1 = (40 :: (t.map sgn ++ 40 :: r.map sgn)).length := by simp; omega
      rw [hl, show (40 : UInt8) :: (t.map sgn ++ 40 :: (r.map sgn ++ [41])) = (40 :: (t.map sgn ++ 40 :: r.map sgn)) ++ [41] by simp, List.take_left]
      simp
    rw [hb] at h
    split at h
    · split at h
      · rename_i h2; cases h2
      · cases h
    · cases h
theorem few_bad (i : Nat) (hi : i < 9) : Few (rdOf ByteArray.empty [(⟨#[]⟩ : ByteArray), (⟨#[48]⟩ : ByteArray), (⟨#[40, 41]⟩ : ByteArray), (⟨#[49, 40]⟩ : ByteArray), (⟨#[40, 48, 41, 41]⟩ : ByteArray), (⟨#[97, 40, 49, 41]⟩ : ByteArray), (⟨#[40, 49, 41, 48]⟩ : ByteArray), (⟨#[48, 49, 40, 48, 50, 41]⟩ : ByteArray), (⟨#[48, 40, 40, 49, 41]⟩ : ByteArray)] (i : Int)) := by
  rcases (show i = 0 ∨ i = 1 ∨ i = 2 ∨ i = 3 ∨ i = 4 ∨ i = 5 ∨ i = 6 ∨ i = 7 ∨ i = 8 by omega) with rfl | rfl | rfl | rfl | rfl | rfl | rfl | rfl | rfl <;>
    exact ⟨by decide, fun a b h => by exfalso; revert h; show (parse _ = some (a, b)) → False; intro h; exact absurd (h.symm.trans (show parse _ = none from by rfl)) (by simp)⟩
theorem set91_f {b : List Int} (h : Code b) (p : Nat) (hp : p ≤ 800000) : ∃ (s : ByteArray) (q : Nat), Few s ∧ q ≤ p + 50 ∧ Ev (fun k => spec_l91Set.f k b p) (s, (q : Int)) := by
  obtain ⟨t, p1, ht1, ht2, hp1, e1⟩ := signs91_f h p 0 6 (by omega) (by omega) (by omega) (by omega)
  obtain ⟨r, p2, hr1, hr2, hp2, e2⟩ := signs91_f h p1 1 5 (by omega) (by omega) (by omega) (by omega)
  obtain ⟨v, hv, e3⟩ := pick_f h p2 24 (by omega) (by omega) (by omega)
  have st := size_sgn t
  have sr := size_sgn r
  have fin : ∀ {R : ByteArray × Int}, Ev (fun k => (if (v : Int) = 0 then ((some (([(⟨#[]⟩ : ByteArray), (⟨#[48]⟩ : ByteArray), (⟨#[40, 41]⟩ : ByteArray), (⟨#[49, 40]⟩ : ByteArray), (⟨#[40, 48, 41, 41]⟩ : ByteArray), (⟨#[97, 40, 49, 41]⟩ : ByteArray), (⟨#[40, 49, 41, 48]⟩ : ByteArray), (⟨#[48, 49, 40, 48, 50, 41]⟩ : ByteArray), (⟨#[48, 40, 40, 49, 41]⟩ : ByteArray)] : List ByteArray) : List ByteArray)).bind fun y123 => ((spec_l6Rd_pick.f k b ((p2 + 1 : Nat) : Int) 9).bind fun bt126 => (if 0 ≤ bt126.1 then (if bt126.1 < (y123.length : Int) then (some (rdOf ByteArray.empty y123 bt126.1, bt126.2)) else (none)) else (none)))) else (if (v : Int) = 1 then ((spec_l91Signs.f k b ((p2 + 1 : Nat) : Int) 0 6).bind fun bt129 => (if bt129.1.size + 3 ≤ 9223372036854775807 then (some (bt129.1 ++ (⟨#[40, 48, 41]⟩ : ByteArray), bt129.2)) else (none))) else (if (v : Int) = 2 then (if 1 ≤ ((((((⟨(t.map sgn).toArray⟩ : ByteArray) ++ (⟨#[40]⟩ : ByteArray)) ++ (⟨(r.map sgn).toArray⟩ : ByteArray)) ++ (⟨#[41]⟩ : ByteArray)).size) : Int) then (if 1 + (((((⟨(t.map sgn).toArray⟩ : ByteArray) ++ (⟨#[40]⟩ : ByteArray)) ++ (⟨(r.map sgn).toArray⟩ : ByteArray)) ++ (⟨#[41]⟩ : ByteArray)).extract 1 ((((⟨(t.map sgn).toArray⟩ : ByteArray) ++ (⟨#[40]⟩ : ByteArray)) ++ (⟨(r.map sgn).toArray⟩ : ByteArray)) ++ (⟨#[41]⟩ : ByteArray)).size).size ≤ 9223372036854775807 then (some ((⟨#[40]⟩ : ByteArray) ++ (((((⟨(t.map sgn).toArray⟩ : ByteArray) ++ (⟨#[40]⟩ : ByteArray)) ++ (⟨(r.map sgn).toArray⟩ : ByteArray)) ++ (⟨#[41]⟩ : ByteArray)).extract 1 ((((⟨(t.map sgn).toArray⟩ : ByteArray) ++ (⟨#[40]⟩ : ByteArray)) ++ (⟨(r.map sgn).toArray⟩ : ByteArray)) ++ (⟨#[41]⟩ : ByteArray)).size), ((p2 + 1 : Nat) : Int))) else (none)) else (none)) else (some ((((⟨(t.map sgn).toArray⟩ : ByteArray) ++ (⟨#[40]⟩ : ByteArray)) ++ (⟨(r.map sgn).toArray⟩ : ByteArray)) ++ (⟨#[41]⟩ : ByteArray), ((p2 + 1 : Nat) : Int))))))) R → Ev (fun k => spec_l91Set.f k b p) R := by
    intro R hR
    refine Ev.congr (fun k => rfl) (Ev.bind e1 ?_)
    simp only [st, if_pos (show t.length + 1 ≤ 9223372036854775807 by omega)]
    refine Ev.bind e2 ?_
    simp only [sr, if_pos (show t.length + 1 + r.length ≤ 9223372036854775807 by omega), if_pos (show t.length + 1 + r.length + 1 ≤ 9223372036854775807 by omega)]
    exact Ev.bind e3 hR
  by_cases v0 : (v : Int) = 0
  · obtain ⟨j, hj, e4⟩ := pick_f h (p2 + 1) 9 (by omega) (by omega) (by omega)
    refine ⟨_, p2 + 1 + 1, few_bad j hj, by omega, fin ?_⟩
    simp only [if_pos v0, Option.bind_some]
    refine Ev.bind e4 ?_
    simp only [if_pos (show (0 : Int) ≤ (j : Int) by omega), List.length_cons, List.length_nil, if_pos (show (j : Int) < ((0 + 1 + 1 + 1 + 1 + 1 + 1 + 1 + 1 + 1 : Nat) : Int) by omega)]
    exact Ev.now _
  · by_cases v1 : (v : Int) = 1
    · obtain ⟨l, p3, hl1, hl2, hp3, e4⟩ := signs91_f h (p2 + 1) 0 6 (by omega) (by omega) (by omega) (by omega)
      have sl := size_sgn l
      refine ⟨textOf l [false], p3, few_text (by omega) (by simp) (by simp), by omega, fin ?_⟩
      simp only [if_neg v0, if_pos v1]
      refine Ev.bind e4 ?_
      have e : (⟨(l.map sgn).toArray⟩ : ByteArray) ++ (⟨#[40, 48, 41]⟩ : ByteArray) = textOf l [false] := by
        apply chrs_inj; rw [chrs_append, chrs_textOf]; simp [chrs, sgn]
      simp only [sl, if_pos (show l.length + 3 ≤ 9223372036854775807 by omega), e]
      exact Ev.now _
    · have hz := textOf_size t r
      by_cases v2 : (v : Int) = 2
      · refine ⟨_, p2 + 1, few_cut (t := t) (r := r) (by omega) hr1 (by omega), by omega, fin ?_⟩
        simp only [if_neg v0, if_neg v1, if_pos v2, textOf_eq]
        simp only [if_pos (show (1 : Int) ≤ ((textOf t r).size : Int) by omega), if_pos (show 1 + ((textOf t r).extract 1 (textOf t r).size).size ≤ 9223372036854775807 by simp; omega)]
        exact Ev.now _
      · refine ⟨textOf t r, p2 + 1, few_text (by omega) hr1 (by omega), by omega, fin ?_⟩
        simp only [if_neg v0, if_neg v1, if_neg v2, textOf_eq]
        exact Ev.now _

end Go.Proofs.Yticdcfgjpopkoaa.P

-- spec.l1Signs and spec.l1Read read what parse tells.
namespace Go.Proofs.Yticdcfgjpopkoaa.P
open Go.RowKit Go.Proofs.YticdcfgjpopkoaaW.PrintWords Go.Proofs.YticdcfgjpopkoaaW.PrintLast Go.Proofs.YticdcfgjpopkoaaW.PrintMore
set_option linter.unusedVariables false
set_option linter.unusedSimpArgs false
theorem signs_ev (s : ByteArray) (hs : s.size ≤ 70368744177664) : ∀ (d : Nat) (i : Nat) (acc : List Bool), i ≤ s.size → s.size - i = d → acc.length ≤ i →
    Ev (fun k => spec_l1Signs.l0 k s acc i) (match bitsL ((chrs s).drop i) with | some l => (acc ++ l, true) | none => ([], false)) := by
  intro d
  induction d with
  | zero =>
    intro i acc hi hd ha
    refine Ev.step (f := fun k => some (acc, true)) (fun k => ?_) ?_
    · simp only [spec_l1Signs.l0]; rw [if_neg (by omega)]
    · have : (chrs s).drop i = [] := by rw [List.drop_eq_nil_iff, chrs_length]; omega
      rw [this]; simp only [bitsL, List.append_nil]; exact Ev.now _
  | succ d ih =>
    intro i acc hi hd ha
    have hlt : i < s.size := by omega
    have hl : i < (chrs s).length := by rw [chrs_length]; exact hlt
    have hdrop : (chrs s).drop i = (chrs s)[i] :: (chrs s).drop (i + 1) := List.drop_eq_getElem_cons hl
    have hw : wrap64 ((i : Int) + 1) = ((i + 1 : Nat) : Int) := by rw [w64 (by omega) (by omega)]; omega
    have hb := bt_chr s hlt
    rw [hdrop]
    by_cases c0 : (chrs s)[i] = 48
    · have e : bt s (i : Int) = 48 := by rw [hb, c0]; rfl
      refine Ev.step (f := fun k => spec_l1Signs.l0 k s (acc ++ [false]) ((i + 1 : Nat) : Int)) (fun k => ?_) ?_
      · simp only [spec_l1Signs.l0]; rw [if_pos (by omega), if_pos (by omega), if_pos e, if_pos (by omega), hw, e]; rfl
      · have := ih (i + 1) (acc ++ [false]) (by omega) (by omega) (by simp; omega)
        simp only [bitsL, if_pos c0]
        cases h : bitsL ((chrs s).drop (i + 1)) with
        | none => rw [h] at this; exact this
        | some l => rw [h] at this; simpa using this
    · by_cases c1 : (chrs s)[i] = 49
      · have e : bt s (i : Int) = 49 := by rw [hb, c1]; rfl
        refine Ev.step (f := fun k => spec_l1Signs.l0 k s (acc ++ [true]) ((i + 1 : Nat) : Int)) (fun k => ?_) ?_
        · simp only [spec_l1Signs.l0]; rw [if_pos (by omega), if_pos (by omega), if_neg (by omega), if_pos e, if_pos (by omega), hw]
        · have := ih (i + 1) (acc ++ [true]) (by omega) (by omega) (by simp; omega)
          simp only [bitsL, if_neg c0, if_pos c1]
          cases h : bitsL ((chrs s).drop (i + 1)) with
          | none => rw [h] at this; exact this
          | some l => rw [h] at this; simpa using this
      · refine Ev.step (f := fun k => some (([] : List Bool), false)) (fun k => ?_) ?_
        · have e0 : ¬ bt s (i : Int) = 48 := by rw [hb]; intro h; exact c0 ((u8_eq (n := 48) (by omega)).1 h)
          have e1 : ¬ bt s (i : Int) = 49 := by rw [hb]; intro h; exact c1 ((u8_eq (n := 49) (by omega)).1 h)
          simp only [spec_l1Signs.l0]; rw [if_pos (by omega), if_pos (by omega), if_neg e0, if_neg e1]
        · simp only [bitsL, if_neg c0, if_neg c1]; exact Ev.now _

theorem signs_f (s : ByteArray) (hs : s.size ≤ 70368744177664) : Ev (fun k => spec_l1Signs.f k s) (match bitsL (chrs s) with | some l => (l, true) | none => ([], false)) := by
  have := signs_ev s hs s.size 0 [] (by omega) (by omega) (by simp)
  simpa [spec_l1Signs.f] using this
theorem read_j2 (s : ByteArray) (hs : s.size ≤ 70368744177664) (t r : List Bool) (hc : (chrs s).findIdx (· == 40) + 2 < s.size) :
    Ev (fun k => spec_l1Read.j2 k s ((chrs s).findIdx (· == 40) : Nat) (bt s ((s.size - 1 : Nat) : Int) != 41) t r) (parsed s t r) := by
  generalize hp : (chrs s).findIdx (· == 40) = p at hc
  by_cases hl : (chrs s)[s.size - 1]? = some 41
  · have e : (bt s ((s.size - 1 : Nat) : Int) != 41) = false := by
      have := (bt_eq' s (i := s.size - 1) (by omega) 41 (by omega)).2 hl
      rw [this]; decide
    rw [e]
    have w1 : wrap64 ((p : Int) + 1) = ((p + 1 : Nat) : Int) := by rw [w64 (by omega) (by omega)]; omega
    have w2 : wrap64 ((s.size : Int) - 1) = ((s.size - 1 : Nat) : Int) := by rw [w64 (by omega) (by omega)]; omega
    have h1 := signs_f (s.extract 0 p) (by simp; omega)
    have h2 := signs_f (s.extract (p + 1) (s.size - 1)) (by simp; omega)
    rw [chrs_extract] at h1 h2
    simp only [List.drop_zero] at h1
    have hP : parse (chrs s) = match bitsL ((chrs s).take p), bitsL (((chrs s).take (s.size - 1)).drop (p + 1)) with
        | some a, some b => if a.length ≤ 60 ∧ b.length ≤ 60 then some (a, b) else none
        | _, _ => none := by
      unfold parse; rw [hp, chrs_length, if_pos ⟨hc, hl⟩] <;> rfl
    refine Ev.step (f := fun k => (spec_l1Signs.f k (s.extract 0 p)).bind fun bt231 => ((spec_l1Signs.f k (s.extract (p + 1) (s.size - 1))).bind fun bt235 => (if bt231.2 = true then (if bt235.2 = true then (if (bt231.1.length : Int) > 60 then (some (t, r, false)) else (if (bt235.1.length : Int) > 60 then (some (t, r, false)) else (some (bt231.1, bt235.1, true)))) else (some (t, r, false))) else (some (t, r, false))))) (fun k => ?_) ?_
    · simp only [spec_l1Read.j2]
      rw [if_neg (by decide), if_pos (by omega), if_pos (by omega), w1, w2]
      simp only [Int.toNat_natCast]
      congr 1; funext x
      rw [if_pos (by omega), if_pos (by omega), if_pos (by omega)]
    · refine Ev.bind h1 (Ev.bind h2 ?_)
      unfold parsed; rw [hP]
      cases b1 : bitsL ((chrs s).take p) with
      | none => exact Ev.now _
      | some a =>
        cases b2 : bitsL (((chrs s).take (s.size - 1)).drop (p + 1)) with
        | none => exact Ev.now _
        | some b =>
          simp only [if_true]
          by_cases la : a.length ≤ 60
          · by_cases lb : b.length ≤ 60
            · rw [if_neg (by omega), if_neg (by omega), if_pos ⟨la, lb⟩]; exact Ev.now _
            · rw [if_neg (by omega), if_pos (by omega), if_neg (by omega)]; exact Ev.now _
          · rw [if_pos (by omega), if_neg (by omega)]; exact Ev.now _
  · have e : (bt s ((s.size - 1 : Nat) : Int) != 41) = true := by
      rw [bne_iff_ne]; intro h; exact hl ((bt_eq' s (i := s.size - 1) (by omega) 41 (by omega)).1 h)
    rw [e]
    have hP : parse (chrs s) = none := by unfold parse; rw [hp, chrs_length, if_neg (by rintro ⟨_, h⟩; exact hl h)]
    refine Ev.step (f := fun k => some (t, r, false)) (fun k => ?_) ?_
    · simp only [spec_l1Read.j2]; rw [if_pos trivial]
    · unfold parsed; rw [hP]; exact Ev.now _

theorem read_j1 (s : ByteArray) (hs : s.size ≤ 70368744177664) (t r : List Bool) :
    Ev (fun k => spec_l1Read.j1 k s ((chrs s).findIdx (· == 40) : Nat) t r) (parsed s t r) := by
  have hp := (chrs s).findIdx_le_length (p := (· == 40))
  rw [chrs_length] at hp
  by_cases hc : (chrs s).findIdx (· == 40) + 2 < s.size
  · have w2 : wrap64 ((s.size : Int) - 1) = ((s.size - 1 : Nat) : Int) := by rw [w64 (by omega) (by omega)]; omega
    refine Ev.step (fun k => ?_) (read_j2 s hs t r hc)
    simp only [spec_l1Read.j1]
    rw [w2, w64 (x := ((chrs s).findIdx (· == 40) : Int) + 2) (by omega) (by omega), if_neg (by omega), if_pos (by omega), if_pos (by omega)]
  · have hP : parse (chrs s) = none := by unfold parse; rw [chrs_length, if_neg (by rintro ⟨h, _⟩; exact hc h)]
    refine Ev.step (f := fun k => spec_l1Read.j2 k s ((chrs s).findIdx (· == 40) : Nat) true t r) (fun k => ?_) (Ev.step (f := fun k => some (t, r, false)) (fun k => ?_) ?_)
    · simp only [spec_l1Read.j1]
      rw [w64 (x := ((chrs s).findIdx (· == 40) : Int) + 2) (by omega) (by omega), if_pos (by omega)]
    · simp only [spec_l1Read.j2]; rw [if_pos trivial]
    · unfold parsed; rw [hP]; exact Ev.now _

theorem read_l0 (s : ByteArray) (hs : s.size ≤ 70368744177664) (t r : List Bool) : ∀ (d i : Nat), i ≤ (chrs s).findIdx (· == 40) → (chrs s).findIdx (· == 40) - i = d →
    Ev (fun k => spec_l1Read.l0 k s i t r) (parsed s t r) := by
  have hp := (chrs s).findIdx_le_length (p := (· == 40))
  rw [chrs_length] at hp
  intro d
  induction d with
  | zero =>
    intro i hi hd
    have e : (chrs s).findIdx (· == 40) = i := by omega
    refine Ev.step (fun k => ?_) (read_j1 s hs t r)
    simp only [spec_l1Read.l0]
    by_cases hlt : i < s.size
    · have h1 : bt s (i : Int) = 40 := by
        refine (bt_eq s hlt 40 (by omega)).2 ?_
        have := List.findIdx_getElem (p := (· == 40)) (xs := chrs s) (w := by rw [e, chrs_length]; exact hlt)
        simpa [e] using this
      rw [if_pos (by omega), if_pos (by omega), if_pos h1, e]
    · rw [if_neg (by omega), e]
  | succ d ih =>
    intro i hi hd
    have hlt : i < s.size := by omega
    have h1 : ¬ bt s (i : Int) = 40 := by
      refine fun hb => absurd ((bt_eq s hlt 40 (by omega)).1 hb) ?_
      have := List.not_of_lt_findIdx (p := (· == 40)) (xs := chrs s) (i := i) (by omega)
      simpa using this
    have hw : wrap64 ((i : Int) + 1) = ((i + 1 : Nat) : Int) := by rw [w64 (by omega) (by omega)]; omega
    refine Ev.step (fun k => ?_) (ih (i + 1) (by omega) (by omega))
    simp only [spec_l1Read.l0]
    rw [if_pos (by omega), if_pos (by omega), if_neg h1, hw]

theorem read_f (s : ByteArray) (hs : s.size ≤ 70368744177664) : Ev (fun k => spec_l1Read.f k s) (parsed s [] [false]) := by
  have := read_l0 s hs [] [false] _ 0 (by omega) rfl
  simpa [spec_l1Read.f] using this

end Go.Proofs.Yticdcfgjpopkoaa.P

-- spec.l4Small reads a small set, tidily.
namespace Go.Proofs.Yticdcfgjpopkoaa.P
open Go.RowKit Go.Proofs.YticdcfgjpopkoaaW.PrintWords Go.Proofs.YticdcfgjpopkoaaW.PrintLast Go.Proofs.YticdcfgjpopkoaaW.PrintMore
set_option linter.unusedVariables false
set_option linter.unusedSimpArgs false

theorem l4small_f (s : ByteArray) (hs : s.size ≤ 70368744177664) : ∃ x y, Ev (fun k => spec_l4Small.f k s) (x, y, smallB (chrs s)) ∧ ((parse (chrs s)).isSome = true → x = (cn (setf (chrs s))).1 ∧ y = (cn (setf (chrs s))).2) := by
  have h := read_f s hs
  unfold parsed at h
  unfold smallB
  cases hp : parse (chrs s) with
  | none =>
    rw [hp] at h
    refine ⟨[], [false], ?_, fun h => by simp at h⟩
    refine Ev.congr (fun k => rfl) (Ev.bind h ?_)
    simp only [Bool.false_eq_true, if_false, Option.isSome_none, Bool.false_and]
    exact Ev.now _
  | some ab =>
    rw [hp] at h
    have hset := setf_some (a := ab.1) (b := ab.2) hp
    have hb := parse_some (a := ab.1) (b := ab.2) hp
    have hl := less_cn ab.1 ab.2 hb.2.2 (by omega)
    refine ⟨(cn (hasB ab.1 ab.2)).1, (cn (hasB ab.1 ab.2)).2, ?_, fun _ => by rw [hset]; exact ⟨rfl, rfl⟩⟩
    refine Ev.congr (fun k => rfl) (Ev.bind h ?_)
    rw [hset, Option.isSome_some, Bool.true_and]
    simp only [if_true]
    refine Ev.bind hl ?_
    by_cases h1 : (cn (hasB ab.1 ab.2)).1.length ≤ 8
    · by_cases h2 : (cn (hasB ab.1 ab.2)).2.length ≤ 8
      · rw [dec_true (show Small _ from ⟨h1, h2⟩)]
        simp only [if_pos (show ((cn (hasB ab.1 ab.2)).1.length : Int) ≤ 8 by omega), decide_eq_true (show ((cn (hasB ab.1 ab.2)).2.length : Int) ≤ 8 by omega)]
        exact Ev.now _
      · rw [dec_false (fun h : Small _ => h2 h.2)]
        simp only [if_pos (show ((cn (hasB ab.1 ab.2)).1.length : Int) ≤ 8 by omega), decide_eq_false (show ¬ ((cn (hasB ab.1 ab.2)).2.length : Int) ≤ 8 by omega)]
        exact Ev.now _
    · rw [dec_false (fun h : Small _ => h1 h.1)]
      simp only [if_neg (show ¬ ((cn (hasB ab.1 ab.2)).1.length : Int) ≤ 8 by omega)]
      exact Ev.now _
end Go.Proofs.Yticdcfgjpopkoaa.P

-- impl.setOf reads what parse tells.
namespace Go.Proofs.Yticdcfgjpopkoaa.P
open Go.RowKit Go.Proofs.YticdcfgjpopkoaaW.PrintWords Go.Proofs.YticdcfgjpopkoaaW.PrintLast Go.Proofs.YticdcfgjpopkoaaW.PrintMore
set_option linter.unusedVariables false
set_option linter.unusedSimpArgs false
theorem index1_f (s : ByteArray) (c : UInt8) : stringslite_Index.f s ⟨#[c]⟩ = some (if (chrs s).findIdx (· == c) < s.size then (((chrs s).findIdx (· == c) : Nat) : Int) else -1) := by
  unfold stringslite_Index.f; rw [if_pos (show (⟨#[c]⟩ : ByteArray).size = 1 from rfl)]; rfl
theorem cut_f (s : ByteArray) (c : UInt8) (hs : s.size ≤ 70368744177664) : strings_Cut.f s ⟨#[c]⟩ = some (if (chrs s).findIdx (· == c) < s.size then (s.extract 0 ((chrs s).findIdx (· == c)), s.extract ((chrs s).findIdx (· == c) + 1) s.size, true) else (s, ⟨#[]⟩, false)) := by
  unfold strings_Cut.f stringslite_Cut.f
  rw [index1_f]
  simp only [Option.bind_some]
  generalize (chrs s).findIdx (· == c) = p
  by_cases h : p < s.size
  · rw [if_pos h]
    have hw : wrap64 ((p : Int) + ((⟨#[c]⟩ : ByteArray).size : Int)) = ((p + 1 : Nat) : Int) := by
      have : (⟨#[c]⟩ : ByteArray).size = 1 := rfl
      rw [this, w64 (by omega) (by omega)]; omega
    rw [if_pos (by omega), if_pos (by omega), if_pos (by omega), hw, if_pos (by omega), if_pos (by omega), if_pos h]
    simp only [Int.toNat_natCast, Option.bind_some]
  · rw [if_neg h, if_neg (by omega), if_neg h]; rfl
theorem suffix_f (s : ByteArray) (c : UInt8) (hs : s.size ≤ 70368744177664) : strings_CutSuffix.f s ⟨#[c]⟩ = some (if (chrs s)[s.size - 1]? = some c then (s.extract 0 (s.size - 1), true) else (s, false)) := by
  unfold strings_CutSuffix.f stringslite_CutSuffix.f stringslite_HasSuffix.f
  have h1 : (⟨#[c]⟩ : ByteArray).size = 1 := rfl
  rw [h1]
  by_cases h : s.size = 0
  · rw [if_neg (by omega)]
    have : chrs s = [] := List.eq_nil_of_length_eq_zero (by rw [chrs_length]; exact h)
    simp [this]
  · have hw : wrap64 ((s.size : Int) - ((1 : Nat) : Int)) = ((s.size - 1 : Nat) : Int) := by rw [w64 (by omega) (by omega)]; omega
    rw [if_pos (by omega), hw, if_pos (by omega), if_pos (by omega)]
    simp only [Option.bind_some, Int.toNat_natCast]
    have e : (((s.extract (s.size - 1) s.size).toList == (⟨#[c]⟩ : ByteArray).toList) = true) ↔ (chrs s)[s.size - 1]? = some c := by
      rw [beq_iff_eq, ByteArray.toList_eq, ByteArray.toList_eq]
      show chrs _ = [c] ↔ _
      rw [chrs_extract, List.take_of_length_le (by rw [chrs_length]; omega)]
      have hl : s.size - 1 < (chrs s).length := by rw [chrs_length]; omega
      rw [List.drop_eq_getElem_cons hl, List.drop_of_length_le (by rw [chrs_length]; omega), List.getElem?_eq_getElem hl]
      simp
    by_cases hc : (chrs s)[s.size - 1]? = some c
    · rw [if_pos (e.2 hc), if_pos (by omega), if_pos (by omega), if_pos hc]; rfl
    · rw [if_neg (fun h => hc (e.1 h)), if_neg hc]; rfl

theorem isigns_ev (s : ByteArray) (hs : s.size ≤ 70368744177664) : ∀ (d : Nat) (i : Nat) (acc : List Bool), i ≤ s.size → s.size - i = d → acc.length ≤ i →
    Ev (fun k => impl_signs.l0 k acc (bytesOf s) ((bytesOf s).length : Int) i) (match bitsL ((chrs s).drop i) with | some l => (acc ++ l, decide ((acc ++ l).length ≤ 60)) | none => ([], false)) := by
  intro d
  induction d with
  | zero =>
    intro i acc hi hd ha
    refine Ev.step (f := fun k => some (acc, decide ((acc.length : Int) ≤ 60))) (fun k => ?_) ?_
    · simp only [impl_signs.l0, bytesOf_length]; rw [if_neg (by omega)]
    · have : (chrs s).drop i = [] := by rw [List.drop_eq_nil_iff, chrs_length]; omega
      rw [this]; simp only [bitsL, List.append_nil]
      have e : decide ((acc.length : Int) ≤ 60) = decide (acc.length ≤ 60) := by apply decide_eq_decide.2; omega
      rw [e]; exact Ev.now _
  | succ d ih =>
    intro i acc hi hd ha
    have hlt : i < s.size := by omega
    have hl : i < (chrs s).length := by rw [chrs_length]; exact hlt
    have hdrop : (chrs s).drop i = (chrs s)[i] :: (chrs s).drop (i + 1) := List.drop_eq_getElem_cons hl
    have hw : wrap64 ((i : Int) + 1) = ((i + 1 : Nat) : Int) := by rw [w64 (by omega) (by omega)]; omega
    have hb := bt_chr s hlt
    rw [hdrop]
    by_cases c0 : (chrs s)[i] = 48
    · have e : bt s (i : Int) = 48 := by rw [hb, c0]; rfl
      refine Ev.step (f := fun k => impl_signs.l0 k (acc ++ [false]) (bytesOf s) ((bytesOf s).length : Int) ((i + 1 : Nat) : Int)) (fun k => ?_) ?_
      · simp only [impl_signs.l0, bytesOf_length, rd_bytesOf]; rw [if_pos (by omega), if_pos (by omega), if_pos (by omega), if_pos e, if_pos (by omega), hw, e]; rfl
      · have := ih (i + 1) (acc ++ [false]) (by omega) (by omega) (by simp; omega)
        simp only [bitsL, if_pos c0]
        cases h : bitsL ((chrs s).drop (i + 1)) with
        | none => rw [h] at this; exact this
        | some l => rw [h] at this; simpa using this
    · by_cases c1 : (chrs s)[i] = 49
      · have e : bt s (i : Int) = 49 := by rw [hb, c1]; rfl
        refine Ev.step (f := fun k => impl_signs.l0 k (acc ++ [true]) (bytesOf s) ((bytesOf s).length : Int) ((i + 1 : Nat) : Int)) (fun k => ?_) ?_
        · simp only [impl_signs.l0, bytesOf_length, rd_bytesOf]; rw [if_pos (by omega), if_pos (by omega), if_pos (by omega), if_neg (by omega), if_pos e, if_pos (by omega), hw]
        · have := ih (i + 1) (acc ++ [true]) (by omega) (by omega) (by simp; omega)
          simp only [bitsL, if_neg c0, if_pos c1]
          cases h : bitsL ((chrs s).drop (i + 1)) with
          | none => rw [h] at this; exact this
          | some l => rw [h] at this; simpa using this
      · refine Ev.step (f := fun k => some (([] : List Bool), false)) (fun k => ?_) ?_
        · have e0 : ¬ bt s (i : Int) = 48 := by rw [hb]; intro h; exact c0 ((u8_eq (n := 48) (by omega)).1 h)
          have e1 : ¬ bt s (i : Int) = 49 := by rw [hb]; intro h; exact c1 ((u8_eq (n := 49) (by omega)).1 h)
          simp only [impl_signs.l0, bytesOf_length, rd_bytesOf]; rw [if_pos (by omega), if_pos (by omega), if_pos (by omega), if_neg e0, if_neg e1]
        · simp only [bitsL, if_neg c0, if_neg c1]; exact Ev.now _

/-- What impl.signs answers. -/
def sgns (s : List UInt8) : List Bool × Bool := match bitsL s with | some l => (l, decide (l.length ≤ 60)) | none => ([], false)
theorem isigns_f (s : ByteArray) (hs : s.size ≤ 70368744177664) : Ev (fun k => impl_signs.f k s) (sgns (chrs s)) := by
  have := isigns_ev s hs s.size 0 [] (by omega) (by omega) (by simp)
  unfold sgns
  refine Ev.congr (fun k => ?_) (by simpa using this)
  unfold impl_signs.f bytesConv.f; rw [if_pos hs]; simp only [Option.bind_some, bytesOf_length]

/-- What impl.setOf answers, out of its parts. -/
def setFin (o e : Bool) (X Y : List Bool × Bool) : List Bool × List Bool × Bool := (X.1, Y.1, o && e && X.2 && Y.2 && decide (0 < Y.1.length))
theorem setOf_ev (s A R B : ByteArray) (o e : Bool) (h1 : strings_Cut.f s ⟨#[40]⟩ = some (A, R, o)) (h2 : strings_CutSuffix.f R ⟨#[41]⟩ = some (B, e)) (hA : A.size ≤ 70368744177664) (hB : B.size ≤ 70368744177664) :
    Ev (fun k => impl_setOf.f k s) (setFin o e (sgns (chrs A)) (sgns (chrs B))) := by
  refine Ev.congr (f := fun k => (impl_signs.f k A).bind fun X => (impl_signs.f k B).bind fun Y => some (setFin o e X Y)) (fun k => ?_) (Ev.bind (isigns_f A hA) (Ev.bind (isigns_f B hB) (Ev.now _)))
  unfold impl_setOf.f
  rw [h1]
  simp only [Option.bind_some]
  rw [h2]
  simp only [Option.bind_some]
  congr 1; funext X; congr 1; funext Y
  unfold setFin
  have ed : decide ((Y.1.length : Int) > 0) = decide (0 < Y.1.length) := by apply decide_eq_decide.2; omega
  rw [ed]
  cases o <;> cases e <;> rcases X with ⟨x, _ | _⟩ <;> rcases Y with ⟨y, _ | _⟩ <;> simp

theorem setOf_f (s : ByteArray) (hs : s.size ≤ 70368744177664) : ∃ x y, Ev (fun k => impl_setOf.f k s) (x, y, (parse (chrs s)).isSome) ∧ ∀ a b, parse (chrs s) = some (a, b) → x = a ∧ y = b := by
  have hp := (chrs s).findIdx_le_length (p := (· == 40))
  rw [chrs_length] at hp
  have h1 := cut_f s 40 hs
  -- out of the parts
  have fin : ∀ A R B o e, strings_Cut.f s ⟨#[40]⟩ = some (A, R, o) → strings_CutSuffix.f R ⟨#[41]⟩ = some (B, e) → A.size ≤ s.size → B.size ≤ s.size → (setFin o e (sgns (chrs A)) (sgns (chrs B))).2.2 = (parse (chrs s)).isSome → (∀ a b, parse (chrs s) = some (a, b) → (sgns (chrs A)).1 = a ∧ (sgns (chrs B)).1 = b) →
      ∃ x y, Ev (fun k => impl_setOf.f k s) (x, y, (parse (chrs s)).isSome) ∧ ∀ a b, parse (chrs s) = some (a, b) → x = a ∧ y = b := fun A R B o e g1 g2 g3 g4 g5 g6 => by
    have := setOf_ev s A R B o e g1 g2 (by omega) (by omega)
    refine ⟨(sgns (chrs A)).1, (sgns (chrs B)).1, ?_, g6⟩
    rw [← g5]; exact this
  by_cases h : (chrs s).findIdx (· == 40) < s.size
  · rw [if_pos h] at h1
    have hsz : (s.extract ((chrs s).findIdx (· == 40) + 1) s.size).size = s.size - ((chrs s).findIdx (· == 40) + 1) := by simp
    have h2 := suffix_f (s.extract ((chrs s).findIdx (· == 40) + 1) s.size) 41 (by omega)
    have he : (chrs (s.extract ((chrs s).findIdx (· == 40) + 1) s.size))[(s.extract ((chrs s).findIdx (· == 40) + 1) s.size).size - 1]? = if (chrs s).findIdx (· == 40) + 1 < s.size then (chrs s)[s.size - 1]? else none := by
      rw [chrs_extract, List.take_of_length_le (by rw [chrs_length]; omega), hsz, List.getElem?_drop]
      split
      · congr 1; omega
      · exact List.getElem?_eq_none (by rw [chrs_length]; omega)
    rw [he] at h2
    have hP : parse (chrs s) = if (chrs s).findIdx (· == 40) + 2 < s.size ∧ (chrs s)[s.size - 1]? = some 41 then
        match bitsL ((chrs s).take ((chrs s).findIdx (· == 40))), bitsL (((chrs s).take (s.size - 1)).drop ((chrs s).findIdx (· == 40) + 1)) with
        | some a, some b => if a.length ≤ 60 ∧ b.length ≤ 60 then some (a, b) else none
        | _, _ => none else none := by unfold parse; rw [chrs_length] <;> rfl
    have hc1 : chrs (s.extract 0 ((chrs s).findIdx (· == 40))) = (chrs s).take ((chrs s).findIdx (· == 40)) := by rw [chrs_extract, List.drop_zero]
    have hA : (s.extract 0 ((chrs s).findIdx (· == 40))).size ≤ s.size := by simp; omega
    generalize hq : (chrs s).findIdx (· == 40) = p at *
    by_cases h3 : (if p + 1 < s.size then (chrs s)[s.size - 1]? else none) = some 41
    · rw [if_pos h3] at h2
      have h4 : p + 1 < s.size := by
        refine Classical.byContradiction fun hn => ?_
        rw [if_neg hn] at h3; cases h3
      rw [if_pos h4] at h3
      have hc2 : chrs ((s.extract (p + 1) s.size).extract 0 ((s.extract (p + 1) s.size).size - 1)) = ((chrs s).take (s.size - 1)).drop (p + 1) := by
        rw [chrs_extract, chrs_extract, List.drop_zero, show (chrs s).take s.size = chrs s from List.take_of_length_le (by rw [chrs_length]; omega), hsz, List.drop_take]
        congr 1; omega
      have hl2 : (((chrs s).take (s.size - 1)).drop (p + 1)).length = s.size - 1 - (p + 1) := by rw [List.length_drop, List.length_take, chrs_length]; omega
      have hP2 : parse (chrs s) = match bitsL ((chrs s).take p), bitsL (((chrs s).take (s.size - 1)).drop (p + 1)) with
          | some a, some b => if p + 2 < s.size ∧ (a.length ≤ 60 ∧ b.length ≤ 60) then some (a, b) else none
          | _, _ => none := by
        rw [hP]
        by_cases h5 : p + 2 < s.size
        · rw [if_pos ⟨h5, h3⟩]
          split <;> simp_all
        · rw [if_neg (by rintro ⟨x, _⟩; exact h5 x)]
          split
          · rw [if_neg (by rintro ⟨x, _⟩; exact h5 x)]
          · rfl
      refine fin _ _ _ _ _ h1 h2 hA (by simp; omega) ?_ ?_
      · rw [hc1, hc2, hP2]
        unfold setFin sgns
        cases b1 : bitsL ((chrs s).take p) with
        | none => simp
        | some a =>
          cases b2 : bitsL (((chrs s).take (s.size - 1)).drop (p + 1)) with
          | none => simp
          | some b =>
            have hbl := bitsL_length b2
            rw [hl2] at hbl
            have hb0 : decide (0 < b.length) = decide (p + 2 < s.size) := by apply decide_eq_decide.2; omega
            simp only [hb0]
            by_cases la : a.length ≤ 60 <;> by_cases lb : b.length ≤ 60 <;> by_cases h5 : p + 2 < s.size <;> simp [la, lb, h5]
      · rw [hc1, hc2, hP2]
        unfold sgns
        intro a' b' hab
        cases b1 : bitsL ((chrs s).take p) with
        | none => rw [b1] at hab; cases hab
        | some a =>
          cases b2 : bitsL (((chrs s).take (s.size - 1)).drop (p + 1)) with
          | none => rw [b1, b2] at hab; cases hab
          | some b =>
            rw [b1, b2] at hab
            simp only at hab
            split at hab
            · simp only [Option.some.injEq, Prod.mk.injEq] at hab; exact hab
            · cases hab
    · rw [if_neg h3] at h2
      have hPn : parse (chrs s) = none := by
        rw [hP, if_neg]
        rintro ⟨x, y⟩
        exact h3 (by rw [if_pos (by omega)]; exact y)
      refine fin _ _ _ _ _ h1 h2 hA (by simp) ?_ ?_
      · rw [hPn]; simp [setFin]
      · intro a b hab; rw [hPn] at hab; cases hab
  · rw [if_neg h] at h1
    have hPn : parse (chrs s) = none := by
      unfold parse; rw [chrs_length, if_neg]; rintro ⟨x, _⟩; omega
    have h2 := suffix_f (⟨#[]⟩ : ByteArray) 41 (by decide)
    rw [if_neg (by rw [byteArray_empty_chrs]; simp)] at h2
    refine fin _ _ _ _ _ h1 h2 (Nat.le_refl _) (by show 0 ≤ _; omega) ?_ ?_
    · rw [hPn]; simp [setFin]
    · intro a b hab; rw [hPn] at hab; cases hab

end Go.Proofs.Yticdcfgjpopkoaa.P

-- impl.star marks the numbers of a star; impl.set.least.
namespace Go.Proofs.Yticdcfgjpopkoaa.P
open Go.RowKit Go.Proofs.YticdcfgjpopkoaaW.PrintWords Go.Proofs.YticdcfgjpopkoaaW.PrintLast Go.Proofs.YticdcfgjpopkoaaW.PrintMore
set_option linter.unusedVariables false
set_option linter.unusedSimpArgs false

/-- Whether a number is 0, or a part less than k and one of the star. -/
noncomputable def stU (f : Nat → Bool) (n k : Nat) : Bool := dec (n = 0 ∨ ∃ j, 1 ≤ j ∧ j < k ∧ j ≤ n ∧ f j = true ∧ stq f (n - j) = true)
theorem stU_true {f : Nat → Bool} {n k : Nat} (h : stU f n k = true) : stq f n = true := by
  rcases dec_iff.1 h with rfl | ⟨j, h1, h2, h3, h4, h5⟩
  · exact stq_iff.2 (St.zero f)
  · have := (St.of (by omega) h4).add (stq_iff.1 h5)
    rw [show j + (n - j) = n by omega] at this
    exact stq_iff.2 this
theorem stU_end {f : Nat → Bool} {n k : Nat} (hk : n < k) : stU f n k = stq f n := by
  rw [Bool.eq_iff_iff]
  constructor
  · exact stU_true
  · intro h
    rcases Nat.eq_zero_or_pos n with rfl | hn
    · exact dec_true (.inl rfl)
    · obtain ⟨j, h1, h2, h3, h4⟩ := (stq_iff.1 h).step hn
      exact dec_true (.inr ⟨j, h1, by omega, h2, h3, stq_iff.2 h4⟩)
theorem stU_step {f : Nat → Bool} {n k : Nat} (h1 : 1 ≤ k) (hk : k ≤ n) (h : stU f n k = false) : stU f n (k + 1) = (f k && stq f (n - k)) := by
  rw [Bool.eq_iff_iff, Bool.and_eq_true]
  constructor
  · intro h2
    rcases dec_iff.1 h2 with h3 | ⟨j, a, b, c, d, e⟩
    · omega
    · rcases Nat.lt_or_ge j k with x | x
      · have : stU f n k = true := dec_true (.inr ⟨j, a, x, c, d, e⟩)
        rw [h] at this; cases this
      · rw [show j = k by omega] at d e; exact ⟨d, e⟩
  · rintro ⟨a, b⟩; exact dec_true (.inr ⟨k, h1, by omega, hk, a, b⟩)
theorem stU_one {f : Nat → Bool} {n : Nat} : stU f n 1 = ((n : Int) == 0) := by
  rw [Bool.eq_iff_iff, beq_iff_eq]
  constructor
  · intro h
    rcases dec_iff.1 h with rfl | ⟨j, a, b, _⟩
    · rfl
    · omega
  · intro h; exact dec_true (.inl (by omega))
theorem star_l1 (a b : List Bool) (hb : b ≠ []) (h1 : a.length ≤ 60) (h2 : b.length ≤ 60) (n m N : Nat) (hn : n ≤ 100000) (hm : m ≤ 100000) (v : List Bool)
    (hv : Ev (fun k => impl_star.l0 k (mid (stq (hasB a b)) n (stq (hasB a b) n) m) N ((n + 1 : Nat) : Int) a b) v) : ∀ (e i : Nat), 1 ≤ i → i ≤ n + 1 → n + 1 - i = e →
    Ev (fun k => impl_star.l1 k (mid (stq (hasB a b)) n (stU (hasB a b) n i) m) n i N n a b) v := by
  have HV := Aside0.mk hv
  clear hv
  have cl : (n : Int) < ((mid (stq (hasB a b)) n true m).length : Int) := by rw [mid_length]; omega
  have c5 : n ≤ 4611686018427387904 := by omega
  have hlen : ∀ u u', ((mid (stq (hasB a b)) n u m).length : Int) = ((mid (stq (hasB a b)) n u' m).length : Int) := fun u u' => by rw [mid_length, mid_length]
  have c6 : (0 : Int) ≤ (n : Int) := by omega
  intro e
  induction e with
  | zero =>
    intro i hi1 hi he
    rw [stU_end (by omega)]
    refine Ev.step (fun k => ?_) HV.out
    simp only [impl_star.l1]
    rw [if_neg (by omega), wsucc c5]
  | succ e ih =>
    intro i hi1 hi he
    have d1 : (i : Int) ≤ (n : Int) := by omega
    have d2 : i ≤ n := by omega
    have d3 : i ≤ 4611686018427387904 := by omega
    have hih := ih (i + 1) (by omega) (by omega) (by omega)
    have e1 := ihas_f a b hb (by omega) i (by omega)
    have d4 : ((n - i : Nat) : Int) < ((mid (stq (hasB a b)) n false m).length : Int) := by rw [mid_length]; omega
    have d5 : (0 : Int) ≤ ((n - i : Nat) : Int) := by omega
    have d6 : n - i < n := by omega
    cases hu : stU (hasB a b) n i with
    | true =>
      have hq := stU_true hu
      have hv := HV.out
      rw [hq] at hv
      refine Ev.step (fun k => ?_) hv
      simp only [impl_star.l1]
      rw [if_pos d1, if_pos c6, if_pos cl, rdOf_nat, mid_self, if_pos (by trivial), wsucc c5]
    | false =>
      rw [stU_step hi1 d2 hu] at hih
      refine Ev.step (fun k => ?_) hih
      simp only [impl_star.l1]
      rw [if_pos d1, if_pos c6, hlen false true, if_pos cl, rdOf_nat, mid_self, if_neg (by decide), e1, Option.bind_some]
      cases hf : hasB a b i with
      | true =>
        rw [if_pos (by trivial), wsub d2 c5, if_pos d5, ← hlen false true, if_pos d4, rdOf_nat, mid_lt _ d6, Int.toNat_natCast, mid_set, wsucc d3, Bool.true_and]
      | false =>
        rw [if_neg (by decide), Int.toNat_natCast, mid_set, wsucc d3, Bool.false_and]
theorem star_l0 (a b : List Bool) (hb : b ≠ []) (h1 : a.length ≤ 60) (h2 : b.length ≤ 60) : ∀ (m n : Nat), n + m + 1 ≤ 100000 →
    Ev (fun k => impl_star.l0 k (mid (stq (hasB a b)) n false m) ((n + m + 1 : Nat) : Int) n a b) (mkT (stq (hasB a b)) (n + m + 1)) := by
  intro m
  induction m with
  | zero =>
    intro n hn
    have hfin : Ev (fun k => impl_star.l0 k (mid (stq (hasB a b)) n (stq (hasB a b) n) 0) ((n + 0 + 1 : Nat) : Int) ((n + 1 : Nat) : Int) a b) (mkT (stq (hasB a b)) (n + 0 + 1)) := by
      rw [mid_end]
      refine Ev.step (f := fun k => some (mkT (stq (hasB a b)) (n + 1))) (fun k => ?_) (Ev.now _)
      simp only [impl_star.l0]; rw [if_neg (Int.lt_irrefl _)]
    have hx := star_l1 a b hb h1 h2 n 0 (n + 0 + 1) (by omega) (by omega) _ hfin _ 1 (Nat.le_refl _) (by omega) rfl
    rw [stU_one] at hx
    have hl : ((mid (stq (hasB a b)) n false 0).length : Int) = ((n + 1 : Nat) : Int) := by rw [mid_length]
    refine Ev.step (fun k => ?_) hx
    simp only [impl_star.l0]
    rw [if_pos (by omega), if_pos (by omega), hl, if_pos (by omega), Int.toNat_natCast, mid_set]; rfl
  | succ m ih =>
    intro n hn
    have hih := ih (n + 1) (by omega)
    rw [← mid_next, show n + 1 + m + 1 = n + (m + 1) + 1 by omega] at hih
    have hx := star_l1 a b hb h1 h2 n (m + 1) (n + (m + 1) + 1) (by omega) (by omega) _ hih _ 1 (Nat.le_refl _) (by omega) rfl
    rw [stU_one] at hx
    have hl : ((mid (stq (hasB a b)) n false (m + 1)).length : Int) = ((n + 1 + (m + 1) : Nat) : Int) := by rw [mid_length]
    refine Ev.step (fun k => ?_) hx
    simp only [impl_star.l0]
    rw [if_pos (by omega), if_pos (by omega), hl, if_pos (by omega), Int.toNat_natCast, mid_set]; rfl
theorem star_f (a b : List Bool) (hb : b ≠ []) (h1 : a.length ≤ 60) (h2 : b.length ≤ 60) (N : Nat) (h0 : 0 < N) (hN : N ≤ 100000) : Ev (fun k => impl_star.f k a b N) (mkT (stq (hasB a b)) N) := by
  have h := star_l0 a b hb h1 h2 (N - 1) 0 (by omega)
  rw [show 0 + (N - 1) + 1 = N by omega, ← mid_start, show N - 1 + 1 = N by omega] at h
  refine Ev.congr (fun k => ?_) h
  unfold impl_star.f
  rw [if_pos (by omega), Int.toNat_natCast, if_pos (by omega), Option.bind_some, List.length_replicate]; rfl
end Go.Proofs.Yticdcfgjpopkoaa.P

-- impl.set.text writes the text of a set.
namespace Go.Proofs.Yticdcfgjpopkoaa.P
open Go.RowKit Go.Proofs.YticdcfgjpopkoaaW.PrintWords Go.Proofs.YticdcfgjpopkoaaW.PrintLast Go.Proofs.YticdcfgjpopkoaaW.PrintMore
set_option linter.unusedVariables false
set_option linter.unusedSimpArgs false

theorem told_f (l : List Bool) (h : l.length ≤ 70368744177664) : impl_told.f l = some ⟨(l.map sgn).toArray⟩ := by unfold impl_told.f; rw [if_pos h]
theorem text_f (t r : List Bool) (hl : t.length + r.length ≤ 70368744177664) : Ev (fun k => impl_set_text.f k t r) (txt (t, r)) := by
  have hj : ∀ b : Bool, (b = true ↔ ¬ (t.length ≤ 60 ∧ r.length ≤ 60)) → Ev (fun k => impl_set_text.j0 k b t r) (txt (t, r)) := by
    intro b hb
    cases b with
    | true =>
      refine Ev.step (f := fun k => some ((⟨#[]⟩ : ByteArray), false)) (fun k => ?_) ?_
      · simp only [impl_set_text.j0]; rw [if_pos trivial]
      · unfold txt; rw [if_neg (hb.1 rfl)]; exact Ev.now _
    | false =>
      have hb2 : t.length ≤ 60 ∧ r.length ≤ 60 := Classical.byContradiction fun h => absurd (hb.2 h) (by decide)
      have e1 : (⟨(t.map sgn).toArray⟩ : ByteArray).size = t.length := by show (t.map sgn).toArray.size = _; simp
      have e2 : (⟨(r.map sgn).toArray⟩ : ByteArray).size = r.length := by show (r.map sgn).toArray.size = _; simp
      refine Ev.step (f := fun k => some (textOf t r, true)) (fun k => ?_) ?_
      · simp only [impl_set_text.j0]
        rw [if_neg (by decide), told_f t (by omega)]
        simp only [Option.bind_some]
        rw [if_pos (by omega), told_f r (by omega)]
        simp only [Option.bind_some]
        rw [if_pos (by omega), if_pos (by omega)]
        congr 2
      · rw [txt_ok hb2.1 hb2.2]; exact Ev.now _
  unfold impl_set_text.f
  by_cases h : t.length ≤ 60
  · have h1 := hj (decide ((r.length : Int) > 60)) (by rw [decide_eq_true_iff]; omega)
    refine Ev.congr (fun k => ?_) h1
    rw [if_neg (by omega)]
  · have h1 := hj true (by simp; intro h2; omega)
    refine Ev.congr (fun k => ?_) h1
    rw [if_pos (by omega)]

end Go.Proofs.Yticdcfgjpopkoaa.P

-- impl.turns and tidy come to the tidy form.
namespace Go.Proofs.Yticdcfgjpopkoaa.P
open Go.RowKit Go.Proofs.YticdcfgjpopkoaaW.PrintWords Go.Proofs.YticdcfgjpopkoaaW.PrintLast Go.Proofs.YticdcfgjpopkoaaW.PrintMore
set_option linter.unusedVariables false
set_option linter.unusedSimpArgs false
theorem turns_l0 (r : List Bool) (d : Nat) (hd : 0 < d) (hdl : d ≤ r.length) (hl : r.length ≤ 70368744177664) : ∀ (m i : Nat), i ≤ r.length → r.length - i = m →
    (∀ j, j < i → r.getD j false = r.getD (j % d) false) → ∃ b, Ev (fun k => impl_turns.l0 k r d r.length i) b ∧ (b = true ↔ IsPer r d) := by
  intro m
  induction m with
  | zero =>
    intro i h1 h2 h3
    have e : i = r.length := by omega
    refine ⟨((r.length : Int) % (d : Int)) == 0, Ev.step (f := fun k => some (((r.length : Int) % (d : Int)) == 0)) (fun k => ?_) (Ev.now _), ?_⟩
    · simp only [impl_turns.l0]; rw [if_neg (by omega), if_neg (by omega)]
    · have hm : (r.length : Int) % (d : Int) = ((r.length % d : Nat) : Int) := rfl
      rw [beq_iff_eq, hm]
      constructor
      · intro h; exact IsPer.of_mod (by omega) hd (fun j hj => h3 j (by omega))
      · intro h; have := h.1; omega
  | succ m ih =>
    intro i h1 h2 h3
    have hmod : Int.tmod (i : Int) (d : Int) = ((i % d : Nat) : Int) := by rw [Int.tmod_eq_emod_of_nonneg (by omega)]; rfl
    have hml := Nat.mod_lt i hd
    have hw : wrap64 ((i : Int) + 1) = ((i + 1 : Nat) : Int) := by rw [w64 (by omega) (by omega)]; omega
    by_cases he : r.getD i false = r.getD (i % d) false
    · obtain ⟨b, hb, hbi⟩ := ih (i + 1) (by omega) (by omega) (fun j hj => by
        rcases Nat.lt_or_ge j i with h | h
        · exact h3 j h
        · have : j = i := by omega
          subst this; exact he)
      refine ⟨b, Ev.step (fun k => ?_) hb, hbi⟩
      simp only [impl_turns.l0]
      rw [if_pos (by omega), if_pos (by omega), if_pos (by omega), if_neg (by omega), hmod, if_pos (by omega), if_pos (by omega), rdOf_nat, rdOf_nat, if_neg (by rw [he]; simp), hw]
    · refine ⟨false, Ev.step (f := fun k => some false) (fun k => ?_) (Ev.now _), ?_⟩
      · simp only [impl_turns.l0]
        rw [if_pos (by omega), if_pos (by omega), if_pos (by omega), if_neg (by omega), hmod, if_pos (by omega), if_pos (by omega), rdOf_nat, rdOf_nat, if_pos (by rw [bne_iff_ne]; exact he)]
      · constructor
        · intro h; exact absurd h (by decide)
        · intro h; exact absurd (h.mod hd i (by omega)) he
theorem turns_f (r : List Bool) (d : Nat) (hd : 0 < d) (hdl : d ≤ r.length) (hl : r.length ≤ 70368744177664) : ∃ b, Ev (fun k => impl_turns.f k r d) b ∧ (b = true ↔ IsPer r d) := by
  obtain ⟨b, h, hb⟩ := turns_l0 r d hd hdl hl _ 0 (by omega) rfl (fun j hj => by omega)
  exact ⟨b, by simpa [impl_turns.f] using h, hb⟩
theorem clone_f (l : List Bool) (h : l.length ≤ 70368744177664) : slices_Clone_bool_bool.f l = some l := by unfold slices_Clone_bool_bool.f; rw [if_pos h]

theorem tidy_l1 : ∀ (n : Nat) (t r : List Bool), t.length = n → Prim r → t.length + r.length ≤ 70368744177664 → ∃ t' r', Ev (fun k => impl_set_tidy.l1 k r.length t r) (t', r') ∧ Tidy t r t' r' := by
  intro n
  induction n with
  | zero =>
    intro t r hn hp hl
    have ht : t = [] := List.eq_nil_of_length_eq_zero hn
    subst ht
    refine ⟨[], r, Ev.step (f := fun k => some (([] : List Bool), r)) (fun k => ?_) (Ev.now _), ⟨hp, .inl rfl⟩, fun _ => rfl, Nat.le_refl _, Nat.le_refl _⟩
    simp only [impl_set_tidy.l1]; rw [if_neg (by simp)]
  | succ n ih =>
    intro t r hn hp hl
    have hr := hp.1
    have hpos := List.length_pos_iff.2 hr
    have ht : t ≠ [] := by intro e; rw [e] at hn; simp at hn
    have w1 : wrap64 ((t.length : Int) - 1) = ((t.length - 1 : Nat) : Int) := by rw [w64 (by omega) (by omega)]; omega
    have w2 : wrap64 ((r.length : Int) - 1) = ((r.length - 1 : Nat) : Int) := by rw [w64 (by omega) (by omega)]; omega
    by_cases he : t.getD (t.length - 1) false = r.getD (r.length - 1) false
    · obtain ⟨t', r', hev, htd⟩ := ih (t.take (t.length - 1)) (rotR r) (by rw [List.length_take]; omega) (prim_rot hp) (by rw [rotR_length hr, List.length_take]; omega)
      rw [rotR_length hr] at hev
      refine ⟨t', r', Ev.step (fun k => ?_) hev, htd.canon, fun x => by rw [htd.has, rot_has ht hr he], by have := htd.tl; rw [List.length_take] at this; omega, by have := htd.rl; rw [rotR_length hr] at this; omega⟩
      simp only [impl_set_tidy.l1]
      rw [if_pos (by omega), w1, w2, if_pos (by omega), if_pos (by omega), if_pos (by omega), if_pos (by omega), rdOf_nat, rdOf_nat, if_pos (by rw [he]; exact beq_self_eq_true _), if_pos (by omega)]
      simp only [Option.bind_some]
      rw [if_pos (by omega)]
      simp only [Int.toNat_natCast]
      rw [if_pos (by simp; omega)]
      rfl
    · refine ⟨t, r, Ev.step (f := fun k => some (t, r)) (fun k => ?_) (Ev.now _), ⟨hp, .inr he⟩, fun _ => rfl, Nat.le_refl _, Nat.le_refl _⟩
      simp only [impl_set_tidy.l1]
      rw [if_pos (by omega), w1, w2, if_pos (by omega), if_pos (by omega), if_pos (by omega), if_pos (by omega), rdOf_nat, rdOf_nat, if_neg (by rw [beq_iff_eq]; exact he)]

theorem tidy_l0 (t r : List Bool) (hr : r ≠ []) (hl : t.length + r.length ≤ 70368744177664) : ∀ (m d : Nat), 0 < d → d ≤ r.length → r.length - d = m → (∀ d', 0 < d' → d' < d → ¬ IsPer r d') →
    ∃ t' r', Ev (fun k => impl_set_tidy.l0 k d t r) (t', r') ∧ Tidy t r t' r' := by
  have hpos := List.length_pos_iff.2 hr
  have hn : IsPer r r.length := ⟨Nat.mod_self _, fun i a b => by omega⟩
  intro m
  induction m with
  | zero =>
    intro d h0 h1 h2 h3
    have e : d = r.length := by omega
    obtain ⟨b, hb, hbi⟩ := turns_f r d h0 h1 (by omega)
    have hbt : b = true := hbi.2 (by rw [e]; exact hn)
    have hp : IsPer r d := hbi.1 hbt
    subst hbt
    have hlt : (r.take d).length = d := by rw [List.length_take]; omega
    obtain ⟨t', r', hev, htd⟩ := tidy_l1 _ t (r.take d) rfl (prim_take h0 h1 hp h3) (by omega)
    rw [hlt] at hev
    refine ⟨t', r', Ev.step (f := fun k => (impl_turns.f k r d).bind fun t161 => (if t161 = true then impl_set_tidy.l1 k d t (r.take d) else (impl_set_tidy.l0 k (wrap64 (d + 1)) t r))) (fun k => ?_) (Ev.bind hb (by simpa using hev)), htd.canon, fun x => by rw [htd.has, take_has hp h0 h1], htd.tl, by have := htd.rl; omega⟩
    simp only [impl_set_tidy.l0]
    congr 1; funext x
    rw [clone_f _ (by omega)]
    simp only [Option.bind_some, Int.toNat_natCast]
    cases x with
    | true => rw [if_pos rfl, if_pos rfl, if_pos (by omega), if_pos (by omega), clone_f _ (by rw [hlt]; omega)]; rfl
    | false => rw [if_neg (by decide), if_neg (by decide)]
  | succ m ih =>
    intro d h0 h1 h2 h3
    obtain ⟨b, hb, hbi⟩ := turns_f r d h0 h1 (by omega)
    have hw : wrap64 ((d : Int) + 1) = ((d + 1 : Nat) : Int) := by rw [w64 (by omega) (by omega)]; omega
    have hlt : (r.take d).length = d := by rw [List.length_take]; omega
    have st : ∀ k, impl_set_tidy.l0 (k + 1) d t r = (impl_turns.f k r d).bind fun t161 => (if t161 = true then impl_set_tidy.l1 k d t (r.take d) else (impl_set_tidy.l0 k ((d + 1 : Nat) : Int) t r)) := fun k => by
      simp only [impl_set_tidy.l0]
      congr 1; funext x
      rw [clone_f _ (by omega)]
      simp only [Option.bind_some, Int.toNat_natCast]
      cases x with
      | true => rw [if_pos rfl, if_pos rfl, if_pos (by omega), if_pos (by omega), clone_f _ (by rw [hlt]; omega)]; rfl
      | false => rw [if_neg (by decide), if_neg (by decide), hw]
    by_cases hp : IsPer r d
    · have hbt := hbi.2 hp
      subst hbt
      obtain ⟨t', r', hev, htd⟩ := tidy_l1 _ t (r.take d) rfl (prim_take h0 h1 hp h3) (by omega)
      rw [hlt] at hev
      exact ⟨t', r', Ev.step st (Ev.bind hb (by simpa using hev)), htd.canon, fun x => by rw [htd.has, take_has hp h0 h1], htd.tl, by have := htd.rl; omega⟩
    · have hbt : b = false := by cases b; rfl; exact absurd (hbi.1 rfl) hp
      subst hbt
      obtain ⟨t', r', hev, htd⟩ := ih (d + 1) (by omega) (by omega) (by omega) (fun d' a b => by
            rcases Nat.lt_or_ge d' d with h | h
            · exact h3 d' a h
            · have : d' = d := by omega
              subst this; exact hp)
      exact ⟨t', r', Ev.step st (Ev.bind hb (by simpa using hev)), htd⟩
theorem tidy_f (t r : List Bool) (hr : r ≠ []) (hl : t.length + r.length ≤ 70368744177664) : ∃ t' r', Ev (fun k => impl_set_tidy.f k t r) (t', r') ∧ Tidy t r t' r' := by
  have hpos := List.length_pos_iff.2 hr
  obtain ⟨t', r', h, htd⟩ := tidy_l0 t r hr hl _ 1 (by omega) (by omega) rfl (fun d a b => by omega)
  exact ⟨t', r', by simpa [impl_set_tidy.f] using h, htd⟩

theorem tidy_cn (t r : List Bool) (hr : r ≠ []) (hl : t.length + r.length ≤ 70368744177664) : Ev (fun k => impl_set_tidy.f k t r) (cn (hasB t r)) := by
  obtain ⟨t', r', h, ht⟩ := tidy_f t r hr hl
  rw [ht.cn]; exact h

end Go.Proofs.Yticdcfgjpopkoaa.P

-- impl.made over a question that is answered: the tidy text of the set.
namespace Go.Proofs.Yticdcfgjpopkoaa.P
open Go.RowKit Go.Proofs.YticdcfgjpopkoaaW.PrintWords Go.Proofs.YticdcfgjpopkoaaW.PrintLast Go.Proofs.YticdcfgjpopkoaaW.PrintMore
set_option linter.unusedVariables false
set_option linter.unusedSimpArgs false

theorem made_calls (q : Nat → Bool) (m p : Nat) (hp : 0 < p) (hper : Per q m p) (hl : m + p ≤ 1000000) (g : Nat) (lb : Array Value) (w : World)
    (eg : ∀ args w, (callFunc g args).run Try.prog w = .ok (.enter g args) w)
    (hc : ∀ (W : World) (i : Nat), Below w.heap.size w W → i < m + p → Calls Try.prog g (#[.int .i64 i] ++ lb) W fun e w' => e = .returned (.bool (q i)) ∧ Below W.heap.size W w') :
    Calls Try.prog 36 #[.int .i64 m, .int .i64 p, .func (.func g) #[] lb] w fun e w' => e = .returned (.tuple #[.string (txt (cn q)).1, .bool (txt (cn q)).2]) ∧ Below w.heap.size w w' := by
  have hs := cn_spec hp hper
  have h1 := tidy_cn (mkT q m) (mkR q m p) (mkR_ne q hp) (by rw [mkT_length, mkR_length]; omega)
  rw [mk_has hp hper] at h1
  have h2 := text_f (cn q).1 (cn q).2 (by omega)
  obtain ⟨k, hk⟩ := (Ev.bind (f := fun k y => impl_set_text.f k y.1 y.2) h1 h2).rounds
  have := impl_made.calls k (mkT q m) (mkR q m p) (txt (cn q)).1 (txt (cn q)).2 g lb w eg (fun W i hW hi => ?_) (by rw [mkT_length, mkR_length]; omega) hk
  · rw [mkT_length, mkR_length] at this; exact this
  · rw [mkT_length, mkR_length] at hi
    rw [← mkT_add, mkT_get q hi]; exact hc W i hW hi

end Go.Proofs.Yticdcfgjpopkoaa.P

-- impl.SetOf: the set of the numbers of a list.
namespace Go.Proofs.Yticdcfgjpopkoaa.P
open Go.RowKit Go.Proofs.YticdcfgjpopkoaaW.PrintWords Go.Proofs.YticdcfgjpopkoaaW.PrintLast Go.Proofs.YticdcfgjpopkoaaW.PrintMore
set_option linter.unusedVariables false
set_option linter.unusedSimpArgs false

/-- The numbers of a list as a set. -/
noncomputable def liq (l : List Int) : Nat → Bool := fun n => dec (∃ i : Nat, i < l.length ∧ rd l (i : Int) = (n : Int))
/-- Whether a number lies outside of 0 .. 59. -/
def outq (x : Int) : Bool := !decide (0 ≤ x ∧ x ≤ 59)
/-- What impl.SetOf answers. -/
noncomputable def sor (l : List Int) : ByteArray × Bool := if anyI l outq = true then (⟨#[]⟩, false) else txt (cn (liq l))
theorem liq_in {l : List Int} (h : anyI l outq = false) : ∀ i : Nat, i < l.length → 0 ≤ rd l (i : Int) ∧ rd l (i : Int) ≤ 59 := by
  intro i hi
  by_cases h1 : 0 ≤ rd l (i : Int) ∧ rd l (i : Int) ≤ 59
  · exact h1
  · have : anyI l outq = true := by
      unfold anyI
      exact dec_true ⟨i, hi, by unfold outq; rw [decide_eq_false h1]; rfl⟩
    rw [h] at this; cases this
theorem liq_big {l : List Int} (h : anyI l outq = false) {n : Nat} (hn : 60 ≤ n) : liq l n = false := by
  unfold liq
  refine dec_false ?_
  rintro ⟨i, hi, h1⟩
  have := liq_in h i hi
  omega
theorem liq_per {l : List Int} (h : anyI l outq = false) : Per (liq l) 60 1 := fun n hn => by
  rw [liq_big h (by omega), liq_big h hn]
noncomputable def impl_SetOf.f (l : List Int) : Option (ByteArray × Bool) := if l.length ≤ 1000000 then some (sor l) else none
theorem isetOfList_f (l : List Int) (hl : l.length ≤ 1000000) : impl_SetOf.f l = some (sor l) := by unfold impl_SetOf.f; rw [if_pos hl]
theorem icont_l0 (l : List Int) (hl : l.length ≤ 1000000) (x : Int) : ∀ (d i : Nat), i ≤ l.length → l.length - i = d → (∀ j : Nat, j < i → rd l (j : Int) ≠ x) → ∃ v : Int, decide (v ≥ 0) = dec (∃ i : Nat, i < l.length ∧ rd l (i : Int) = x) ∧ Ev (fun k => slices_Index_int_int.l0 k l x l.length i) v := by
  intro d
  induction d with
  | zero =>
    intro i hi hd hf
    have e : i = l.length := by omega
    subst e
    refine ⟨-1, ?_, ?_⟩
    · rw [dec_false (fun ⟨j, h1, h2⟩ => hf j h1 h2)]; rfl
    · refine Ev.step (f := fun k => some (-1)) (fun k => ?_) (Ev.now _)
      simp only [slices_Index_int_int.l0]; rw [if_neg (by omega)]
  | succ d ih =>
    intro i hi hd hf
    by_cases h : rd l (i : Int) = x
    · refine ⟨i, ?_, ?_⟩
      · rw [dec_true ⟨i, by omega, h⟩]; exact decide_eq_true (by omega)
      · refine Ev.step (f := fun k => some (i : Int)) (fun k => ?_) (Ev.now _)
        simp only [slices_Index_int_int.l0]
        rw [if_pos (by omega), if_pos (by omega), if_pos (by omega), if_pos h.symm]
    · obtain ⟨v, h1, h2⟩ := ih (i + 1) (by omega) (by omega) (fun j hj => by
        rcases Nat.lt_or_ge j i with h3 | h3
        · exact hf j h3
        · rw [show j = i by omega]; exact h)
      refine ⟨v, h1, ?_⟩
      refine Ev.step (fun k => ?_) h2
      simp only [slices_Index_int_int.l0]
      rw [if_pos (by omega), if_pos (by omega), if_pos (by omega), if_neg (fun e => h e.symm), wsucc (by omega)]
theorem icont_f (l : List Int) (hl : l.length ≤ 1000000) (n : Nat) : Ev (fun k => slices_Contains_int_int.f k l n) (liq l n) := by
  obtain ⟨v, h1, h2⟩ := icont_l0 l hl (n : Int) _ 0 (Nat.zero_le _) rfl (fun j hj => by omega)
  have e : liq l n = decide (v ≥ 0) := h1.symm
  rw [e]
  exact Ev.congr (fun k => rfl) (Ev.bind (f := fun k t => some (decide (t ≥ 0))) h2 (Ev.now _))

set_option maxHeartbeats 8000000 in
theorem setOf1_calls (x : Int) (W : World) :
    Calls Try.prog 34 #[.int .i64 x] W fun e w' => e = .returned (.bool (outq x)) ∧ Below W.heap.size W w' := by
  have hin := in_f x 0 59
  have HI := fun w => Aside0.mk (impl_in.calls x 0 59 _ w hin)
  unfold outq
  generalize decide (0 ≤ x ∧ x ≤ 59) = b at *
  clear hin
  go_enter Try.func34, Try.ntmps34
  go_wp2_with (go_at_call 35; refine (HI _).out.mono ?_; rintro e w1 ⟨rfl, hd⟩; have hb := drawn0_below hd; clear hd)
  go_ret
  exact ⟨rfl, hb⟩

set_option maxHeartbeats 8000000 in
theorem setOf2_calls (l : List Int) (hl : l.length ≤ 1000000) (A : Option Addr) (c n b : Nat) (W : World) (hC : Kd.C (Kd.int .i64) W A l.length l) (hc : l.length ≤ c) (hb : W.cell? ⟨b, 0, none⟩ = some (.slice A l.length c)) :
    Calls Try.prog 37 #[.int .i64 n, .pointer (some ⟨b, 0, none⟩)] W fun e w' => e = .returned (.bool (liq l n)) ∧ Below W.heap.size W w' := by
  obtain ⟨k, hk⟩ := (icont_f l hl n).rounds
  have HS := Aside0.mk (slices_Contains_int_int.calls k A c l n (liq l n) W hC hc hk)
  generalize liq l n = q at *
  clear hk hC hc hl
  go_enter Try.func37, Try.ntmps37
  go_wp2_with (go_at_call 38; refine HS.out.mono ?_; rintro e w1 ⟨rfl, hd⟩; have hb := drawn0_below hd; clear hd)
  go_ret
  exact ⟨rfl, hb⟩

set_option maxHeartbeats 8000000 in
set_option maxRecDepth 100000 in
theorem impl_SetOf.calls (A0 : Option Addr) (c0 : Nat) (l0 : List Int) (r1 : ByteArray) (r2 : Bool) (w : World) (hr0 : Kd.C (Kd.int .i64) w A0 l0.length l0) (hc0 : l0.length ≤ c0) (h : impl_SetOf.f l0 = some (r1, r2)) :
    Calls Try.prog 15 #[.slice A0 l0.length c0] w fun e w' => e = .returned (.tuple #[.string r1, .bool r2]) ∧ Below w.heap.size w w' := by
  unfold impl_SetOf.f at h
  split at h
  · rename_i hl
    simp only [Option.some.injEq] at h
    have hR : r1 = (sor l0).1 ∧ r2 = (sor l0).2 := by rw [h]; exact ⟨rfl, rfl⟩
    obtain ⟨rfl, rfl⟩ := hR
    clear h
    have eg1 : ∀ args w, (callFunc 34 args).run Try.prog w = .ok (.enter 34 args) w := enters_of Try.func34 (by kernel_rfl) rfl
    have eg2 : ∀ args w, (callFunc 37 args).run Try.prog w = .ok (.enter 37 args) w := enters_of Try.func37 (by kernel_rfl) rfl
    have HA := fun (W : World) (hC : Kd.C (Kd.int .i64) W A0 l0.length l0) => containsFunc_calls l0 (by omega) A0 c0 34 #[] outq W hC hc0 eg1 (fun W' i hW' hi => by
      exact setOf1_calls (rd l0 (i : Int)) W')
    have HCA := Aside0.mk hr0
    have HL := Aside0.mk hl
    have HC0 := Aside0.mk hc0
    cases hp : anyI l0 outq with
    | true =>
      have e : sor l0 = (⟨#[]⟩, false) := by unfold sor; rw [hp]; rfl
      rw [e]
      rw [hp] at HA
      have HAA := Aside0.mk HA
      clear HA hp e hr0 hl hc0 eg1 eg2
      go_enter Try.func15, Try.ntmps15
      go_wp2_with (go_at_call 33; go_loud (refine (HAA.out _ (Kd.C_below HCA.out (below_alloc (Below.refl w.heap.size w) _))).mono ?_; rintro e w1 ⟨rfl, hd⟩; have HB := Aside0.mk (below_step (below_alloc (Below.refl w.heap.size w) _) hd); clear hd))
      go_ret2
      exact ⟨rfl, HB.out⟩
    | false =>
      have e : sor l0 = txt (cn (liq l0)) := by unfold sor; rw [hp]; rfl
      rw [e]
      have HM := fun (lb : Array Value) (w : World) => Aside0.mk (made_calls (liq l0) 60 1 (by omega) (liq_per hp) (by omega) 37 lb w eg2)
      rw [hp] at HA
      have HAA := Aside0.mk HA
      clear HA hp e hr0 hl hc0 eg1 eg2
      go_enter Try.func15, Try.ntmps15
      go_wp2_with (first
        | (go_at_call 33; go_loud (refine (HAA.out _ (Kd.C_below HCA.out (below_alloc (Below.refl w.heap.size w) _))).mono ?_; rintro e w1 ⟨rfl, hd⟩; have HB := Aside0.mk (below_step (below_alloc (Below.refl w.heap.size w) _) hd); have f0 : w1.cell? ⟨w.heap.size, 0, none⟩ = some (.slice A0 l0.length c0) := (hd.cell (p := ⟨w.heap.size, 0, none⟩) (by simp)).trans (by simp); have hl1 : w.heap.size < w1.heap.size := Nat.lt_of_lt_of_le (by simp) hd.size; clear hd))
        | (go_at_call 36; refine ((HM _ _).out ?hc).mono ?_; (case hc =>
            intro W i hW hi
            exact setOf2_calls l0 HL.out A0 c0 i w.heap.size W (Kd.C_below HCA.out ((below_step HB.out hW))) HC0.out ((hW.cell (p := ⟨w.heap.size, 0, none⟩) (by omega)).trans f0)); rintro e w4 ⟨rfl, hb4⟩))
      go_ret2
      exact ⟨rfl, below_step HB.out hb4⟩
  · cases h
end Go.Proofs.Yticdcfgjpopkoaa.P
