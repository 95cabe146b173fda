/- What these laws reach, joined by a program of this session: contracts (written by that program over the kit's print, or by hand) and plain lemmas. -/
import Derived.Test.YtjjnckgdpdelkaaK1
import Derived.Test.YtjjnckgdpdelkaaK2
open Go.Proofs.YtjjnckgdpdelkaaW.PrintWords renaming below_alloc → yA, pw_below_drewN → yB, below_drew1 → yC, below_set → yD, blk_drewN → yE, blk_drew → yF, blk_alloc → yG, below_step → yP, below_size → yQ
open Go.Proofs.YtjjnckgdpdelkaaW.PrintWords.Kd renaming R_alloc → yH, R_drewN → yI, R_drew → yJ
open List renaming setIfInBounds_toArray → yK, set_cons_zero → yL, set_cons_succ → yM
namespace Go.Proofs.Ytjjnckgdpdelkaa.P
open Go.RowKit Go.Proofs.YtjjnckgdpdelkaaW.PrintWords Go.Proofs.YtjjnckgdpdelkaaW.PrintLast Go.Proofs.YtjjnckgdpdelkaaW.PrintMore
attribute [local go_sem] max2_int min2_int max_two min_two max_three min_three max_four min_four   -- for this text's walks alone
set_option linter.unusedVariables false
set_option linter.unusedSimpArgs false

/-! ### spec_l7Of: function 27 -/
def spec_l7Of.f (a0:ByteArray):Option (Int × (List (S44)) × Bool):=(some (([]:List (S44)):List (S44))).bind fun y158=>(if (a0.size:Int) > 60 then (some (48,y158,false)) else ((spec_l7Read.f a0 0).bind fun bt162=>(if bt162.2.2=0 then (some (48,y158,false)) else (if bt162.2.2=(a0.size:Int) then (some (bt162.1,bt162.2.1,true)) else (some (48,y158,false))))))
set_option maxHeartbeats 8000000 in
set_option maxRecDepth 100000 in
theorem spec_l7Of.calls (a0:ByteArray) (r1:Int) (r2:List (S44)) (r3:Bool) (w:World) (h:spec_l7Of.f a0=some (r1,r2,r3)) :
  Calls Try.prog 27 #[.string a0] w fun e w'=>∃ v1_:Value,e=.returned (.tuple #[.agg #[.int .u8 r1,v1_],.bool r3])∧Kd.R k44 44 w' w.heap.size (fun _=>True) v1_ r2∧Below w.heap.size w w':=by
 have hu44:=Try.underlying44
 have HB:=Aside0.mk (Below.refl w.heap.size w)
 have H:((some (([]:List (S44)):List (S44))).bind fun y158=>(if (a0.size:Int) > 60 then (some (48,y158,false)) else ((spec_l7Read.f a0 0).bind fun bt162=>(if bt162.2.2=0 then (some (48,y158,false)) else (if bt162.2.2=(a0.size:Int) then (some (bt162.1,bt162.2.1,true)) else (some (48,y158,false)))))))=some (r1,r2,r3):=h
 clear h
 obtain ⟨y158,hy158⟩:∃ y_:List (S44),y_=(([]:List (S44))):=⟨_,rfl⟩
 replace H:(if (a0.size:Int) > 60 then (some (48,y158,false)) else ((spec_l7Read.f a0 0).bind fun bt162=>(if bt162.2.2=0 then (some (48,y158,false)) else (if bt162.2.2=(a0.size:Int) then (some (bt162.1,bt162.2.1,true)) else (some (48,y158,false))))))=some (r1,r2,r3):=by first|(rw [hy158];with_reducible exact H)|(have H2_:=(Option.bind_some _ _).symm.trans H;rw [hy158];with_reducible exact H2_)|(have H2_:=(Option.bind_some _ _).symm.trans H;with_reducible exact H2_)|with_reducible exact H|(rw [hy158];exact H)|exact H
 have Ny158:=Aside0.mk hy158
 clear hy158
 by_cases c2:(a0.size:Int) > 60
 ·rw [if_pos c2] at H
  have c2b0:decide (60<(a0.size:Int))=true:=decide_eq_true c2
  have c2b1:decide (60<a0.size)=true:=decide_eq_true (by omega)
  clear c2
  simp only [Option.some.injEq,Prod.mk.injEq] at H
  obtain ⟨rfl,rfl,rfl⟩:=H
  go_enter Try.func27,Try.ntmps27
  go_wp2_with (first|((with_reducible refine gate_dst (N:=2) rfl ?_);(try (refine gate_guard (by rfl) ?_;dsimp only));refine box_event ?hg (N:=2) ?hd (cs:=#[.int .u8 0,.slice none 0 0]) (t:=44) ?hr ?_;(case hd=>rfl);(case hg=>rfl);(case hr=>first|(go_simp;done)|(go_simp;rfl));intro gb157 hg w3 hbox hb;have n0_:=Aside0.mk (yP (by repeat (first|(with_reducible first|exact HB.out|apply yA|apply yB|apply yC)|exact HB.out)) hb);have n1_:=Aside0.mk (hbox);have n2_:=Aside0.mk ((by rw [hg];exact (yQ (by repeat (first|(with_reducible first|exact HB.out|apply yA|apply yB|apply yC)|exact HB.out))):w.heap.size≤gb157));have n3_:=Aside0.mk ((by rw [hg];exact (yQ (by repeat (first|(with_reducible first|exact HB.out|apply yA|apply yB|apply yC)|exact HB.out))):w.heap.size≤gb157));clear HB;have HB:=n0_;have BK157:=n1_;have GW157:=n2_;have GE157:=n3_;clear n0_ n1_ n2_ n3_;clear hb hbox hg)|((with_reducible refine gate_dst (N:=7) rfl ?_);(try (refine gate_guard (by rfl) ?_;dsimp only));refine Kd.R_lit k44 _ 44 ?hg (N:=7) ?hd (xs:=([]:List (S44))) (inner:=[]) (ok:=fun _=>True) (okp:=fun _=>True) ?hr ?hp (fun _ hk=>hk) trivial (Below.refl _ _) (Nat.le_refl _) (by simp) ?_;(case hd=>rfl);(case hg=>rfl);(case hr=>first|(go_simp;done)|(go_simp;rfl));(case hp=>exact (Reps.none _ _));intro v159 w4 ho5 hb hg_ hnew_;clear hg_ hnew_;(first|rw [← Ny158.out] at ho5|(simp only [Int.reduceToNat] at ho5;rw [← Ny158.out] at ho5));have n0_:=Aside0.mk (Kd.R_lower (Kd.R_newB ho5 (g:=gb157) (o:=.cells #[.int .u8 0,.slice none 0 0] 44 (0,0)) (by (with_reducible repeat (first|refine yE ?_ _|refine yF ?_|refine yG ?_ _));exact BK157.out)) (yQ (by repeat (first|(with_reducible first|exact HB.out|apply yA|apply yB|apply yC|refine yD ?_ GE157.out)|exact HB.out))));have n1_:=Aside0.mk (blk_below (g:=gb157) (o:=.cells #[.int .u8 0,.slice none 0 0] 44 (0,0)) (by (with_reducible repeat (first|refine yE ?_ _|refine yF ?_|refine yG ?_ _));exact BK157.out) hb);have n2_:=Aside0.mk (yP (by repeat (first|(with_reducible first|exact HB.out|apply yA|apply yB|apply yC|refine yD ?_ GE157.out)|exact HB.out)) hb);clear BK157;clear HB;have HO160:=n0_;have BK157:=n1_;have HB:=n2_;clear n0_ n1_ n2_;clear hb ho5;obtain ⟨Ao6,co6,eo6⟩:=Kd.R_slice HO160.out;subst eo6)|((with_reducible refine gate_dst (N:=4) rfl ?_);(try (refine gate_guard (by rfl) ?_;dsimp only));refine box_event ?hg (N:=4) ?hd (cs:=#[.int .u8 0,.slice none 0 0]) (t:=44) ?hr ?_;(case hd=>rfl);(case hg=>rfl);(case hr=>first|(go_simp;done)|(go_simp;rfl));intro gb161 hg w7 hbox hb;have n0_:=Aside0.mk (Kd.R_below (Kd.R_elderB (by (with_reducible repeat (first|apply yH|apply yI|apply yJ));exact HO160.out) gb161 (Nat.le_of_eq hg.symm)) hb);have n1_:=Aside0.mk (blk_below (g:=gb157) (o:=.cells #[.int .u8 0,.slice none 0 0] 44 (0,0)) (by (with_reducible repeat (first|refine yE ?_ _|refine yF ?_|refine yG ?_ _));exact BK157.out) hb);have n2_:=Aside0.mk (yP (by repeat (first|(with_reducible first|exact HB.out|apply yA|apply yB|apply yC|refine yD ?_ GE157.out)|exact HB.out)) hb);have n3_:=Aside0.mk (hbox);have n4_:=Aside0.mk ((by rw [hg];exact (yQ (by repeat (first|(with_reducible first|exact HB.out|apply yA|apply yB|apply yC|refine yD ?_ GE157.out)|exact HB.out))):w.heap.size≤gb161));have n5_:=Aside0.mk ((by rw [hg];exact (yQ (by repeat (first|(with_reducible first|exact HB.out|apply yA|apply yB|apply yC|refine yD ?_ GE157.out)|exact HB.out))):w.heap.size≤gb161));have n6_:=Aside0.mk ((by rw [hg];exact Nat.ne_of_lt (blk_lt (g:=gb157) (o:=.cells #[.int .u8 0,.slice none 0 0] 44 (0,0)) (by (with_reducible repeat (first|refine yE ?_ _|refine yF ?_|refine yG ?_ _));exact BK157.out)):gb157≠gb161));have n7_:=Aside0.mk ((by rw [hg];exact Nat.ne_of_gt (blk_lt (g:=gb157) (o:=.cells #[.int .u8 0,.slice none 0 0] 44 (0,0)) (by (with_reducible repeat (first|refine yE ?_ _|refine yF ?_|refine yG ?_ _));exact BK157.out)):gb161≠gb157));clear HO160;clear BK157;clear HB;have HO160:=n0_;have BK157:=n1_;have HB:=n2_;have BK161:=n3_;have GW161:=n4_;have GE161:=n5_;have NB157_161:=n6_;have NB161_157:=n7_;clear n0_ n1_ n2_ n3_ n4_ n5_ n6_ n7_;clear hb hbox hg;have hnb8:=NB161_157.out;have hnc8:=NB157_161.out;have hcz9_0:w7.cell? ⟨gb161,0,none⟩=some (.int .u8 0):=(blk_cell BK161.out 0).trans rfl;have hcz9_1:w7.cell? ⟨gb161,1,none⟩=some (.slice none 0 0):=(blk_cell BK161.out 1).trans rfl;have hfz9_0:=blk_frozen BK161.out 0;have hfz9_1:=blk_frozen BK161.out 1;have hcz10_0:w7.cell? ⟨gb157,0,none⟩=some (.int .u8 0):=(blk_cell BK157.out 0).trans rfl;have hcz10_1:w7.cell? ⟨gb157,1,none⟩=some (.slice none 0 0):=(blk_cell BK157.out 1).trans rfl;have hfz10_0:=blk_frozen BK157.out 0;have hfz10_1:=blk_frozen BK157.out 1))
  refine bodyPost_ret (results_ct rfl _ _ gb157 44 #[.int .u8 48,.slice Ao6 y158.length co6] (0,0) _ rfl (by (with_reducible repeat (first|refine yE ?_ _|refine yF ?_|refine yG ?_ _));refine blk_put (cs:=#[.int .u8 48,.slice none 0 0]) ?_ 1 _ rfl;(with_reducible repeat (first|refine yE ?_ _|refine yF ?_|refine yG ?_ _));refine blk_put (cs:=#[.int .u8 0,.slice none 0 0]) ?_ 0 _ rfl;(with_reducible repeat (first|refine yE ?_ _|refine yF ?_|refine yG ?_ _));refine blk_far ?_ NB157_161.out _;(with_reducible repeat (first|refine yE ?_ _|refine yF ?_|refine yG ?_ _));refine blk_far ?_ NB157_161.out _;(with_reducible repeat (first|refine yE ?_ _|refine yF ?_|refine yG ?_ _));exact BK157.out) Try.underlying44 rfl (by kernel_rfl)) rfl ?_
  exact ⟨_,by first|rfl|(simp [errW_none,errW_some]<;>rfl)|(simp [*,errW_none,errW_some]<;>rfl)|(simp [errW_none,errW_some];exact ⟨rfl,rfl⟩),by (with_reducible repeat (first|apply yH|apply yI|apply yJ));exact Kd.R_mono (Kd.R_far (p:=⟨gb157,1,none⟩) (Kd.R_far (p:=⟨gb157,0,none⟩) (Kd.R_far (p:=⟨gb161,1,none⟩) (Kd.R_far (p:=⟨gb161,0,none⟩) (Kd.R_mono (Kd.R_mono HO160.out (fun k_ hk=>(⟨hk,hk.2⟩:_∧k_≠gb161))) (fun k_ hk=>(⟨hk,hk.1.1.2⟩:_∧k_≠gb157))) (fun _ hk=>hk.1.2) (.int .u8 48)) (fun _ hk=>hk.1.2) (.slice Ao6 y158.length co6)) (fun _ hk=>hk.2) (.int .u8 48)) (fun _ hk=>hk.2) (.slice Ao6 y158.length co6)) (fun _ hk=>trivial),by repeat (first|(with_reducible first|exact HB.out|apply yA|apply yB|apply yC|refine yD ?_ GE157.out|refine yD ?_ GE161.out)|exact HB.out)⟩
 ·rw [if_neg c2] at H
  have c2b0:decide (60<(a0.size:Int))=false:=decide_eq_false c2
  have c2b1:decide (60<a0.size)=false:=decide_eq_false (by omega)
  clear c2
  replace H:=Option.bind_eq_some_iff.mp H
  obtain ⟨⟨t162,t163,t166⟩,A110,H⟩:=H
  replace H:(if t166=0 then (some (48,y158,false)) else (if t166=(a0.size:Int) then (some (t162,t163,true)) else (some (48,y158,false))))=some (r1,r2,r3):=H
  have A11:=Aside0.mk A110
  clear A110
  by_cases c12:t166=0
  ·rw [if_pos c12] at H
   have c12b0:(t166 == 0)=true:=beq_iff_eq.mpr c12
   have c12b1:(t166 != 0)=false:=bne_eq_false_iff_eq.mpr c12
   clear c12
   simp only [Option.some.injEq,Prod.mk.injEq] at H
   obtain ⟨rfl,rfl,rfl⟩:=H
   go_enter Try.func27,Try.ntmps27
   go_wp2_with (first|((with_reducible refine gate_dst (N:=2) rfl ?_);(try (refine gate_guard (by rfl) ?_;dsimp only));refine box_event ?hg (N:=2) ?hd (cs:=#[.int .u8 0,.slice none 0 0]) (t:=44) ?hr ?_;(case hd=>rfl);(case hg=>rfl);(case hr=>first|(go_simp;done)|(go_simp;rfl));intro gb157 hg w13 hbox hb;have n0_:=Aside0.mk (yP (by repeat (first|(with_reducible first|exact HB.out|apply yA|apply yB|apply yC)|exact HB.out)) hb);have n1_:=Aside0.mk (hbox);have n2_:=Aside0.mk ((by rw [hg];exact (yQ (by repeat (first|(with_reducible first|exact HB.out|apply yA|apply yB|apply yC)|exact HB.out))):w.heap.size≤gb157));have n3_:=Aside0.mk ((by rw [hg];exact (yQ (by repeat (first|(with_reducible first|exact HB.out|apply yA|apply yB|apply yC)|exact HB.out))):w.heap.size≤gb157));clear HB;have HB:=n0_;have BK157:=n1_;have GW157:=n2_;have GE157:=n3_;clear n0_ n1_ n2_ n3_;clear hb hbox hg)|((with_reducible refine gate_dst (N:=7) rfl ?_);(try (refine gate_guard (by rfl) ?_;dsimp only));refine Kd.R_lit k44 _ 44 ?hg (N:=7) ?hd (xs:=([]:List (S44))) (inner:=[]) (ok:=fun _=>True) (okp:=fun _=>True) ?hr ?hp (fun _ hk=>hk) trivial (Below.refl _ _) (Nat.le_refl _) (by simp) ?_;(case hd=>rfl);(case hg=>rfl);(case hr=>first|(go_simp;done)|(go_simp;rfl));(case hp=>exact (Reps.none _ _));intro v159 w14 ho15 hb hg_ hnew_;clear hg_ hnew_;(first|rw [← Ny158.out] at ho15|(simp only [Int.reduceToNat] at ho15;rw [← Ny158.out] at ho15));have n0_:=Aside0.mk (Kd.R_lower (Kd.R_newB ho15 (g:=gb157) (o:=.cells #[.int .u8 0,.slice none 0 0] 44 (0,0)) (by (with_reducible repeat (first|refine yE ?_ _|refine yF ?_|refine yG ?_ _));exact BK157.out)) (yQ (by repeat (first|(with_reducible first|exact HB.out|apply yA|apply yB|apply yC|refine yD ?_ GE157.out)|exact HB.out))));have n1_:=Aside0.mk (blk_below (g:=gb157) (o:=.cells #[.int .u8 0,.slice none 0 0] 44 (0,0)) (by (with_reducible repeat (first|refine yE ?_ _|refine yF ?_|refine yG ?_ _));exact BK157.out) hb);have n2_:=Aside0.mk (yP (by repeat (first|(with_reducible first|exact HB.out|apply yA|apply yB|apply yC|refine yD ?_ GE157.out)|exact HB.out)) hb);clear BK157;clear HB;have HO160:=n0_;have BK157:=n1_;have HB:=n2_;clear n0_ n1_ n2_;clear hb ho15;obtain ⟨Ao16,co16,eo16⟩:=Kd.R_slice HO160.out;subst eo16)|((with_reducible refine gate_dst (N:=4) rfl ?_);(try (refine gate_guard (by rfl) ?_;dsimp only));refine box_event ?hg (N:=4) ?hd (cs:=#[.int .u8 0,.slice none 0 0]) (t:=44) ?hr ?_;(case hd=>rfl);(case hg=>rfl);(case hr=>first|(go_simp;done)|(go_simp;rfl));intro gb161 hg w17 hbox hb;have n0_:=Aside0.mk (Kd.R_below (Kd.R_elderB (by (with_reducible repeat (first|apply yH|apply yI|apply yJ));exact HO160.out) gb161 (Nat.le_of_eq hg.symm)) hb);have n1_:=Aside0.mk (blk_below (g:=gb157) (o:=.cells #[.int .u8 0,.slice none 0 0] 44 (0,0)) (by (with_reducible repeat (first|refine yE ?_ _|refine yF ?_|refine yG ?_ _));exact BK157.out) hb);have n2_:=Aside0.mk (yP (by repeat (first|(with_reducible first|exact HB.out|apply yA|apply yB|apply yC|refine yD ?_ GE157.out)|exact HB.out)) hb);have n3_:=Aside0.mk (hbox);have n4_:=Aside0.mk ((by rw [hg];exact (yQ (by repeat (first|(with_reducible first|exact HB.out|apply yA|apply yB|apply yC|refine yD ?_ GE157.out)|exact HB.out))):w.heap.size≤gb161));have n5_:=Aside0.mk ((by rw [hg];exact (yQ (by repeat (first|(with_reducible first|exact HB.out|apply yA|apply yB|apply yC|refine yD ?_ GE157.out)|exact HB.out))):w.heap.size≤gb161));have n6_:=Aside0.mk ((by rw [hg];exact Nat.ne_of_lt (blk_lt (g:=gb157) (o:=.cells #[.int .u8 0,.slice none 0 0] 44 (0,0)) (by (with_reducible repeat (first|refine yE ?_ _|refine yF ?_|refine yG ?_ _));exact BK157.out)):gb157≠gb161));have n7_:=Aside0.mk ((by rw [hg];exact Nat.ne_of_gt (blk_lt (g:=gb157) (o:=.cells #[.int .u8 0,.slice none 0 0] 44 (0,0)) (by (with_reducible repeat (first|refine yE ?_ _|refine yF ?_|refine yG ?_ _));exact BK157.out)):gb161≠gb157));clear HO160;clear BK157;clear HB;have HO160:=n0_;have BK157:=n1_;have HB:=n2_;have BK161:=n3_;have GW161:=n4_;have GE161:=n5_;have NB157_161:=n6_;have NB161_157:=n7_;clear n0_ n1_ n2_ n3_ n4_ n5_ n6_ n7_;clear hb hbox hg;have hnb18:=NB161_157.out;have hnc18:=NB157_161.out;have hcz19_0:w17.cell? ⟨gb161,0,none⟩=some (.int .u8 0):=(blk_cell BK161.out 0).trans rfl;have hcz19_1:w17.cell? ⟨gb161,1,none⟩=some (.slice none 0 0):=(blk_cell BK161.out 1).trans rfl;have hfz19_0:=blk_frozen BK161.out 0;have hfz19_1:=blk_frozen BK161.out 1)|((with_reducible refine gate_callee (f:=40) rfl ?_);refine goesL_ (some 15) rfl rfl Try.func40 (by kernel_rfl) rfl #[.string a0,.int .i64 0] rfl (by (try simp only [List.map_toArray,List.map_cons,List.map_nil]);first|done|rfl|(simp only [List.length_drop,List.length_take];rfl)) ?_;(with_reducible refine (spec_l7Read.calls a0 0 t162 t163 t166 _ A11.out).mono ?_);rintro e w20 ⟨v164,rfl,ho0,hb⟩;refine ⟨_,rfl,?_⟩;have n0_:=Aside0.mk (Kd.R_elder' (by (with_reducible repeat (first|apply yH|apply yI|apply yJ));exact (Kd.R_mono (Kd.R_far (p:=⟨gb161,1,none⟩) (Kd.R_far (p:=⟨gb161,0,none⟩) (Kd.R_mono HO160.out (fun k_ hk=>(⟨hk,hk.2⟩:_∧k_≠gb161))) (fun _ hk=>hk.2) (.int .u8 48)) (fun _ hk=>hk.2) (.slice Ao16 y158.length co16)) (fun _ h_=>h_.1))) (Kd.R_base ho0) hb);have n1_:=Aside0.mk (Kd.R_lower (Kd.R_newB (Kd.R_newB (Kd.R_new' ho0 (Kd.R_lt (by (with_reducible repeat (first|apply yH|apply yI|apply yJ));exact (Kd.R_mono (Kd.R_far (p:=⟨gb161,1,none⟩) (Kd.R_far (p:=⟨gb161,0,none⟩) (Kd.R_mono HO160.out (fun k_ hk=>(⟨hk,hk.2⟩:_∧k_≠gb161))) (fun _ hk=>hk.2) (.int .u8 48)) (fun _ hk=>hk.2) (.slice Ao16 y158.length co16)) (fun _ h_=>h_.1))))) (g:=gb157) (o:=.cells #[.int .u8 0,.slice none 0 0] 44 (0,0)) (by (with_reducible repeat (first|refine yE ?_ _|refine yF ?_|refine yG ?_ _));refine blk_far ?_ NB157_161.out _;(with_reducible repeat (first|refine yE ?_ _|refine yF ?_|refine yG ?_ _));refine blk_far ?_ NB157_161.out _;(with_reducible repeat (first|refine yE ?_ _|refine yF ?_|refine yG ?_ _));exact BK157.out)) (g:=gb161) (o:=.cells #[.int .u8 48,.slice Ao16 y158.length co16] 44 (0,0)) (by (with_reducible repeat (first|refine yE ?_ _|refine yF ?_|refine yG ?_ _));refine blk_put (cs:=#[.int .u8 48,.slice none 0 0]) ?_ 1 _ rfl;(with_reducible repeat (first|refine yE ?_ _|refine yF ?_|refine yG ?_ _));refine blk_put (cs:=#[.int .u8 0,.slice none 0 0]) ?_ 0 _ rfl;(with_reducible repeat (first|refine yE ?_ _|refine yF ?_|refine yG ?_ _));exact BK161.out)) (yQ (by repeat (first|(with_reducible first|exact HB.out|apply yA|apply yB|apply yC|refine yD ?_ GE157.out|refine yD ?_ GE161.out)|exact HB.out))));have n2_:=Aside0.mk (blk_below (g:=gb157) (o:=.cells #[.int .u8 0,.slice none 0 0] 44 (0,0)) (by (with_reducible repeat (first|refine yE ?_ _|refine yF ?_|refine yG ?_ _));refine blk_far ?_ NB157_161.out _;(with_reducible repeat (first|refine yE ?_ _|refine yF ?_|refine yG ?_ _));refine blk_far ?_ NB157_161.out _;(with_reducible repeat (first|refine yE ?_ _|refine yF ?_|refine yG ?_ _));exact BK157.out) hb);have n3_:=Aside0.mk (blk_below (g:=gb161) (o:=.cells #[.int .u8 48,.slice Ao16 y158.length co16] 44 (0,0)) (by (with_reducible repeat (first|refine yE ?_ _|refine yF ?_|refine yG ?_ _));refine blk_put (cs:=#[.int .u8 48,.slice none 0 0]) ?_ 1 _ rfl;(with_reducible repeat (first|refine yE ?_ _|refine yF ?_|refine yG ?_ _));refine blk_put (cs:=#[.int .u8 0,.slice none 0 0]) ?_ 0 _ rfl;(with_reducible repeat (first|refine yE ?_ _|refine yF ?_|refine yG ?_ _));exact BK161.out) hb);have n4_:=Aside0.mk (yP (by repeat (first|(with_reducible first|exact HB.out|apply yA|apply yB|apply yC|refine yD ?_ GE157.out|refine yD ?_ GE161.out)|exact HB.out)) hb);clear HO160;clear BK157;clear BK161;clear HB;have HO160:=n0_;have HO165:=n1_;have BK157:=n2_;have BK161:=n3_;have HB:=n4_;clear n0_ n1_ n2_ n3_ n4_;(try clear hb);(try clear hb2);(try clear hk);(try clear hi);(try clear ho0))|((with_reducible refine gate_dst (N:=5) rfl ?_);(try (refine gate_guard (by rfl) ?_;dsimp only));refine box_event ?hg (N:=5) ?hd (cs:=#[.int .u8 0,.slice none 0 0]) (t:=44) ?hr ?_;(case hd=>rfl);(case hg=>rfl);(case hr=>first|(go_simp;done)|(go_simp;rfl));intro gb167 hg w21 hbox hb;have n0_:=Aside0.mk (Kd.R_below (Kd.R_elderB (by (with_reducible repeat (first|apply yH|apply yI|apply yJ));exact HO160.out) gb167 (Nat.le_of_eq hg.symm)) hb);have n1_:=Aside0.mk (Kd.R_below (Kd.R_elderB (by (with_reducible repeat (first|apply yH|apply yI|apply yJ));exact HO165.out) gb167 (Nat.le_of_eq hg.symm)) hb);have n2_:=Aside0.mk (blk_below (g:=gb157) (o:=.cells #[.int .u8 0,.slice none 0 0] 44 (0,0)) (by (with_reducible repeat (first|refine yE ?_ _|refine yF ?_|refine yG ?_ _));exact BK157.out) hb);have n3_:=Aside0.mk (blk_below (g:=gb161) (o:=.cells #[.int .u8 48,.slice Ao16 y158.length co16] 44 (0,0)) (by (with_reducible repeat (first|refine yE ?_ _|refine yF ?_|refine yG ?_ _));exact BK161.out) hb);have n4_:=Aside0.mk (yP (by repeat (first|(with_reducible first|exact HB.out|apply yA|apply yB|apply yC|refine yD ?_ GE157.out|refine yD ?_ GE161.out)|exact HB.out)) hb);have n5_:=Aside0.mk (hbox);have n6_:=Aside0.mk ((by rw [hg];exact (yQ (by repeat (first|(with_reducible first|exact HB.out|apply yA|apply yB|apply yC|refine yD ?_ GE157.out|refine yD ?_ GE161.out)|exact HB.out))):w.heap.size≤gb167));have n7_:=Aside0.mk ((by rw [hg];exact (yQ (by repeat (first|(with_reducible first|exact HB.out|apply yA|apply yB|apply yC|refine yD ?_ GE157.out|refine yD ?_ GE161.out)|exact HB.out))):w.heap.size≤gb167));have n8_:=Aside0.mk ((by rw [hg];exact Nat.ne_of_lt (blk_lt (g:=gb157) (o:=.cells #[.int .u8 0,.slice none 0 0] 44 (0,0)) (by (with_reducible repeat (first|refine yE ?_ _|refine yF ?_|refine yG ?_ _));exact BK157.out)):gb157≠gb167));have n9_:=Aside0.mk ((by rw [hg];exact Nat.ne_of_gt (blk_lt (g:=gb157) (o:=.cells #[.int .u8 0,.slice none 0 0] 44 (0,0)) (by (with_reducible repeat (first|refine yE ?_ _|refine yF ?_|refine yG ?_ _));exact BK157.out)):gb167≠gb157));have n10_:=Aside0.mk ((by rw [hg];exact Nat.ne_of_lt (blk_lt (g:=gb161) (o:=.cells #[.int .u8 48,.slice Ao16 y158.length co16] 44 (0,0)) (by (with_reducible repeat (first|refine yE ?_ _|refine yF ?_|refine yG ?_ _));exact BK161.out)):gb161≠gb167));have n11_:=Aside0.mk ((by rw [hg];exact Nat.ne_of_gt (blk_lt (g:=gb161) (o:=.cells #[.int .u8 48,.slice Ao16 y158.length co16] 44 (0,0)) (by (with_reducible repeat (first|refine yE ?_ _|refine yF ?_|refine yG ?_ _));exact BK161.out)):gb167≠gb161));clear HO160;clear HO165;clear BK157;clear BK161;clear HB;have HO160:=n0_;have HO165:=n1_;have BK157:=n2_;have BK161:=n3_;have HB:=n4_;have BK167:=n5_;have GW167:=n6_;have GE167:=n7_;have NB157_167:=n8_;have NB167_157:=n9_;have NB161_167:=n10_;have NB167_161:=n11_;clear n0_ n1_ n2_ n3_ n4_ n5_ n6_ n7_ n8_ n9_ n10_ n11_;clear hb hbox hg;have hnb22:=NB167_157.out;have hnc22:=NB157_167.out;have hnb23:=NB167_161.out;have hnc23:=NB161_167.out;have hcz24_0:w21.cell? ⟨gb167,0,none⟩=some (.int .u8 0):=(blk_cell BK167.out 0).trans rfl;have hcz24_1:w21.cell? ⟨gb167,1,none⟩=some (.slice none 0 0):=(blk_cell BK167.out 1).trans rfl;have hfz24_0:=blk_frozen BK167.out 0;have hfz24_1:=blk_frozen BK167.out 1;obtain ⟨Ao25,co25,eo25⟩:=Kd.R_slice HO165.out;subst eo25;have hcz26_0:w21.cell? ⟨gb161,0,none⟩=some (.int .u8 48):=(blk_cell BK161.out 0).trans rfl;have hcz26_1:w21.cell? ⟨gb161,1,none⟩=some (.slice Ao16 y158.length co16):=(blk_cell BK161.out 1).trans rfl;have hfz26_0:=blk_frozen BK161.out 0;have hfz26_1:=blk_frozen BK161.out 1;have hcz27_0:w21.cell? ⟨gb157,0,none⟩=some (.int .u8 0):=(blk_cell BK157.out 0).trans rfl;have hcz27_1:w21.cell? ⟨gb157,1,none⟩=some (.slice none 0 0):=(blk_cell BK157.out 1).trans rfl;have hfz27_0:=blk_frozen BK157.out 0;have hfz27_1:=blk_frozen BK157.out 1))
   refine bodyPost_ret (results_ct rfl _ _ gb157 44 #[.int .u8 48,.slice Ao16 y158.length co16] (0,0) _ rfl (by (with_reducible repeat (first|refine yE ?_ _|refine yF ?_|refine yG ?_ _));refine blk_put (cs:=#[.int .u8 48,.slice none 0 0]) ?_ 1 _ rfl;(with_reducible repeat (first|refine yE ?_ _|refine yF ?_|refine yG ?_ _));refine blk_put (cs:=#[.int .u8 0,.slice none 0 0]) ?_ 0 _ rfl;(with_reducible repeat (first|refine yE ?_ _|refine yF ?_|refine yG ?_ _));refine blk_far ?_ NB157_167.out _;(with_reducible repeat (first|refine yE ?_ _|refine yF ?_|refine yG ?_ _));refine blk_far ?_ NB157_167.out _;(with_reducible repeat (first|refine yE ?_ _|refine yF ?_|refine yG ?_ _));exact BK157.out) Try.underlying44 rfl (by kernel_rfl)) rfl ?_
   exact ⟨_,by first|rfl|(simp [errW_none,errW_some]<;>rfl)|(simp [*,errW_none,errW_some]<;>rfl)|(simp [errW_none,errW_some];exact ⟨rfl,rfl⟩),by (with_reducible repeat (first|apply yH|apply yI|apply yJ));exact Kd.R_mono (Kd.R_far (p:=⟨gb157,1,none⟩) (Kd.R_far (p:=⟨gb157,0,none⟩) (Kd.R_far (p:=⟨gb167,1,none⟩) (Kd.R_far (p:=⟨gb167,0,none⟩) (Kd.R_mono (Kd.R_mono HO160.out (fun k_ hk=>(⟨hk,hk.2⟩:_∧k_≠gb167))) (fun k_ hk=>(⟨hk,hk.1.1.1.1.2⟩:_∧k_≠gb157))) (fun _ hk=>hk.1.2) (.int .u8 t162)) (fun _ hk=>hk.1.2) (.slice Ao25 t163.length co25)) (fun _ hk=>hk.2) (.int .u8 48)) (fun _ hk=>hk.2) (.slice Ao16 y158.length co16)) (fun _ hk=>trivial),by repeat (first|(with_reducible first|exact HB.out|apply yA|apply yB|apply yC|refine yD ?_ GE157.out|refine yD ?_ GE161.out|refine yD ?_ GE167.out)|exact HB.out)⟩
  ·rw [if_neg c12] at H
   have c12b0:(t166 == 0)=false:=beq_eq_false_iff_ne.mpr c12
   have c12b1:(t166 != 0)=true:=bne_iff_ne.mpr c12
   by_cases c28:t166=(a0.size:Int)
   ·rw [if_pos c28] at H
    have c28b0:(t166 == (a0.size:Int))=true:=beq_iff_eq.mpr c28
    have c28b1:(t166 != (a0.size:Int))=false:=bne_eq_false_iff_eq.mpr c28
    clear c28
    simp only [Option.some.injEq,Prod.mk.injEq] at H
    obtain ⟨rfl,rfl,rfl⟩:=H
    go_enter Try.func27,Try.ntmps27
    go_wp2_with (first|((with_reducible refine gate_dst (N:=2) rfl ?_);(try (refine gate_guard (by rfl) ?_;dsimp only));refine box_event ?hg (N:=2) ?hd (cs:=#[.int .u8 0,.slice none 0 0]) (t:=44) ?hr ?_;(case hd=>rfl);(case hg=>rfl);(case hr=>first|(go_simp;done)|(go_simp;rfl));intro gb157 hg w29 hbox hb;have n0_:=Aside0.mk (yP (by repeat (first|(with_reducible first|exact HB.out|apply yA|apply yB|apply yC)|exact HB.out)) hb);have n1_:=Aside0.mk (hbox);have n2_:=Aside0.mk ((by rw [hg];exact (yQ (by repeat (first|(with_reducible first|exact HB.out|apply yA|apply yB|apply yC)|exact HB.out))):w.heap.size≤gb157));have n3_:=Aside0.mk ((by rw [hg];exact (yQ (by repeat (first|(with_reducible first|exact HB.out|apply yA|apply yB|apply yC)|exact HB.out))):w.heap.size≤gb157));clear HB;have HB:=n0_;have BK157:=n1_;have GW157:=n2_;have GE157:=n3_;clear n0_ n1_ n2_ n3_;clear hb hbox hg)|((with_reducible refine gate_dst (N:=7) rfl ?_);(try (refine gate_guard (by rfl) ?_;dsimp only));refine Kd.R_lit k44 _ 44 ?hg (N:=7) ?hd (xs:=([]:List (S44))) (inner:=[]) (ok:=fun _=>True) (okp:=fun _=>True) ?hr ?hp (fun _ hk=>hk) trivial (Below.refl _ _) (Nat.le_refl _) (by simp) ?_;(case hd=>rfl);(case hg=>rfl);(case hr=>first|(go_simp;done)|(go_simp;rfl));(case hp=>exact (Reps.none _ _));intro v159 w30 ho31 hb hg_ hnew_;clear hg_ hnew_;(first|rw [← Ny158.out] at ho31|(simp only [Int.reduceToNat] at ho31;rw [← Ny158.out] at ho31));have n0_:=Aside0.mk (Kd.R_lower (Kd.R_newB ho31 (g:=gb157) (o:=.cells #[.int .u8 0,.slice none 0 0] 44 (0,0)) (by (with_reducible repeat (first|refine yE ?_ _|refine yF ?_|refine yG ?_ _));exact BK157.out)) (yQ (by repeat (first|(with_reducible first|exact HB.out|apply yA|apply yB|apply yC|refine yD ?_ GE157.out)|exact HB.out))));have n1_:=Aside0.mk (blk_below (g:=gb157) (o:=.cells #[.int .u8 0,.slice none 0 0] 44 (0,0)) (by (with_reducible repeat (first|refine yE ?_ _|refine yF ?_|refine yG ?_ _));exact BK157.out) hb);have n2_:=Aside0.mk (yP (by repeat (first|(with_reducible first|exact HB.out|apply yA|apply yB|apply yC|refine yD ?_ GE157.out)|exact HB.out)) hb);clear BK157;clear HB;have HO160:=n0_;have BK157:=n1_;have HB:=n2_;clear n0_ n1_ n2_;clear hb ho31;obtain ⟨Ao32,co32,eo32⟩:=Kd.R_slice HO160.out;subst eo32)|((with_reducible refine gate_dst (N:=4) rfl ?_);(try (refine gate_guard (by rfl) ?_;dsimp only));refine box_event ?hg (N:=4) ?hd (cs:=#[.int .u8 0,.slice none 0 0]) (t:=44) ?hr ?_;(case hd=>rfl);(case hg=>rfl);(case hr=>first|(go_simp;done)|(go_simp;rfl));intro gb161 hg w33 hbox hb;have n0_:=Aside0.mk (Kd.R_below (Kd.R_elderB (by (with_reducible repeat (first|apply yH|apply yI|apply yJ));exact HO160.out) gb161 (Nat.le_of_eq hg.symm)) hb);have n1_:=Aside0.mk (blk_below (g:=gb157) (o:=.cells #[.int .u8 0,.slice none 0 0] 44 (0,0)) (by (with_reducible repeat (first|refine yE ?_ _|refine yF ?_|refine yG ?_ _));exact BK157.out) hb);have n2_:=Aside0.mk (yP (by repeat (first|(with_reducible first|exact HB.out|apply yA|apply yB|apply yC|refine yD ?_ GE157.out)|exact HB.out)) hb);have n3_:=Aside0.mk (hbox);have n4_:=Aside0.mk ((by rw [hg];exact (yQ (by repeat (first|(with_reducible first|exact HB.out|apply yA|apply yB|apply yC|refine yD ?_ GE157.out)|exact HB.out))):w.heap.size≤gb161));have n5_:=Aside0.mk ((by rw [hg];exact (yQ (by repeat (first|(with_reducible first|exact HB.out|apply yA|apply yB|apply yC|refine yD ?_ GE157.out)|exact HB.out))):w.heap.size≤gb161));have n6_:=Aside0.mk ((by rw [hg];exact Nat.ne_of_lt (blk_lt (g:=gb157) (o:=.cells #[.int .u8 0,.slice none 0 0] 44 (0,0)) (by (with_reducible repeat (first|refine yE ?_ _|refine yF ?_|refine yG ?_ _));exact BK157.out)):gb157≠gb161));have n7_:=Aside0.mk ((by rw [hg];exact Nat.ne_of_gt (blk_lt (g:=gb157) (o:=.cells #[.int .u8 0,.slice none 0 0] 44 (0,0)) (by (with_reducible repeat (first|refine yE ?_ _|refine yF ?_|refine yG ?_ _));exact BK157.out)):gb161≠gb157));clear HO160;clear BK157;clear HB;have HO160:=n0_;have BK157:=n1_;have HB:=n2_;have BK161:=n3_;have GW161:=n4_;have GE161:=n5_;have NB157_161:=n6_;have NB161_157:=n7_;clear n0_ n1_ n2_ n3_ n4_ n5_ n6_ n7_;clear hb hbox hg;have hnb34:=NB161_157.out;have hnc34:=NB157_161.out;have hcz35_0:w33.cell? ⟨gb161,0,none⟩=some (.int .u8 0):=(blk_cell BK161.out 0).trans rfl;have hcz35_1:w33.cell? ⟨gb161,1,none⟩=some (.slice none 0 0):=(blk_cell BK161.out 1).trans rfl;have hfz35_0:=blk_frozen BK161.out 0;have hfz35_1:=blk_frozen BK161.out 1)|((with_reducible refine gate_callee (f:=40) rfl ?_);refine goesL_ (some 15) rfl rfl Try.func40 (by kernel_rfl) rfl #[.string a0,.int .i64 0] rfl (by (try simp only [List.map_toArray,List.map_cons,List.map_nil]);first|done|rfl|(simp only [List.length_drop,List.length_take];rfl)) ?_;(with_reducible refine (spec_l7Read.calls a0 0 t162 t163 t166 _ A11.out).mono ?_);rintro e w36 ⟨v164,rfl,ho0,hb⟩;refine ⟨_,rfl,?_⟩;have n0_:=Aside0.mk (Kd.R_elder' (by (with_reducible repeat (first|apply yH|apply yI|apply yJ));exact (Kd.R_mono (Kd.R_far (p:=⟨gb161,1,none⟩) (Kd.R_far (p:=⟨gb161,0,none⟩) (Kd.R_mono HO160.out (fun k_ hk=>(⟨hk,hk.2⟩:_∧k_≠gb161))) (fun _ hk=>hk.2) (.int .u8 48)) (fun _ hk=>hk.2) (.slice Ao32 y158.length co32)) (fun _ h_=>h_.1))) (Kd.R_base ho0) hb);have n1_:=Aside0.mk (Kd.R_lower (Kd.R_newB (Kd.R_newB (Kd.R_new' ho0 (Kd.R_lt (by (with_reducible repeat (first|apply yH|apply yI|apply yJ));exact (Kd.R_mono (Kd.R_far (p:=⟨gb161,1,none⟩) (Kd.R_far (p:=⟨gb161,0,none⟩) (Kd.R_mono HO160.out (fun k_ hk=>(⟨hk,hk.2⟩:_∧k_≠gb161))) (fun _ hk=>hk.2) (.int .u8 48)) (fun _ hk=>hk.2) (.slice Ao32 y158.length co32)) (fun _ h_=>h_.1))))) (g:=gb157) (o:=.cells #[.int .u8 0,.slice none 0 0] 44 (0,0)) (by (with_reducible repeat (first|refine yE ?_ _|refine yF ?_|refine yG ?_ _));refine blk_far ?_ NB157_161.out _;(with_reducible repeat (first|refine yE ?_ _|refine yF ?_|refine yG ?_ _));refine blk_far ?_ NB157_161.out _;(with_reducible repeat (first|refine yE ?_ _|refine yF ?_|refine yG ?_ _));exact BK157.out)) (g:=gb161) (o:=.cells #[.int .u8 48,.slice Ao32 y158.length co32] 44 (0,0)) (by (with_reducible repeat (first|refine yE ?_ _|refine yF ?_|refine yG ?_ _));refine blk_put (cs:=#[.int .u8 48,.slice none 0 0]) ?_ 1 _ rfl;(with_reducible repeat (first|refine yE ?_ _|refine yF ?_|refine yG ?_ _));refine blk_put (cs:=#[.int .u8 0,.slice none 0 0]) ?_ 0 _ rfl;(with_reducible repeat (first|refine yE ?_ _|refine yF ?_|refine yG ?_ _));exact BK161.out)) (yQ (by repeat (first|(with_reducible first|exact HB.out|apply yA|apply yB|apply yC|refine yD ?_ GE157.out|refine yD ?_ GE161.out)|exact HB.out))));have n2_:=Aside0.mk (blk_below (g:=gb157) (o:=.cells #[.int .u8 0,.slice none 0 0] 44 (0,0)) (by (with_reducible repeat (first|refine yE ?_ _|refine yF ?_|refine yG ?_ _));refine blk_far ?_ NB157_161.out _;(with_reducible repeat (first|refine yE ?_ _|refine yF ?_|refine yG ?_ _));refine blk_far ?_ NB157_161.out _;(with_reducible repeat (first|refine yE ?_ _|refine yF ?_|refine yG ?_ _));exact BK157.out) hb);have n3_:=Aside0.mk (blk_below (g:=gb161) (o:=.cells #[.int .u8 48,.slice Ao32 y158.length co32] 44 (0,0)) (by (with_reducible repeat (first|refine yE ?_ _|refine yF ?_|refine yG ?_ _));refine blk_put (cs:=#[.int .u8 48,.slice none 0 0]) ?_ 1 _ rfl;(with_reducible repeat (first|refine yE ?_ _|refine yF ?_|refine yG ?_ _));refine blk_put (cs:=#[.int .u8 0,.slice none 0 0]) ?_ 0 _ rfl;(with_reducible repeat (first|refine yE ?_ _|refine yF ?_|refine yG ?_ _));exact BK161.out) hb);have n4_:=Aside0.mk (yP (by repeat (first|(with_reducible first|exact HB.out|apply yA|apply yB|apply yC|refine yD ?_ GE157.out|refine yD ?_ GE161.out)|exact HB.out)) hb);clear HO160;clear BK157;clear BK161;clear HB;have HO160:=n0_;have HO165:=n1_;have BK157:=n2_;have BK161:=n3_;have HB:=n4_;clear n0_ n1_ n2_ n3_ n4_;(try clear hb);(try clear hb2);(try clear hk);(try clear hi);(try clear ho0))|((with_reducible refine gate_dst (N:=5) rfl ?_);(try (refine gate_guard (by rfl) ?_;dsimp only));refine box_event ?hg (N:=5) ?hd (cs:=#[.int .u8 0,.slice none 0 0]) (t:=44) ?hr ?_;(case hd=>rfl);(case hg=>rfl);(case hr=>first|(go_simp;done)|(go_simp;rfl));intro gb167 hg w37 hbox hb;have n0_:=Aside0.mk (Kd.R_below (Kd.R_elderB (by (with_reducible repeat (first|apply yH|apply yI|apply yJ));exact HO160.out) gb167 (Nat.le_of_eq hg.symm)) hb);have n1_:=Aside0.mk (Kd.R_below (Kd.R_elderB (by (with_reducible repeat (first|apply yH|apply yI|apply yJ));exact HO165.out) gb167 (Nat.le_of_eq hg.symm)) hb);have n2_:=Aside0.mk (blk_below (g:=gb157) (o:=.cells #[.int .u8 0,.slice none 0 0] 44 (0,0)) (by (with_reducible repeat (first|refine yE ?_ _|refine yF ?_|refine yG ?_ _));exact BK157.out) hb);have n3_:=Aside0.mk (blk_below (g:=gb161) (o:=.cells #[.int .u8 48,.slice Ao32 y158.length co32] 44 (0,0)) (by (with_reducible repeat (first|refine yE ?_ _|refine yF ?_|refine yG ?_ _));exact BK161.out) hb);have n4_:=Aside0.mk (yP (by repeat (first|(with_reducible first|exact HB.out|apply yA|apply yB|apply yC|refine yD ?_ GE157.out|refine yD ?_ GE161.out)|exact HB.out)) hb);have n5_:=Aside0.mk (hbox);have n6_:=Aside0.mk ((by rw [hg];exact (yQ (by repeat (first|(with_reducible first|exact HB.out|apply yA|apply yB|apply yC|refine yD ?_ GE157.out|refine yD ?_ GE161.out)|exact HB.out))):w.heap.size≤gb167));have n7_:=Aside0.mk ((by rw [hg];exact (yQ (by repeat (first|(with_reducible first|exact HB.out|apply yA|apply yB|apply yC|refine yD ?_ GE157.out|refine yD ?_ GE161.out)|exact HB.out))):w.heap.size≤gb167));have n8_:=Aside0.mk ((by rw [hg];exact Nat.ne_of_lt (blk_lt (g:=gb157) (o:=.cells #[.int .u8 0,.slice none 0 0] 44 (0,0)) (by (with_reducible repeat (first|refine yE ?_ _|refine yF ?_|refine yG ?_ _));exact BK157.out)):gb157≠gb167));have n9_:=Aside0.mk ((by rw [hg];exact Nat.ne_of_gt (blk_lt (g:=gb157) (o:=.cells #[.int .u8 0,.slice none 0 0] 44 (0,0)) (by (with_reducible repeat (first|refine yE ?_ _|refine yF ?_|refine yG ?_ _));exact BK157.out)):gb167≠gb157));have n10_:=Aside0.mk ((by rw [hg];exact Nat.ne_of_lt (blk_lt (g:=gb161) (o:=.cells #[.int .u8 48,.slice Ao32 y158.length co32] 44 (0,0)) (by (with_reducible repeat (first|refine yE ?_ _|refine yF ?_|refine yG ?_ _));exact BK161.out)):gb161≠gb167));have n11_:=Aside0.mk ((by rw [hg];exact Nat.ne_of_gt (blk_lt (g:=gb161) (o:=.cells #[.int .u8 48,.slice Ao32 y158.length co32] 44 (0,0)) (by (with_reducible repeat (first|refine yE ?_ _|refine yF ?_|refine yG ?_ _));exact BK161.out)):gb167≠gb161));clear HO160;clear HO165;clear BK157;clear BK161;clear HB;have HO160:=n0_;have HO165:=n1_;have BK157:=n2_;have BK161:=n3_;have HB:=n4_;have BK167:=n5_;have GW167:=n6_;have GE167:=n7_;have NB157_167:=n8_;have NB167_157:=n9_;have NB161_167:=n10_;have NB167_161:=n11_;clear n0_ n1_ n2_ n3_ n4_ n5_ n6_ n7_ n8_ n9_ n10_ n11_;clear hb hbox hg;have hnb38:=NB167_157.out;have hnc38:=NB157_167.out;have hnb39:=NB167_161.out;have hnc39:=NB161_167.out;have hcz40_0:w37.cell? ⟨gb167,0,none⟩=some (.int .u8 0):=(blk_cell BK167.out 0).trans rfl;have hcz40_1:w37.cell? ⟨gb167,1,none⟩=some (.slice none 0 0):=(blk_cell BK167.out 1).trans rfl;have hfz40_0:=blk_frozen BK167.out 0;have hfz40_1:=blk_frozen BK167.out 1;obtain ⟨Ao41,co41,eo41⟩:=Kd.R_slice HO165.out;subst eo41;have hcz42_0:w37.cell? ⟨gb157,0,none⟩=some (.int .u8 0):=(blk_cell BK157.out 0).trans rfl;have hcz42_1:w37.cell? ⟨gb157,1,none⟩=some (.slice none 0 0):=(blk_cell BK157.out 1).trans rfl;have hfz42_0:=blk_frozen BK157.out 0;have hfz42_1:=blk_frozen BK157.out 1))
    refine bodyPost_ret (results_ct rfl _ _ gb157 44 #[.int .u8 t162,.slice Ao41 t163.length co41] (0,0) _ rfl (by (with_reducible repeat (first|refine yE ?_ _|refine yF ?_|refine yG ?_ _));refine blk_put (cs:=#[.int .u8 t162,.slice none 0 0]) ?_ 1 _ rfl;(with_reducible repeat (first|refine yE ?_ _|refine yF ?_|refine yG ?_ _));refine blk_put (cs:=#[.int .u8 0,.slice none 0 0]) ?_ 0 _ rfl;(with_reducible repeat (first|refine yE ?_ _|refine yF ?_|refine yG ?_ _));refine blk_far ?_ NB157_167.out _;(with_reducible repeat (first|refine yE ?_ _|refine yF ?_|refine yG ?_ _));refine blk_far ?_ NB157_167.out _;(with_reducible repeat (first|refine yE ?_ _|refine yF ?_|refine yG ?_ _));exact BK157.out) Try.underlying44 rfl (by kernel_rfl)) rfl ?_
    exact ⟨_,by first|rfl|(simp [errW_none,errW_some]<;>rfl)|(simp [*,errW_none,errW_some]<;>rfl)|(simp [errW_none,errW_some];exact ⟨rfl,rfl⟩),by (with_reducible repeat (first|apply yH|apply yI|apply yJ));exact Kd.R_mono (Kd.R_far (p:=⟨gb157,1,none⟩) (Kd.R_far (p:=⟨gb157,0,none⟩) (Kd.R_far (p:=⟨gb167,1,none⟩) (Kd.R_far (p:=⟨gb167,0,none⟩) (Kd.R_mono (Kd.R_mono HO165.out (fun k_ hk=>(⟨hk,hk.2⟩:_∧k_≠gb167))) (fun k_ hk=>(⟨hk,hk.1.1.1.2⟩:_∧k_≠gb157))) (fun _ hk=>hk.1.2) (.int .u8 t162)) (fun _ hk=>hk.1.2) (.slice Ao41 t163.length co41)) (fun _ hk=>hk.2) (.int .u8 t162)) (fun _ hk=>hk.2) (.slice Ao41 t163.length co41)) (fun _ hk=>trivial),by repeat (first|(with_reducible first|exact HB.out|apply yA|apply yB|apply yC|refine yD ?_ GE157.out|refine yD ?_ GE161.out|refine yD ?_ GE167.out)|exact HB.out)⟩
   ·rw [if_neg c28] at H
    have c28b0:(t166 == (a0.size:Int))=false:=beq_eq_false_iff_ne.mpr c28
    have c28b1:(t166 != (a0.size:Int))=true:=bne_iff_ne.mpr c28
    simp only [Option.some.injEq,Prod.mk.injEq] at H
    obtain ⟨rfl,rfl,rfl⟩:=H
    go_enter Try.func27,Try.ntmps27
    go_wp2_with (first|((with_reducible refine gate_dst (N:=2) rfl ?_);(try (refine gate_guard (by rfl) ?_;dsimp only));refine box_event ?hg (N:=2) ?hd (cs:=#[.int .u8 0,.slice none 0 0]) (t:=44) ?hr ?_;(case hd=>rfl);(case hg=>rfl);(case hr=>first|(go_simp;done)|(go_simp;rfl));intro gb157 hg w43 hbox hb;have n0_:=Aside0.mk (yP (by repeat (first|(with_reducible first|exact HB.out|apply yA|apply yB|apply yC)|exact HB.out)) hb);have n1_:=Aside0.mk (hbox);have n2_:=Aside0.mk ((by rw [hg];exact (yQ (by repeat (first|(with_reducible first|exact HB.out|apply yA|apply yB|apply yC)|exact HB.out))):w.heap.size≤gb157));have n3_:=Aside0.mk ((by rw [hg];exact (yQ (by repeat (first|(with_reducible first|exact HB.out|apply yA|apply yB|apply yC)|exact HB.out))):w.heap.size≤gb157));clear HB;have HB:=n0_;have BK157:=n1_;have GW157:=n2_;have GE157:=n3_;clear n0_ n1_ n2_ n3_;clear hb hbox hg)|((with_reducible refine gate_dst (N:=7) rfl ?_);(try (refine gate_guard (by rfl) ?_;dsimp only));refine Kd.R_lit k44 _ 44 ?hg (N:=7) ?hd (xs:=([]:List (S44))) (inner:=[]) (ok:=fun _=>True) (okp:=fun _=>True) ?hr ?hp (fun _ hk=>hk) trivial (Below.refl _ _) (Nat.le_refl _) (by simp) ?_;(case hd=>rfl);(case hg=>rfl);(case hr=>first|(go_simp;done)|(go_simp;rfl));(case hp=>exact (Reps.none _ _));intro v159 w44 ho45 hb hg_ hnew_;clear hg_ hnew_;(first|rw [← Ny158.out] at ho45|(simp only [Int.reduceToNat] at ho45;rw [← Ny158.out] at ho45));have n0_:=Aside0.mk (Kd.R_lower (Kd.R_newB ho45 (g:=gb157) (o:=.cells #[.int .u8 0,.slice none 0 0] 44 (0,0)) (by (with_reducible repeat (first|refine yE ?_ _|refine yF ?_|refine yG ?_ _));exact BK157.out)) (yQ (by repeat (first|(with_reducible first|exact HB.out|apply yA|apply yB|apply yC|refine yD ?_ GE157.out)|exact HB.out))));have n1_:=Aside0.mk (blk_below (g:=gb157) (o:=.cells #[.int .u8 0,.slice none 0 0] 44 (0,0)) (by (with_reducible repeat (first|refine yE ?_ _|refine yF ?_|refine yG ?_ _));exact BK157.out) hb);have n2_:=Aside0.mk (yP (by repeat (first|(with_reducible first|exact HB.out|apply yA|apply yB|apply yC|refine yD ?_ GE157.out)|exact HB.out)) hb);clear BK157;clear HB;have HO160:=n0_;have BK157:=n1_;have HB:=n2_;clear n0_ n1_ n2_;clear hb ho45;obtain ⟨Ao46,co46,eo46⟩:=Kd.R_slice HO160.out;subst eo46)|((with_reducible refine gate_dst (N:=4) rfl ?_);(try (refine gate_guard (by rfl) ?_;dsimp only));refine box_event ?hg (N:=4) ?hd (cs:=#[.int .u8 0,.slice none 0 0]) (t:=44) ?hr ?_;(case hd=>rfl);(case hg=>rfl);(case hr=>first|(go_simp;done)|(go_simp;rfl));intro gb161 hg w47 hbox hb;have n0_:=Aside0.mk (Kd.R_below (Kd.R_elderB (by (with_reducible repeat (first|apply yH|apply yI|apply yJ));exact HO160.out) gb161 (Nat.le_of_eq hg.symm)) hb);have n1_:=Aside0.mk (blk_below (g:=gb157) (o:=.cells #[.int .u8 0,.slice none 0 0] 44 (0,0)) (by (with_reducible repeat (first|refine yE ?_ _|refine yF ?_|refine yG ?_ _));exact BK157.out) hb);have n2_:=Aside0.mk (yP (by repeat (first|(with_reducible first|exact HB.out|apply yA|apply yB|apply yC|refine yD ?_ GE157.out)|exact HB.out)) hb);have n3_:=Aside0.mk (hbox);have n4_:=Aside0.mk ((by rw [hg];exact (yQ (by repeat (first|(with_reducible first|exact HB.out|apply yA|apply yB|apply yC|refine yD ?_ GE157.out)|exact HB.out))):w.heap.size≤gb161));have n5_:=Aside0.mk ((by rw [hg];exact (yQ (by repeat (first|(with_reducible first|exact HB.out|apply yA|apply yB|apply yC|refine yD ?_ GE157.out)|exact HB.out))):w.heap.size≤gb161));have n6_:=Aside0.mk ((by rw [hg];exact Nat.ne_of_lt (blk_lt (g:=gb157) (o:=.cells #[.int .u8 0,.slice none 0 0] 44 (0,0)) (by (with_reducible repeat (first|refine yE ?_ _|refine yF ?_|refine yG ?_ _));exact BK157.out)):gb157≠gb161));have n7_:=Aside0.mk ((by rw [hg];exact Nat.ne_of_gt (blk_lt (g:=gb157) (o:=.cells #[.int .u8 0,.slice none 0 0] 44 (0,0)) (by (with_reducible repeat (first|refine yE ?_ _|refine yF ?_|refine yG ?_ _));exact BK157.out)):gb161≠gb157));clear HO160;clear BK157;clear HB;have HO160:=n0_;have BK157:=n1_;have HB:=n2_;have BK161:=n3_;have GW161:=n4_;have GE161:=n5_;have NB157_161:=n6_;have NB161_157:=n7_;clear n0_ n1_ n2_ n3_ n4_ n5_ n6_ n7_;clear hb hbox hg;have hnb48:=NB161_157.out;have hnc48:=NB157_161.out;have hcz49_0:w47.cell? ⟨gb161,0,none⟩=some (.int .u8 0):=(blk_cell BK161.out 0).trans rfl;have hcz49_1:w47.cell? ⟨gb161,1,none⟩=some (.slice none 0 0):=(blk_cell BK161.out 1).trans rfl;have hfz49_0:=blk_frozen BK161.out 0;have hfz49_1:=blk_frozen BK161.out 1)|((with_reducible refine gate_callee (f:=40) rfl ?_);refine goesL_ (some 15) rfl rfl Try.func40 (by kernel_rfl) rfl #[.string a0,.int .i64 0] rfl (by (try simp only [List.map_toArray,List.map_cons,List.map_nil]);first|done|rfl|(simp only [List.length_drop,List.length_take];rfl)) ?_;(with_reducible refine (spec_l7Read.calls a0 0 t162 t163 t166 _ A11.out).mono ?_);rintro e w50 ⟨v164,rfl,ho0,hb⟩;refine ⟨_,rfl,?_⟩;have n0_:=Aside0.mk (Kd.R_elder' (by (with_reducible repeat (first|apply yH|apply yI|apply yJ));exact (Kd.R_mono (Kd.R_far (p:=⟨gb161,1,none⟩) (Kd.R_far (p:=⟨gb161,0,none⟩) (Kd.R_mono HO160.out (fun k_ hk=>(⟨hk,hk.2⟩:_∧k_≠gb161))) (fun _ hk=>hk.2) (.int .u8 48)) (fun _ hk=>hk.2) (.slice Ao46 y158.length co46)) (fun _ h_=>h_.1))) (Kd.R_base ho0) hb);have n1_:=Aside0.mk (Kd.R_lower (Kd.R_newB (Kd.R_newB (Kd.R_new' ho0 (Kd.R_lt (by (with_reducible repeat (first|apply yH|apply yI|apply yJ));exact (Kd.R_mono (Kd.R_far (p:=⟨gb161,1,none⟩) (Kd.R_far (p:=⟨gb161,0,none⟩) (Kd.R_mono HO160.out (fun k_ hk=>(⟨hk,hk.2⟩:_∧k_≠gb161))) (fun _ hk=>hk.2) (.int .u8 48)) (fun _ hk=>hk.2) (.slice Ao46 y158.length co46)) (fun _ h_=>h_.1))))) (g:=gb157) (o:=.cells #[.int .u8 0,.slice none 0 0] 44 (0,0)) (by (with_reducible repeat (first|refine yE ?_ _|refine yF ?_|refine yG ?_ _));refine blk_far ?_ NB157_161.out _;(with_reducible repeat (first|refine yE ?_ _|refine yF ?_|refine yG ?_ _));refine blk_far ?_ NB157_161.out _;(with_reducible repeat (first|refine yE ?_ _|refine yF ?_|refine yG ?_ _));exact BK157.out)) (g:=gb161) (o:=.cells #[.int .u8 48,.slice Ao46 y158.length co46] 44 (0,0)) (by (with_reducible repeat (first|refine yE ?_ _|refine yF ?_|refine yG ?_ _));refine blk_put (cs:=#[.int .u8 48,.slice none 0 0]) ?_ 1 _ rfl;(with_reducible repeat (first|refine yE ?_ _|refine yF ?_|refine yG ?_ _));refine blk_put (cs:=#[.int .u8 0,.slice none 0 0]) ?_ 0 _ rfl;(with_reducible repeat (first|refine yE ?_ _|refine yF ?_|refine yG ?_ _));exact BK161.out)) (yQ (by repeat (first|(with_reducible first|exact HB.out|apply yA|apply yB|apply yC|refine yD ?_ GE157.out|refine yD ?_ GE161.out)|exact HB.out))));have n2_:=Aside0.mk (blk_below (g:=gb157) (o:=.cells #[.int .u8 0,.slice none 0 0] 44 (0,0)) (by (with_reducible repeat (first|refine yE ?_ _|refine yF ?_|refine yG ?_ _));refine blk_far ?_ NB157_161.out _;(with_reducible repeat (first|refine yE ?_ _|refine yF ?_|refine yG ?_ _));refine blk_far ?_ NB157_161.out _;(with_reducible repeat (first|refine yE ?_ _|refine yF ?_|refine yG ?_ _));exact BK157.out) hb);have n3_:=Aside0.mk (blk_below (g:=gb161) (o:=.cells #[.int .u8 48,.slice Ao46 y158.length co46] 44 (0,0)) (by (with_reducible repeat (first|refine yE ?_ _|refine yF ?_|refine yG ?_ _));refine blk_put (cs:=#[.int .u8 48,.slice none 0 0]) ?_ 1 _ rfl;(with_reducible repeat (first|refine yE ?_ _|refine yF ?_|refine yG ?_ _));refine blk_put (cs:=#[.int .u8 0,.slice none 0 0]) ?_ 0 _ rfl;(with_reducible repeat (first|refine yE ?_ _|refine yF ?_|refine yG ?_ _));exact BK161.out) hb);have n4_:=Aside0.mk (yP (by repeat (first|(with_reducible first|exact HB.out|apply yA|apply yB|apply yC|refine yD ?_ GE157.out|refine yD ?_ GE161.out)|exact HB.out)) hb);clear HO160;clear BK157;clear BK161;clear HB;have HO160:=n0_;have HO165:=n1_;have BK157:=n2_;have BK161:=n3_;have HB:=n4_;clear n0_ n1_ n2_ n3_ n4_;(try clear hb);(try clear hb2);(try clear hk);(try clear hi);(try clear ho0))|((with_reducible refine gate_dst (N:=5) rfl ?_);(try (refine gate_guard (by rfl) ?_;dsimp only));refine box_event ?hg (N:=5) ?hd (cs:=#[.int .u8 0,.slice none 0 0]) (t:=44) ?hr ?_;(case hd=>rfl);(case hg=>rfl);(case hr=>first|(go_simp;done)|(go_simp;rfl));intro gb167 hg w51 hbox hb;have n0_:=Aside0.mk (Kd.R_below (Kd.R_elderB (by (with_reducible repeat (first|apply yH|apply yI|apply yJ));exact HO160.out) gb167 (Nat.le_of_eq hg.symm)) hb);have n1_:=Aside0.mk (Kd.R_below (Kd.R_elderB (by (with_reducible repeat (first|apply yH|apply yI|apply yJ));exact HO165.out) gb167 (Nat.le_of_eq hg.symm)) hb);have n2_:=Aside0.mk (blk_below (g:=gb157) (o:=.cells #[.int .u8 0,.slice none 0 0] 44 (0,0)) (by (with_reducible repeat (first|refine yE ?_ _|refine yF ?_|refine yG ?_ _));exact BK157.out) hb);have n3_:=Aside0.mk (blk_below (g:=gb161) (o:=.cells #[.int .u8 48,.slice Ao46 y158.length co46] 44 (0,0)) (by (with_reducible repeat (first|refine yE ?_ _|refine yF ?_|refine yG ?_ _));exact BK161.out) hb);have n4_:=Aside0.mk (yP (by repeat (first|(with_reducible first|exact HB.out|apply yA|apply yB|apply yC|refine yD ?_ GE157.out|refine yD ?_ GE161.out)|exact HB.out)) hb);have n5_:=Aside0.mk (hbox);have n6_:=Aside0.mk ((by rw [hg];exact (yQ (by repeat (first|(with_reducible first|exact HB.out|apply yA|apply yB|apply yC|refine yD ?_ GE157.out|refine yD ?_ GE161.out)|exact HB.out))):w.heap.size≤gb167));have n7_:=Aside0.mk ((by rw [hg];exact (yQ (by repeat (first|(with_reducible first|exact HB.out|apply yA|apply yB|apply yC|refine yD ?_ GE157.out|refine yD ?_ GE161.out)|exact HB.out))):w.heap.size≤gb167));have n8_:=Aside0.mk ((by rw [hg];exact Nat.ne_of_lt (blk_lt (g:=gb157) (o:=.cells #[.int .u8 0,.slice none 0 0] 44 (0,0)) (by (with_reducible repeat (first|refine yE ?_ _|refine yF ?_|refine yG ?_ _));exact BK157.out)):gb157≠gb167));have n9_:=Aside0.mk ((by rw [hg];exact Nat.ne_of_gt (blk_lt (g:=gb157) (o:=.cells #[.int .u8 0,.slice none 0 0] 44 (0,0)) (by (with_reducible repeat (first|refine yE ?_ _|refine yF ?_|refine yG ?_ _));exact BK157.out)):gb167≠gb157));have n10_:=Aside0.mk ((by rw [hg];exact Nat.ne_of_lt (blk_lt (g:=gb161) (o:=.cells #[.int .u8 48,.slice Ao46 y158.length co46] 44 (0,0)) (by (with_reducible repeat (first|refine yE ?_ _|refine yF ?_|refine yG ?_ _));exact BK161.out)):gb161≠gb167));have n11_:=Aside0.mk ((by rw [hg];exact Nat.ne_of_gt (blk_lt (g:=gb161) (o:=.cells #[.int .u8 48,.slice Ao46 y158.length co46] 44 (0,0)) (by (with_reducible repeat (first|refine yE ?_ _|refine yF ?_|refine yG ?_ _));exact BK161.out)):gb167≠gb161));clear HO160;clear HO165;clear BK157;clear BK161;clear HB;have HO160:=n0_;have HO165:=n1_;have BK157:=n2_;have BK161:=n3_;have HB:=n4_;have BK167:=n5_;have GW167:=n6_;have GE167:=n7_;have NB157_167:=n8_;have NB167_157:=n9_;have NB161_167:=n10_;have NB167_161:=n11_;clear n0_ n1_ n2_ n3_ n4_ n5_ n6_ n7_ n8_ n9_ n10_ n11_;clear hb hbox hg;have hnb52:=NB167_157.out;have hnc52:=NB157_167.out;have hnb53:=NB167_161.out;have hnc53:=NB161_167.out;have hcz54_0:w51.cell? ⟨gb167,0,none⟩=some (.int .u8 0):=(blk_cell BK167.out 0).trans rfl;have hcz54_1:w51.cell? ⟨gb167,1,none⟩=some (.slice none 0 0):=(blk_cell BK167.out 1).trans rfl;have hfz54_0:=blk_frozen BK167.out 0;have hfz54_1:=blk_frozen BK167.out 1;obtain ⟨Ao55,co55,eo55⟩:=Kd.R_slice HO165.out;subst eo55;have hcz56_0:w51.cell? ⟨gb161,0,none⟩=some (.int .u8 48):=(blk_cell BK161.out 0).trans rfl;have hcz56_1:w51.cell? ⟨gb161,1,none⟩=some (.slice Ao46 y158.length co46):=(blk_cell BK161.out 1).trans rfl;have hfz56_0:=blk_frozen BK161.out 0;have hfz56_1:=blk_frozen BK161.out 1;have hcz57_0:w51.cell? ⟨gb157,0,none⟩=some (.int .u8 0):=(blk_cell BK157.out 0).trans rfl;have hcz57_1:w51.cell? ⟨gb157,1,none⟩=some (.slice none 0 0):=(blk_cell BK157.out 1).trans rfl;have hfz57_0:=blk_frozen BK157.out 0;have hfz57_1:=blk_frozen BK157.out 1))
    refine bodyPost_ret (results_ct rfl _ _ gb157 44 #[.int .u8 48,.slice Ao46 y158.length co46] (0,0) _ rfl (by (with_reducible repeat (first|refine yE ?_ _|refine yF ?_|refine yG ?_ _));refine blk_put (cs:=#[.int .u8 48,.slice none 0 0]) ?_ 1 _ rfl;(with_reducible repeat (first|refine yE ?_ _|refine yF ?_|refine yG ?_ _));refine blk_put (cs:=#[.int .u8 0,.slice none 0 0]) ?_ 0 _ rfl;(with_reducible repeat (first|refine yE ?_ _|refine yF ?_|refine yG ?_ _));refine blk_far ?_ NB157_167.out _;(with_reducible repeat (first|refine yE ?_ _|refine yF ?_|refine yG ?_ _));refine blk_far ?_ NB157_167.out _;(with_reducible repeat (first|refine yE ?_ _|refine yF ?_|refine yG ?_ _));exact BK157.out) Try.underlying44 rfl (by kernel_rfl)) rfl ?_
    exact ⟨_,by first|rfl|(simp [errW_none,errW_some]<;>rfl)|(simp [*,errW_none,errW_some]<;>rfl)|(simp [errW_none,errW_some];exact ⟨rfl,rfl⟩),by (with_reducible repeat (first|apply yH|apply yI|apply yJ));exact Kd.R_mono (Kd.R_far (p:=⟨gb157,1,none⟩) (Kd.R_far (p:=⟨gb157,0,none⟩) (Kd.R_far (p:=⟨gb167,1,none⟩) (Kd.R_far (p:=⟨gb167,0,none⟩) (Kd.R_mono (Kd.R_mono HO160.out (fun k_ hk=>(⟨hk,hk.2⟩:_∧k_≠gb167))) (fun k_ hk=>(⟨hk,hk.1.1.1.1.2⟩:_∧k_≠gb157))) (fun _ hk=>hk.1.2) (.int .u8 t162)) (fun _ hk=>hk.1.2) (.slice Ao55 t163.length co55)) (fun _ hk=>hk.2) (.int .u8 48)) (fun _ hk=>hk.2) (.slice Ao46 y158.length co46)) (fun _ hk=>trivial),by repeat (first|(with_reducible first|exact HB.out|apply yA|apply yB|apply yC|refine yD ?_ GE157.out|refine yD ?_ GE161.out|refine yD ?_ GE167.out)|exact HB.out)⟩

end Go.Proofs.Ytjjnckgdpdelkaa.P

namespace Go.Proofs.Ytjjnckgdpdelkaa.P
open Go.RowKit Go.Proofs.YtjjnckgdpdelkaaW.PrintWords Go.Proofs.YtjjnckgdpdelkaaW.PrintLast Go.Proofs.YtjjnckgdpdelkaaW.PrintMore
attribute [local go_sem] max2_int min2_int max_two min_two max_three min_three max_four min_four   -- for this text's walks alone
set_option linter.unusedVariables false
set_option linter.unusedSimpArgs false

/-! ### spec_TermEmpty: function 10 -/
def spec_TermEmpty.f (k:Nat) (a0:ByteArray):Option (Bool):=(spec_l7Of.f a0).bind fun bt211=>(if bt211.2.2=true then ((spec_l7Marks.f k bt211.1 bt211.2.1 1).bind fun t217=>(if 0<(t217.length:Int) then (some (rdOf false t217 0)) else (none))) else (some false))
theorem spec_TermEmpty.mono:∀ a0 k,LeO (spec_TermEmpty.f k a0) (spec_TermEmpty.f (k+1) a0):=by
 intro a0 k
 unfold spec_TermEmpty.f
 repeat' first
   | (with_reducible exact spec_l7Marks.mono _ _ _ _)
   | (with_reducible exact LeO.refl _)
   | (with_reducible exact LeO.none _)
   | (with_reducible refine LeO.ite ?_ ?_)
   | (with_reducible refine LeO.bind ?_ (fun _=>?_))
   | exact spec_l7Marks.mono _ _ _ _
   | exact LeO.none _
   | refine LeO.ite ?_ ?_
   | refine LeO.bind ?_ (fun _=>?_)
set_option maxHeartbeats 8000000 in
set_option maxRecDepth 100000 in
theorem spec_TermEmpty.calls (k:Nat) (a0:ByteArray) (r:Bool) (w:World) (h:spec_TermEmpty.f k a0=some r) :
  Calls Try.prog 10 #[.string a0] w fun e w'=>e=.returned (.bool r)∧Below w.heap.size w w':=by
 have hu44:=Try.underlying44
 have HB:=Aside0.mk (Below.refl w.heap.size w)
 have H:((spec_l7Of.f a0).bind fun bt211=>(if bt211.2.2=true then ((spec_l7Marks.f k bt211.1 bt211.2.1 1).bind fun t217=>(if 0<(t217.length:Int) then (some (rdOf false t217 0)) else (none))) else (some false)))=some r:=h
 clear h
 replace H:=Option.bind_eq_some_iff.mp H
 obtain ⟨⟨t211,t212,t215⟩,A20,H⟩:=H
 replace H:(if t215=true then ((spec_l7Marks.f k t211 t212 1).bind fun t217=>(if 0<(t217.length:Int) then (some (rdOf false t217 0)) else (none))) else (some false))=some r:=H
 have A2:=Aside0.mk A20
 clear A20
 by_cases c3:t215=true
 ·subst c3
  have H1:((spec_l7Marks.f k t211 t212 1).bind fun t217=>(if 0<(t217.length:Int) then (some (rdOf false t217 0)) else (none)))=some r:=by rw [if_pos rfl] at H;exact H
  clear H
  have H:=H1
  clear H1
  replace H:=Option.bind_eq_some_iff.mp H
  obtain ⟨t217,A40,H⟩:=H
  replace H:(if 0<(t217.length:Int) then (some (rdOf false t217 0)) else (none))=some r:=H
  have A4:=Aside0.mk A40
  clear A40
  by_cases c5:0<(t217.length:Int)
  ·rw [if_pos c5] at H
   have c5b0:decide (0<(t217.length:Int))=true:=decide_eq_true c5
   have c5b1:decide (0<t217.length)=true:=decide_eq_true (by omega)
   clear c5
   obtain rfl:=Option.some.inj H
   go_enter Try.func10,Try.ntmps10
   go_wp2_with (first|((with_reducible refine gate_callee (f:=27) rfl ?_);refine goesL_ (some 7) rfl rfl Try.func27 (by kernel_rfl) rfl #[.string a0] rfl (by (try simp only [List.map_toArray,List.map_cons,List.map_nil]);first|done|rfl|(simp only [List.length_drop,List.length_take];rfl)) ?_;(with_reducible refine (spec_l7Of.calls a0 t211 t212 true _ A2.out).mono ?_);rintro e w6 ⟨v213,rfl,ho0,hb⟩;refine ⟨_,rfl,?_⟩;have n0_:=Aside0.mk (Kd.R_lower ho0 (yQ (by repeat (first|(with_reducible first|exact HB.out|apply yA|apply yB|apply yC)|exact HB.out))));have n1_:=Aside0.mk (yP (by repeat (first|(with_reducible first|exact HB.out|apply yA|apply yB|apply yC)|exact HB.out)) hb);clear HB;have HO214:=n0_;have HB:=n1_;clear n0_ n1_;(try clear hb);(try clear hb2);(try clear hk);(try clear hi);(try clear ho0))|((with_reducible refine gate_dst (N:=3) rfl ?_);refine box_event ?hg (N:=3) ?hd (cs:=#[.int .u8 0,.slice none 0 0]) (t:=44) ?hr ?_;(case hd=>rfl);(case hg=>rfl);(case hr=>first|(go_simp;done)|(go_simp;rfl));intro gb216 hg w7 hbox hb;have n0_:=Aside0.mk (Kd.R_below (Kd.R_elderB (by (with_reducible repeat (first|apply yH|apply yI|apply yJ));exact HO214.out) gb216 (Nat.le_of_eq hg.symm)) hb);have n1_:=Aside0.mk (yP (by repeat (first|(with_reducible first|exact HB.out|apply yA|apply yB|apply yC)|exact HB.out)) hb);have n2_:=Aside0.mk (hbox);have n3_:=Aside0.mk ((by rw [hg];exact (yQ (by repeat (first|(with_reducible first|exact HB.out|apply yA|apply yB|apply yC)|exact HB.out))):w.heap.size≤gb216));have n4_:=Aside0.mk ((by rw [hg];exact (yQ (by repeat (first|(with_reducible first|exact HB.out|apply yA|apply yB|apply yC)|exact HB.out))):w.heap.size≤gb216));clear HO214;clear HB;have HO214:=n0_;have HB:=n1_;have BK216:=n2_;have GW216:=n3_;have GE216:=n4_;clear n0_ n1_ n2_ n3_ n4_;clear hb hbox hg;have hcz8_0:w7.cell? ⟨gb216,0,none⟩=some (.int .u8 0):=(blk_cell BK216.out 0).trans rfl;have hcz8_1:w7.cell? ⟨gb216,1,none⟩=some (.slice none 0 0):=(blk_cell BK216.out 1).trans rfl;have hfz8_0:=blk_frozen BK216.out 0;have hfz8_1:=blk_frozen BK216.out 1;obtain ⟨Ao9,co9,eo9⟩:=Kd.R_slice HO214.out;subst eo9)|(go_at_call 28;(with_reducible refine (spec_l7Marks.calls k t211 _ _ t212 1 t217 _ ?side1 ?side2 A4.out).mono ?_);(case side1=>refine (Kd.R_reads' (e:=44) (base:=w.heap.size) (ok:=fun k_=>(True∧k_≠gb216)) (n:=t212.length) (c:=co9) ?_).2.2;exact (by (with_reducible repeat (first|apply yH|apply yI|apply yJ));exact (Kd.R_mono (Kd.R_far (p:=⟨gb216,1,none⟩) (Kd.R_far (p:=⟨gb216,0,none⟩) (Kd.R_mono HO214.out (fun k_ hk=>(⟨hk,hk.2⟩:_∧k_≠gb216))) (fun _ hk=>hk.2) (.int .u8 t211)) (fun _ hk=>hk.2) (.slice Ao9 t212.length co9)) (fun _ h_=>h_.1))));(case side2=>exact (Kd.R_reads' HO214.out).2.1);rintro e w10 ⟨v218,rfl,ho0,hb⟩;have n0_:=Aside0.mk (Kd.R_below (by (with_reducible repeat (first|apply yH|apply yI|apply yJ));exact (Kd.R_mono (Kd.R_far (p:=⟨gb216,1,none⟩) (Kd.R_far (p:=⟨gb216,0,none⟩) (Kd.R_mono HO214.out (fun k_ hk=>(⟨hk,hk.2⟩:_∧k_≠gb216))) (fun _ hk=>hk.2) (.int .u8 t211)) (fun _ hk=>hk.2) (.slice Ao9 t212.length co9)) (fun _ h_=>h_.1))) hb);have n1_:=Aside0.mk (Kd.R_lower ho0 (yQ (by repeat (first|(with_reducible first|exact HB.out|apply yA|apply yB|apply yC|refine yD ?_ GE216.out)|exact HB.out))));have n2_:=Aside0.mk (blk_below (g:=gb216) (o:=.cells #[.int .u8 t211,.slice Ao9 t212.length co9] 44 (0,0)) (by (with_reducible repeat (first|refine yE ?_ _|refine yF ?_|refine yG ?_ _));refine blk_put (cs:=#[.int .u8 t211,.slice none 0 0]) ?_ 1 _ rfl;(with_reducible repeat (first|refine yE ?_ _|refine yF ?_|refine yG ?_ _));refine blk_put (cs:=#[.int .u8 0,.slice none 0 0]) ?_ 0 _ rfl;(with_reducible repeat (first|refine yE ?_ _|refine yF ?_|refine yG ?_ _));exact BK216.out) hb);have n3_:=Aside0.mk (yP (by repeat (first|(with_reducible first|exact HB.out|apply yA|apply yB|apply yC|refine yD ?_ GE216.out)|exact HB.out)) hb);clear HO214;clear BK216;clear HB;have HO214:=n0_;have HO219:=n1_;have BK216:=n2_;have HB:=n3_;clear n0_ n1_ n2_ n3_;(try clear hb);(try clear hb2);(try clear hk);(try clear hi);(try clear ho0);obtain ⟨Ao11,co11,eo11⟩:=Kd.R_slice HO219.out;subst eo11;have p220:0≤(0:Int):=(by omega);have q220:0<(t217.length:Int):=of_decide_eq_true (by first|(with_reducible assumption)|assumption);obtain ⟨ad220,e220,hx220_0⟩:=Kd.at_bool (Kd.R_reads' HO219.out).2.2 0 p220 q220;cases e220;have qi220:(0<t217.length)=True:=eq_true (by omega);(try rw [show ((0:Int)).toNat=0 from rfl] at hx220_0);(try rw [Addr.add_zero'] at hx220_0);replace p220:=eq_true p220;replace q220:=eq_true q220))
   go_ret
   exact ⟨by first|rfl|(simp [errW_none,errW_some]<;>rfl)|(simp [*,errW_none,errW_some]<;>rfl)|(simp [errW_none,errW_some];exact ⟨rfl,rfl⟩),by repeat (first|(with_reducible first|exact HB.out|apply yA|apply yB|apply yC|refine yD ?_ GE216.out)|exact HB.out)⟩
  ·rw [if_neg c5] at H
   exact absurd H (by simp)
 ·replace c3:=Bool.eq_false_iff.mpr c3
  subst c3
  have H1:(some false)=some r:=by rw [if_neg (show ¬ (false=true) by decide)] at H;exact H
  clear H
  have H:=H1
  clear H1
  obtain rfl:=Option.some.inj H
  go_enter Try.func10,Try.ntmps10
  go_wp2_with (first|((with_reducible refine gate_callee (f:=27) rfl ?_);refine goesL_ (some 7) rfl rfl Try.func27 (by kernel_rfl) rfl #[.string a0] rfl (by (try simp only [List.map_toArray,List.map_cons,List.map_nil]);first|done|rfl|(simp only [List.length_drop,List.length_take];rfl)) ?_;(with_reducible refine (spec_l7Of.calls a0 t211 t212 false _ A2.out).mono ?_);rintro e w12 ⟨v213,rfl,ho0,hb⟩;refine ⟨_,rfl,?_⟩;have n0_:=Aside0.mk (Kd.R_lower ho0 (yQ (by repeat (first|(with_reducible first|exact HB.out|apply yA|apply yB|apply yC)|exact HB.out))));have n1_:=Aside0.mk (yP (by repeat (first|(with_reducible first|exact HB.out|apply yA|apply yB|apply yC)|exact HB.out)) hb);clear HB;have HO214:=n0_;have HB:=n1_;clear n0_ n1_;(try clear hb);(try clear hb2);(try clear hk);(try clear hi);(try clear ho0))|((with_reducible refine gate_dst (N:=3) rfl ?_);refine box_event ?hg (N:=3) ?hd (cs:=#[.int .u8 0,.slice none 0 0]) (t:=44) ?hr ?_;(case hd=>rfl);(case hg=>rfl);(case hr=>first|(go_simp;done)|(go_simp;rfl));intro gb216 hg w13 hbox hb;have n0_:=Aside0.mk (Kd.R_below (Kd.R_elderB (by (with_reducible repeat (first|apply yH|apply yI|apply yJ));exact HO214.out) gb216 (Nat.le_of_eq hg.symm)) hb);have n1_:=Aside0.mk (yP (by repeat (first|(with_reducible first|exact HB.out|apply yA|apply yB|apply yC)|exact HB.out)) hb);have n2_:=Aside0.mk (hbox);have n3_:=Aside0.mk ((by rw [hg];exact (yQ (by repeat (first|(with_reducible first|exact HB.out|apply yA|apply yB|apply yC)|exact HB.out))):w.heap.size≤gb216));have n4_:=Aside0.mk ((by rw [hg];exact (yQ (by repeat (first|(with_reducible first|exact HB.out|apply yA|apply yB|apply yC)|exact HB.out))):w.heap.size≤gb216));clear HO214;clear HB;have HO214:=n0_;have HB:=n1_;have BK216:=n2_;have GW216:=n3_;have GE216:=n4_;clear n0_ n1_ n2_ n3_ n4_;clear hb hbox hg;have hcz14_0:w13.cell? ⟨gb216,0,none⟩=some (.int .u8 0):=(blk_cell BK216.out 0).trans rfl;have hcz14_1:w13.cell? ⟨gb216,1,none⟩=some (.slice none 0 0):=(blk_cell BK216.out 1).trans rfl;have hfz14_0:=blk_frozen BK216.out 0;have hfz14_1:=blk_frozen BK216.out 1;obtain ⟨Ao15,co15,eo15⟩:=Kd.R_slice HO214.out;subst eo15))
  go_ret
  exact ⟨by first|rfl|(simp [errW_none,errW_some]<;>rfl)|(simp [*,errW_none,errW_some]<;>rfl)|(simp [errW_none,errW_some];exact ⟨rfl,rfl⟩),by repeat (first|(with_reducible first|exact HB.out|apply yA|apply yB|apply yC|refine yD ?_ GE216.out)|exact HB.out)⟩

end Go.Proofs.Ytjjnckgdpdelkaa.P

namespace Go.Proofs.Ytjjnckgdpdelkaa.P
open Go.RowKit Go.Proofs.YtjjnckgdpdelkaaW.PrintWords Go.Proofs.YtjjnckgdpdelkaaW.PrintLast Go.Proofs.YtjjnckgdpdelkaaW.PrintMore
attribute [local go_sem] max2_int min2_int max_two min_two max_three min_three max_four min_four   -- for this text's walks alone
set_option linter.unusedVariables false
set_option linter.unusedSimpArgs false

/-! ### spec_TermHas: function 13 -/
def spec_TermHas.f (k:Nat) (a0:ByteArray) (a1:Int):Option (Bool):=(spec_l7Of.f a0).bind fun bt240=>(if bt240.2.2=true then ((spec_l6In.f a1 0 200).bind fun t246=>(if t246=true then ((spec_l7Marks.f k bt240.1 bt240.2.1 (wrap64 (a1+1))).bind fun t247=>(if 0≤a1 then (if a1<(t247.length:Int) then (some (rdOf false t247 a1)) else (none)) else (none))) else (some false))) else (some false))
theorem spec_TermHas.mono:∀ a0 a1 k,LeO (spec_TermHas.f k a0 a1) (spec_TermHas.f (k+1) a0 a1):=by
 intro a0 a1 k
 unfold spec_TermHas.f
 repeat' first
   | (with_reducible exact spec_l7Marks.mono _ _ _ _)
   | (with_reducible exact LeO.refl _)
   | (with_reducible exact LeO.none _)
   | (with_reducible refine LeO.ite ?_ ?_)
   | (with_reducible refine LeO.bind ?_ (fun _=>?_))
   | exact spec_l7Marks.mono _ _ _ _
   | exact LeO.none _
   | refine LeO.ite ?_ ?_
   | refine LeO.bind ?_ (fun _=>?_)
set_option maxHeartbeats 8000000 in
set_option maxRecDepth 100000 in
theorem spec_TermHas.calls (k:Nat) (a0:ByteArray) (a1:Int) (r:Bool) (w:World) (h:spec_TermHas.f k a0 a1=some r) :
  Calls Try.prog 13 #[.string a0,.int .i64 a1] w fun e w'=>e=.returned (.bool r)∧Below w.heap.size w w':=by
 have hu44:=Try.underlying44
 have HB:=Aside0.mk (Below.refl w.heap.size w)
 have H:((spec_l7Of.f a0).bind fun bt240=>(if bt240.2.2=true then ((spec_l6In.f a1 0 200).bind fun t246=>(if t246=true then ((spec_l7Marks.f k bt240.1 bt240.2.1 (wrap64 (a1+1))).bind fun t247=>(if 0≤a1 then (if a1<(t247.length:Int) then (some (rdOf false t247 a1)) else (none)) else (none))) else (some false))) else (some false)))=some r:=h
 clear h
 replace H:=Option.bind_eq_some_iff.mp H
 obtain ⟨⟨t240,t241,t244⟩,A30,H⟩:=H
 replace H:(if t244=true then ((spec_l6In.f a1 0 200).bind fun t246=>(if t246=true then ((spec_l7Marks.f k t240 t241 (wrap64 (a1+1))).bind fun t247=>(if 0≤a1 then (if a1<(t247.length:Int) then (some (rdOf false t247 a1)) else (none)) else (none))) else (some false))) else (some false))=some r:=H
 have A3:=Aside0.mk A30
 clear A30
 by_cases c4:t244=true
 ·subst c4
  have H1:((spec_l6In.f a1 0 200).bind fun t246=>(if t246=true then ((spec_l7Marks.f k t240 t241 (wrap64 (a1+1))).bind fun t247=>(if 0≤a1 then (if a1<(t247.length:Int) then (some (rdOf false t247 a1)) else (none)) else (none))) else (some false)))=some r:=by rw [if_pos rfl] at H;exact H
  clear H
  have H:=H1
  clear H1
  replace H:=Option.bind_eq_some_iff.mp H
  obtain ⟨t246,A50,H⟩:=H
  replace H:(if t246=true then ((spec_l7Marks.f k t240 t241 (wrap64 (a1+1))).bind fun t247=>(if 0≤a1 then (if a1<(t247.length:Int) then (some (rdOf false t247 a1)) else (none)) else (none))) else (some false))=some r:=H
  have A5:=Aside0.mk A50
  clear A50
  by_cases c6:t246=true
  ·subst c6
   have H1:((spec_l7Marks.f k t240 t241 (wrap64 (a1+1))).bind fun t247=>(if 0≤a1 then (if a1<(t247.length:Int) then (some (rdOf false t247 a1)) else (none)) else (none)))=some r:=by rw [if_pos rfl] at H;exact H
   clear H
   have H:=H1
   clear H1
   replace H:=Option.bind_eq_some_iff.mp H
   obtain ⟨t247,A70,H⟩:=H
   replace H:(if 0≤a1 then (if a1<(t247.length:Int) then (some (rdOf false t247 a1)) else (none)) else (none))=some r:=H
   have A7:=Aside0.mk A70
   clear A70
   by_cases c8:0≤a1
   ·rw [if_pos c8] at H
    have c8b0:decide (0≤a1)=true:=decide_eq_true c8
    clear c8
    by_cases c9:a1<(t247.length:Int)
    ·rw [if_pos c9] at H
     have c9b0:decide (a1<(t247.length:Int))=true:=decide_eq_true c9
     clear c9
     obtain rfl:=Option.some.inj H
     go_enter Try.func13,Try.ntmps13
     go_wp2_with (first|((with_reducible refine gate_callee (f:=27) rfl ?_);refine goesL_ (some 9) rfl rfl Try.func27 (by kernel_rfl) rfl #[.string a0] rfl (by (try simp only [List.map_toArray,List.map_cons,List.map_nil]);first|done|rfl|(simp only [List.length_drop,List.length_take];rfl)) ?_;(with_reducible refine (spec_l7Of.calls a0 t240 t241 true _ A3.out).mono ?_);rintro e w10 ⟨v242,rfl,ho0,hb⟩;refine ⟨_,rfl,?_⟩;have n0_:=Aside0.mk (Kd.R_lower ho0 (yQ (by repeat (first|(with_reducible first|exact HB.out|apply yA|apply yB|apply yC)|exact HB.out))));have n1_:=Aside0.mk (yP (by repeat (first|(with_reducible first|exact HB.out|apply yA|apply yB|apply yC)|exact HB.out)) hb);clear HB;have HO243:=n0_;have HB:=n1_;clear n0_ n1_;(try clear hb);(try clear hb2);(try clear hk);(try clear hi);(try clear ho0))|((with_reducible refine gate_dst (N:=5) rfl ?_);refine box_event ?hg (N:=5) ?hd (cs:=#[.int .u8 0,.slice none 0 0]) (t:=44) ?hr ?_;(case hd=>rfl);(case hg=>rfl);(case hr=>first|(go_simp;done)|(go_simp;rfl));intro gb245 hg w11 hbox hb;have n0_:=Aside0.mk (Kd.R_below (Kd.R_elderB (by (with_reducible repeat (first|apply yH|apply yI|apply yJ));exact HO243.out) gb245 (Nat.le_of_eq hg.symm)) hb);have n1_:=Aside0.mk (yP (by repeat (first|(with_reducible first|exact HB.out|apply yA|apply yB|apply yC)|exact HB.out)) hb);have n2_:=Aside0.mk (hbox);have n3_:=Aside0.mk ((by rw [hg];exact (yQ (by repeat (first|(with_reducible first|exact HB.out|apply yA|apply yB|apply yC)|exact HB.out))):w.heap.size≤gb245));have n4_:=Aside0.mk ((by rw [hg];exact (yQ (by repeat (first|(with_reducible first|exact HB.out|apply yA|apply yB|apply yC)|exact HB.out))):w.heap.size≤gb245));clear HO243;clear HB;have HO243:=n0_;have HB:=n1_;have BK245:=n2_;have GW245:=n3_;have GE245:=n4_;clear n0_ n1_ n2_ n3_ n4_;clear hb hbox hg;have hcz12_0:w11.cell? ⟨gb245,0,none⟩=some (.int .u8 0):=(blk_cell BK245.out 0).trans rfl;have hcz12_1:w11.cell? ⟨gb245,1,none⟩=some (.slice none 0 0):=(blk_cell BK245.out 1).trans rfl;have hfz12_0:=blk_frozen BK245.out 0;have hfz12_1:=blk_frozen BK245.out 1;obtain ⟨Ao13,co13,eo13⟩:=Kd.R_slice HO243.out;subst eo13)|(go_at_call 33;(with_reducible refine (spec_l6In.calls a1 0 200 true _ A5.out).mono ?_);rintro e w' ⟨rfl,⟨nd,rfl⟩⟩)|(go_at_call 28;(with_reducible refine (spec_l7Marks.calls k t240 _ _ t241 (wrap64 (a1+1)) t247 _ ?side1 ?side2 A7.out).mono ?_);(case side1=>refine (Kd.R_reads' (e:=44) (base:=w.heap.size) (ok:=fun k_=>(True∧k_≠gb245)) (n:=t241.length) (c:=co13) ?_).2.2;exact (by (with_reducible repeat (first|apply yH|apply yI|apply yJ));exact (Kd.R_mono (Kd.R_far (p:=⟨gb245,1,none⟩) (Kd.R_far (p:=⟨gb245,0,none⟩) (Kd.R_mono HO243.out (fun k_ hk=>(⟨hk,hk.2⟩:_∧k_≠gb245))) (fun _ hk=>hk.2) (.int .u8 t240)) (fun _ hk=>hk.2) (.slice Ao13 t241.length co13)) (fun _ h_=>h_.1))));(case side2=>exact (Kd.R_reads' HO243.out).2.1);rintro e w14 ⟨v248,rfl,ho0,hb⟩;have n0_:=Aside0.mk (Kd.R_below (by (with_reducible repeat (first|apply yH|apply yI|apply yJ));exact (Kd.R_mono (Kd.R_far (p:=⟨gb245,1,none⟩) (Kd.R_far (p:=⟨gb245,0,none⟩) (Kd.R_mono HO243.out (fun k_ hk=>(⟨hk,hk.2⟩:_∧k_≠gb245))) (fun _ hk=>hk.2) (.int .u8 t240)) (fun _ hk=>hk.2) (.slice Ao13 t241.length co13)) (fun _ h_=>h_.1))) hb);have n1_:=Aside0.mk (Kd.R_lower ho0 (yQ (by repeat (first|(with_reducible first|exact HB.out|apply yA|apply yB|apply yC|refine yD ?_ GE245.out)|exact HB.out))));have n2_:=Aside0.mk (blk_below (g:=gb245) (o:=.cells #[.int .u8 t240,.slice Ao13 t241.length co13] 44 (0,0)) (by (with_reducible repeat (first|refine yE ?_ _|refine yF ?_|refine yG ?_ _));refine blk_put (cs:=#[.int .u8 t240,.slice none 0 0]) ?_ 1 _ rfl;(with_reducible repeat (first|refine yE ?_ _|refine yF ?_|refine yG ?_ _));refine blk_put (cs:=#[.int .u8 0,.slice none 0 0]) ?_ 0 _ rfl;(with_reducible repeat (first|refine yE ?_ _|refine yF ?_|refine yG ?_ _));exact BK245.out) hb);have n3_:=Aside0.mk (yP (by repeat (first|(with_reducible first|exact HB.out|apply yA|apply yB|apply yC|refine yD ?_ GE245.out)|exact HB.out)) hb);clear HO243;clear BK245;clear HB;have HO243:=n0_;have HO249:=n1_;have BK245:=n2_;have HB:=n3_;clear n0_ n1_ n2_ n3_;(try clear hb);(try clear hb2);(try clear hk);(try clear hi);(try clear ho0);obtain ⟨Ao15,co15,eo15⟩:=Kd.R_slice HO249.out;subst eo15;have p250:0≤(a1:Int):=of_decide_eq_true (by first|(with_reducible assumption)|assumption);have q250:a1<(t247.length:Int):=of_decide_eq_true (by first|(with_reducible assumption)|assumption);obtain ⟨ad250,e250,hx250_0⟩:=Kd.at_bool (Kd.R_reads' HO249.out).2.2 a1 p250 q250;cases e250;replace p250:=eq_true p250;replace q250:=eq_true q250))
     go_ret
     exact ⟨by first|rfl|(simp [errW_none,errW_some]<;>rfl)|(simp [*,errW_none,errW_some]<;>rfl)|(simp [errW_none,errW_some];exact ⟨rfl,rfl⟩),by repeat (first|(with_reducible first|exact HB.out|apply yA|apply yB|apply yC|refine yD ?_ GE245.out)|exact HB.out)⟩
    ·rw [if_neg c9] at H
     exact absurd H (by simp)
   ·rw [if_neg c8] at H
    exact absurd H (by simp)
  ·replace c6:=Bool.eq_false_iff.mpr c6
   subst c6
   have H1:(some false)=some r:=by rw [if_neg (show ¬ (false=true) by decide)] at H;exact H
   clear H
   have H:=H1
   clear H1
   obtain rfl:=Option.some.inj H
   go_enter Try.func13,Try.ntmps13
   go_wp2_with (first|((with_reducible refine gate_callee (f:=27) rfl ?_);refine goesL_ (some 9) rfl rfl Try.func27 (by kernel_rfl) rfl #[.string a0] rfl (by (try simp only [List.map_toArray,List.map_cons,List.map_nil]);first|done|rfl|(simp only [List.length_drop,List.length_take];rfl)) ?_;(with_reducible refine (spec_l7Of.calls a0 t240 t241 true _ A3.out).mono ?_);rintro e w16 ⟨v242,rfl,ho0,hb⟩;refine ⟨_,rfl,?_⟩;have n0_:=Aside0.mk (Kd.R_lower ho0 (yQ (by repeat (first|(with_reducible first|exact HB.out|apply yA|apply yB|apply yC)|exact HB.out))));have n1_:=Aside0.mk (yP (by repeat (first|(with_reducible first|exact HB.out|apply yA|apply yB|apply yC)|exact HB.out)) hb);clear HB;have HO243:=n0_;have HB:=n1_;clear n0_ n1_;(try clear hb);(try clear hb2);(try clear hk);(try clear hi);(try clear ho0))|((with_reducible refine gate_dst (N:=5) rfl ?_);refine box_event ?hg (N:=5) ?hd (cs:=#[.int .u8 0,.slice none 0 0]) (t:=44) ?hr ?_;(case hd=>rfl);(case hg=>rfl);(case hr=>first|(go_simp;done)|(go_simp;rfl));intro gb245 hg w17 hbox hb;have n0_:=Aside0.mk (Kd.R_below (Kd.R_elderB (by (with_reducible repeat (first|apply yH|apply yI|apply yJ));exact HO243.out) gb245 (Nat.le_of_eq hg.symm)) hb);have n1_:=Aside0.mk (yP (by repeat (first|(with_reducible first|exact HB.out|apply yA|apply yB|apply yC)|exact HB.out)) hb);have n2_:=Aside0.mk (hbox);have n3_:=Aside0.mk ((by rw [hg];exact (yQ (by repeat (first|(with_reducible first|exact HB.out|apply yA|apply yB|apply yC)|exact HB.out))):w.heap.size≤gb245));have n4_:=Aside0.mk ((by rw [hg];exact (yQ (by repeat (first|(with_reducible first|exact HB.out|apply yA|apply yB|apply yC)|exact HB.out))):w.heap.size≤gb245));clear HO243;clear HB;have HO243:=n0_;have HB:=n1_;have BK245:=n2_;have GW245:=n3_;have GE245:=n4_;clear n0_ n1_ n2_ n3_ n4_;clear hb hbox hg;have hcz18_0:w17.cell? ⟨gb245,0,none⟩=some (.int .u8 0):=(blk_cell BK245.out 0).trans rfl;have hcz18_1:w17.cell? ⟨gb245,1,none⟩=some (.slice none 0 0):=(blk_cell BK245.out 1).trans rfl;have hfz18_0:=blk_frozen BK245.out 0;have hfz18_1:=blk_frozen BK245.out 1;obtain ⟨Ao19,co19,eo19⟩:=Kd.R_slice HO243.out;subst eo19)|(go_at_call 33;(with_reducible refine (spec_l6In.calls a1 0 200 false _ A5.out).mono ?_);rintro e w' ⟨rfl,⟨nd,rfl⟩⟩))
   go_ret
   exact ⟨by first|rfl|(simp [errW_none,errW_some]<;>rfl)|(simp [*,errW_none,errW_some]<;>rfl)|(simp [errW_none,errW_some];exact ⟨rfl,rfl⟩),by repeat (first|(with_reducible first|exact HB.out|apply yA|apply yB|apply yC|refine yD ?_ GE245.out)|exact HB.out)⟩
 ·replace c4:=Bool.eq_false_iff.mpr c4
  subst c4
  have H1:(some false)=some r:=by rw [if_neg (show ¬ (false=true) by decide)] at H;exact H
  clear H
  have H:=H1
  clear H1
  obtain rfl:=Option.some.inj H
  go_enter Try.func13,Try.ntmps13
  go_wp2_with (first|((with_reducible refine gate_callee (f:=27) rfl ?_);refine goesL_ (some 9) rfl rfl Try.func27 (by kernel_rfl) rfl #[.string a0] rfl (by (try simp only [List.map_toArray,List.map_cons,List.map_nil]);first|done|rfl|(simp only [List.length_drop,List.length_take];rfl)) ?_;(with_reducible refine (spec_l7Of.calls a0 t240 t241 false _ A3.out).mono ?_);rintro e w20 ⟨v242,rfl,ho0,hb⟩;refine ⟨_,rfl,?_⟩;have n0_:=Aside0.mk (Kd.R_lower ho0 (yQ (by repeat (first|(with_reducible first|exact HB.out|apply yA|apply yB|apply yC)|exact HB.out))));have n1_:=Aside0.mk (yP (by repeat (first|(with_reducible first|exact HB.out|apply yA|apply yB|apply yC)|exact HB.out)) hb);clear HB;have HO243:=n0_;have HB:=n1_;clear n0_ n1_;(try clear hb);(try clear hb2);(try clear hk);(try clear hi);(try clear ho0))|((with_reducible refine gate_dst (N:=5) rfl ?_);refine box_event ?hg (N:=5) ?hd (cs:=#[.int .u8 0,.slice none 0 0]) (t:=44) ?hr ?_;(case hd=>rfl);(case hg=>rfl);(case hr=>first|(go_simp;done)|(go_simp;rfl));intro gb245 hg w21 hbox hb;have n0_:=Aside0.mk (Kd.R_below (Kd.R_elderB (by (with_reducible repeat (first|apply yH|apply yI|apply yJ));exact HO243.out) gb245 (Nat.le_of_eq hg.symm)) hb);have n1_:=Aside0.mk (yP (by repeat (first|(with_reducible first|exact HB.out|apply yA|apply yB|apply yC)|exact HB.out)) hb);have n2_:=Aside0.mk (hbox);have n3_:=Aside0.mk ((by rw [hg];exact (yQ (by repeat (first|(with_reducible first|exact HB.out|apply yA|apply yB|apply yC)|exact HB.out))):w.heap.size≤gb245));have n4_:=Aside0.mk ((by rw [hg];exact (yQ (by repeat (first|(with_reducible first|exact HB.out|apply yA|apply yB|apply yC)|exact HB.out))):w.heap.size≤gb245));clear HO243;clear HB;have HO243:=n0_;have HB:=n1_;have BK245:=n2_;have GW245:=n3_;have GE245:=n4_;clear n0_ n1_ n2_ n3_ n4_;clear hb hbox hg;have hcz22_0:w21.cell? ⟨gb245,0,none⟩=some (.int .u8 0):=(blk_cell BK245.out 0).trans rfl;have hcz22_1:w21.cell? ⟨gb245,1,none⟩=some (.slice none 0 0):=(blk_cell BK245.out 1).trans rfl;have hfz22_0:=blk_frozen BK245.out 0;have hfz22_1:=blk_frozen BK245.out 1;obtain ⟨Ao23,co23,eo23⟩:=Kd.R_slice HO243.out;subst eo23))
  go_ret
  exact ⟨by first|rfl|(simp [errW_none,errW_some]<;>rfl)|(simp [*,errW_none,errW_some]<;>rfl)|(simp [errW_none,errW_some];exact ⟨rfl,rfl⟩),by repeat (first|(with_reducible first|exact HB.out|apply yA|apply yB|apply yC|refine yD ?_ GE245.out)|exact HB.out)⟩

end Go.Proofs.Ytjjnckgdpdelkaa.P

namespace Go.Proofs.Ytjjnckgdpdelkaa.P
open Go.RowKit Go.Proofs.YtjjnckgdpdelkaaW.PrintWords Go.Proofs.YtjjnckgdpdelkaaW.PrintLast Go.Proofs.YtjjnckgdpdelkaaW.PrintMore
attribute [local go_sem] max2_int min2_int max_two min_two max_three min_three max_four min_four   -- for this text's walks alone
set_option linter.unusedVariables false
set_option linter.unusedSimpArgs false

/-! ### spec_TermList: function 14 -/
mutual
def spec_TermList.j0:Nat→Int→List Int→Bool→Int→List (S44)→Option (List Int × Bool)
 | 0,_,_,_,_,_=>none
 | k+1,x1,x6,x23,x272000,x272001=>if x23=true then (some (x6,false)) else ((spec_l7Marks.f k x272000 x272001 x1).bind fun t273=>(spec_TermList.l0 k x1 x6 t273 0))
def spec_TermList.l0:Nat→Int→List Int→List Bool→Int→Option (List Int × Bool)
 | 0,_,_,_,_=>none
 | k+1,x1,x6,x9,x10=>if x10<x1 then (if 0≤x10 then (if x10<(x9.length:Int) then (if rdOf false x9 x10=true then (if x6.length<17592186044416 then (spec_TermList.l0 k x1 (x6++[x10]) x9 (wrap64 (x10+1))) else (none)) else (spec_TermList.l0 k x1 x6 x9 (wrap64 (x10+1)))) else (none)) else (none)) else (some (x6,true))
end
def spec_TermList.f (k:Nat) (a0:ByteArray) (a1:Int):Option (List Int × Bool):=(some (([]:List Int):List Int)).bind fun y263=>((spec_l7Of.f a0).bind fun bt266=>(if bt266.2.2=true then ((spec_l6In.f a1 0 200).bind fun t272=>(spec_TermList.j0 k a1 y263 (!t272) bt266.1 bt266.2.1)) else (spec_TermList.j0 k a1 y263 true bt266.1 bt266.2.1)))
theorem spec_TermList.mono_l:∀ k,(∀ y0 y1 y2 y3 y4,LeO (spec_TermList.j0 k y0 y1 y2 y3 y4) (spec_TermList.j0 (k+1) y0 y1 y2 y3 y4))∧(∀ y0 y1 y2 y3,LeO (spec_TermList.l0 k y0 y1 y2 y3) (spec_TermList.l0 (k+1) y0 y1 y2 y3))
 | 0=>⟨fun _ _ _ _ _ r h=>by simp [spec_TermList.j0] at h,fun _ _ _ _ r h=>by simp [spec_TermList.l0] at h⟩
 | k+1=>by
  obtain ⟨ih0,ih1⟩:=spec_TermList.mono_l k
  refine ⟨?_,?_⟩
  ·intro y0 y1 y2 y3 y4
   unfold spec_TermList.j0
   repeat' first
   | (with_reducible exact ih0 _ _ _ _ _)
   | (with_reducible exact ih1 _ _ _ _)
   | (with_reducible exact spec_l7Marks.mono _ _ _ _)
   | (with_reducible exact LeO.refl _)
   | (with_reducible exact LeO.none _)
   | (with_reducible refine LeO.ite ?_ ?_)
   | (with_reducible refine LeO.bind ?_ (fun _=>?_))
   | exact ih0 _ _ _ _ _
   | exact ih1 _ _ _ _
   | exact spec_l7Marks.mono _ _ _ _
   | exact LeO.none _
   | refine LeO.ite ?_ ?_
   | refine LeO.bind ?_ (fun _=>?_)
  ·intro y0 y1 y2 y3
   unfold spec_TermList.l0
   repeat' first
   | (with_reducible exact ih0 _ _ _ _ _)
   | (with_reducible exact ih1 _ _ _ _)
   | (with_reducible exact spec_l7Marks.mono _ _ _ _)
   | (with_reducible exact LeO.refl _)
   | (with_reducible exact LeO.none _)
   | (with_reducible refine LeO.ite ?_ ?_)
   | (with_reducible refine LeO.bind ?_ (fun _=>?_))
   | exact ih0 _ _ _ _ _
   | exact ih1 _ _ _ _
   | exact spec_l7Marks.mono _ _ _ _
   | exact LeO.none _
   | refine LeO.ite ?_ ?_
   | refine LeO.bind ?_ (fun _=>?_)
theorem spec_TermList.mono:∀ a0 a1 k,LeO (spec_TermList.f k a0 a1) (spec_TermList.f (k+1) a0 a1):=by
 intro a0 a1 k
 obtain ⟨ih0,ih1⟩:=spec_TermList.mono_l k
 unfold spec_TermList.f
 repeat' first
   | (with_reducible exact ih0 _ _ _ _ _)
   | (with_reducible exact ih1 _ _ _ _)
   | (with_reducible exact spec_l7Marks.mono _ _ _ _)
   | (with_reducible exact LeO.refl _)
   | (with_reducible exact LeO.none _)
   | (with_reducible refine LeO.ite ?_ ?_)
   | (with_reducible refine LeO.bind ?_ (fun _=>?_))
   | exact ih0 _ _ _ _ _
   | exact ih1 _ _ _ _
   | exact spec_l7Marks.mono _ _ _ _
   | exact LeO.none _
   | refine LeO.ite ?_ ?_
   | refine LeO.bind ?_ (fun _=>?_)
set_option maxHeartbeats 8000000 in
set_option maxRecDepth 100000 in
theorem spec_TermList.calls (k:Nat) (a0:ByteArray) (a1:Int) (r1:List Int) (r2:Bool) (w:World) (h:spec_TermList.f k a0 a1=some (r1,r2)) :
  Calls Try.prog 14 #[.string a0,.int .i64 a1] w fun e w'=>∃ v0_:Value,e=.returned (.tuple #[v0_,.bool r2])∧Kd.R (Kd.int .i64) 3 w' w.heap.size (fun _=>True) v0_ r1∧Below w.heap.size w w':=by
 have hu44:=Try.underlying44
 have HB:=Aside0.mk (Below.refl w.heap.size w)
 have H:((some (([]:List Int):List Int)).bind fun y263=>((spec_l7Of.f a0).bind fun bt266=>(if bt266.2.2=true then ((spec_l6In.f a1 0 200).bind fun t272=>(spec_TermList.j0 k a1 y263 (!t272) bt266.1 bt266.2.1)) else (spec_TermList.j0 k a1 y263 true bt266.1 bt266.2.1))))=some (r1,r2):=h
 clear h
 obtain ⟨y263,hy263⟩:∃ y_:List Int,y_=(([]:List Int)):=⟨_,rfl⟩
 replace H:((spec_l7Of.f a0).bind fun bt266=>(if bt266.2.2=true then ((spec_l6In.f a1 0 200).bind fun t272=>(spec_TermList.j0 k a1 y263 (!t272) bt266.1 bt266.2.1)) else (spec_TermList.j0 k a1 y263 true bt266.1 bt266.2.1)))=some (r1,r2):=by first|(rw [hy263];with_reducible exact H)|(have H2_:=(Option.bind_some _ _).symm.trans H;rw [hy263];with_reducible exact H2_)|(have H2_:=(Option.bind_some _ _).symm.trans H;with_reducible exact H2_)|with_reducible exact H|(rw [hy263];exact H)|exact H
 have Ny263:=Aside0.mk hy263
 clear hy263
 replace H:=Option.bind_eq_some_iff.mp H
 obtain ⟨⟨t266,t267,t270⟩,A30,H⟩:=H
 replace H:(if t270=true then ((spec_l6In.f a1 0 200).bind fun t272=>(spec_TermList.j0 k a1 y263 (!t272) t266 t267)) else (spec_TermList.j0 k a1 y263 true t266 t267))=some (r1,r2):=H
 have A3:=Aside0.mk A30
 clear A30
 have HC4:=Aside0.mk H
 clear H
 go_enter Try.func14,Try.ntmps14
 go_upto_region 3 with (first|((with_reducible refine gate_dst (N:=11) rfl ?_);refine Kd.R_lit (Kd.int .i64) _ 3 ?hg (N:=11) ?hd (xs:=([]:List Int)) (inner:=[]) (ok:=fun _=>True) (okp:=fun _=>True) ?hr ?hp (fun _ hk=>hk) trivial (Below.refl _ _) (Nat.le_refl _) (by simp) ?_;(case hd=>rfl);(case hg=>rfl);(case hr=>first|(go_simp;done)|(go_simp;rfl));(case hp=>exact (Reps.none _ _));intro v264 w5 ho6 hb hg_ hnew_;clear hg_ hnew_;(first|rw [← Ny263.out] at ho6|(simp only [Int.reduceToNat] at ho6;rw [← Ny263.out] at ho6));have n0_:=Aside0.mk (Kd.R_lower ho6 (yQ (by repeat (first|(with_reducible first|exact HB.out|apply yA|apply yB|apply yC)|exact HB.out))));have n1_:=Aside0.mk (yP (by repeat (first|(with_reducible first|exact HB.out|apply yA|apply yB|apply yC)|exact HB.out)) hb);clear HB;have HO265:=n0_;have HB:=n1_;clear n0_ n1_;clear hb ho6)|((with_reducible refine gate_callee (f:=27) rfl ?_);refine goesL_ (some 14) rfl rfl Try.func27 (by kernel_rfl) rfl #[.string a0] rfl (by (try simp only [List.map_toArray,List.map_cons,List.map_nil]);first|done|rfl|(simp only [List.length_drop,List.length_take];rfl)) ?_;(with_reducible refine (spec_l7Of.calls a0 t266 t267 t270 _ A3.out).mono ?_);rintro e w7 ⟨v268,rfl,ho0,hb⟩;refine ⟨_,rfl,?_⟩;have n0_:=Aside0.mk (Kd.R_below (by (with_reducible repeat (first|apply yH|apply yI|apply yJ));exact HO265.out) hb);have n1_:=Aside0.mk (Kd.R_lower ho0 (yQ (by repeat (first|(with_reducible first|exact HB.out|apply yA|apply yB|apply yC)|exact HB.out))));have n2_:=Aside0.mk (yP (by repeat (first|(with_reducible first|exact HB.out|apply yA|apply yB|apply yC)|exact HB.out)) hb);clear HO265;clear HB;have HO265:=n0_;have HO269:=n1_;have HB:=n2_;clear n0_ n1_ n2_;(try clear hb);(try clear hb2);(try clear hk);(try clear hi);(try clear ho0))|((with_reducible refine gate_dst (N:=7) rfl ?_);refine box_event ?hg (N:=7) ?hd (cs:=#[.int .u8 0,.slice none 0 0]) (t:=44) ?hr ?_;(case hd=>rfl);(case hg=>rfl);(case hr=>first|(go_simp;done)|(go_simp;rfl));intro gb271 hg w8 hbox hb;have n0_:=Aside0.mk (Kd.R_below (by (with_reducible repeat (first|apply yH|apply yI|apply yJ));exact HO265.out) hb);have n1_:=Aside0.mk (Kd.R_below (Kd.R_elderB (by (with_reducible repeat (first|apply yH|apply yI|apply yJ));exact HO269.out) gb271 (Nat.le_of_eq hg.symm)) hb);have n2_:=Aside0.mk (yP (by repeat (first|(with_reducible first|exact HB.out|apply yA|apply yB|apply yC)|exact HB.out)) hb);have n3_:=Aside0.mk (hbox);have n4_:=Aside0.mk ((by rw [hg];exact (yQ (by repeat (first|(with_reducible first|exact HB.out|apply yA|apply yB|apply yC)|exact HB.out))):w.heap.size≤gb271));have n5_:=Aside0.mk ((by rw [hg];exact (yQ (by repeat (first|(with_reducible first|exact HB.out|apply yA|apply yB|apply yC)|exact HB.out))):w.heap.size≤gb271));clear HO265;clear HO269;clear HB;have HO265:=n0_;have HO269:=n1_;have HB:=n2_;have BK271:=n3_;have GW271:=n4_;have GE271:=n5_;clear n0_ n1_ n2_ n3_ n4_ n5_;clear hb hbox hg;have hcz9_0:w8.cell? ⟨gb271,0,none⟩=some (.int .u8 0):=(blk_cell BK271.out 0).trans rfl;have hcz9_1:w8.cell? ⟨gb271,1,none⟩=some (.slice none 0 0):=(blk_cell BK271.out 1).trans rfl;have hfz9_0:=blk_frozen BK271.out 0;have hfz9_1:=blk_frozen BK271.out 1;obtain ⟨Ao10,co10,eo10⟩:=Kd.R_slice HO269.out;subst eo10))
 (try simp only [Act.put,yK,yL,yM])
 go_cut [23] (fun v23 wc=>∃ (kq:Nat) (x23_3:Bool),v23=.bool x23_3∧Aside0 (spec_TermList.j0 kq a1 y263 x23_3 t266 t267=some (r1,r2))∧Aside0 (kq≤k)∧Aside0 (Kd.R (Kd.int .i64) 3 wc w.heap.size (fun _=>True) v264 y263)∧Aside0 (Kd.R k44 44 wc w.heap.size (fun k_=>k_≠gb271) (.slice Ao10 t267.length co10) t267)∧Aside0 (wc.heap[gb271]?=some (.cells #[.int .u8 t266,(.slice Ao10 t267.length co10)] 44 (0,0)))∧Aside0 (Below w.heap.size w wc))
 case first =>
  have H:=HC4.out
  clear HC4
  by_cases c11:t270=true
  ·subst c11
   have H1:((spec_l6In.f a1 0 200).bind fun t272=>(spec_TermList.j0 k a1 y263 (!t272) t266 t267))=some (r1,r2):=by rw [if_pos rfl] at H;exact H
   clear H
   have H:=H1
   clear H1
   replace H:=Option.bind_eq_some_iff.mp H
   obtain ⟨t272,A120,H⟩:=H
   replace H:(spec_TermList.j0 k a1 y263 (!t272) t266 t267)=some (r1,r2):=H
   have A12:=Aside0.mk A120
   clear A120
   have H':=Aside0.mk H
   clear H
   go_wp2_with (first|(go_at_call 33;(with_reducible refine (spec_l6In.calls a1 0 200 t272 _ A12.out).mono ?_);rintro e w' ⟨rfl,⟨nd,rfl⟩⟩))
   go_meet
   case rel=>exact ⟨_,(!t272),(by first|rfl|(simp;done)|(simp [*];done)|(simp [Int.tmod_eq_emod_of_nonneg];done)),H',⟨by first|omega|exact Nat.le_refl _⟩,⟨by (with_reducible repeat (first|apply yH|apply yI|apply yJ));exact Kd.R_mono (Kd.R_far (p:=⟨gb271,1,none⟩) (Kd.R_far (p:=⟨gb271,0,none⟩) (Kd.R_types HO265.out BK271.out (by decide)) (fun _ hk=>hk.2) (.int .u8 t266)) (fun _ hk=>hk.2) (.slice Ao10 t267.length co10)) (fun _ hk=>trivial)⟩,⟨by (with_reducible repeat (first|apply yH|apply yI|apply yJ));exact Kd.R_mono (Kd.R_far (p:=⟨gb271,1,none⟩) (Kd.R_far (p:=⟨gb271,0,none⟩) (Kd.R_mono HO269.out (fun k_ hk=>(⟨hk,hk.2⟩:_∧k_≠gb271))) (fun _ hk=>hk.2) (.int .u8 t266)) (fun _ hk=>hk.2) (.slice Ao10 t267.length co10)) (fun _ hk=>hk.1.2)⟩,⟨by (with_reducible repeat (first|refine yE ?_ _|refine yF ?_|refine yG ?_ _));refine blk_put (cs:=#[.int .u8 t266,.slice none 0 0]) ?_ 1 _ rfl;(with_reducible repeat (first|refine yE ?_ _|refine yF ?_|refine yG ?_ _));refine blk_put (cs:=#[.int .u8 0,.slice none 0 0]) ?_ 0 _ rfl;(with_reducible repeat (first|refine yE ?_ _|refine yF ?_|refine yG ?_ _));exact BK271.out⟩,⟨by repeat (first|(with_reducible first|exact HB.out|apply yA|apply yB|apply yC|refine yD ?_ GE271.out)|exact HB.out)⟩⟩
  ·replace c11:=Bool.eq_false_iff.mpr c11
   subst c11
   have H1:(spec_TermList.j0 k a1 y263 true t266 t267)=some (r1,r2):=by rw [if_neg (show ¬ (false=true) by decide)] at H;exact H
   clear H
   have H:=H1
   clear H1
   have H':=Aside0.mk H
   clear H
   go_wp2
   go_meet
   case rel=>exact ⟨_,(true),(by first|rfl|(simp;done)|(simp [*];done)|(simp [Int.tmod_eq_emod_of_nonneg];done)),H',⟨by first|omega|exact Nat.le_refl _⟩,⟨by (with_reducible repeat (first|apply yH|apply yI|apply yJ));exact Kd.R_mono (Kd.R_far (p:=⟨gb271,1,none⟩) (Kd.R_far (p:=⟨gb271,0,none⟩) (Kd.R_types HO265.out BK271.out (by decide)) (fun _ hk=>hk.2) (.int .u8 t266)) (fun _ hk=>hk.2) (.slice Ao10 t267.length co10)) (fun _ hk=>trivial)⟩,⟨by (with_reducible repeat (first|apply yH|apply yI|apply yJ));exact Kd.R_mono (Kd.R_far (p:=⟨gb271,1,none⟩) (Kd.R_far (p:=⟨gb271,0,none⟩) (Kd.R_mono HO269.out (fun k_ hk=>(⟨hk,hk.2⟩:_∧k_≠gb271))) (fun _ hk=>hk.2) (.int .u8 t266)) (fun _ hk=>hk.2) (.slice Ao10 t267.length co10)) (fun _ hk=>hk.1.2)⟩,⟨by (with_reducible repeat (first|refine yE ?_ _|refine yF ?_|refine yG ?_ _));refine blk_put (cs:=#[.int .u8 t266,.slice none 0 0]) ?_ 1 _ rfl;(with_reducible repeat (first|refine yE ?_ _|refine yF ?_|refine yG ?_ _));refine blk_put (cs:=#[.int .u8 0,.slice none 0 0]) ?_ 0 _ rfl;(with_reducible repeat (first|refine yE ?_ _|refine yF ?_|refine yG ?_ _));exact BK271.out⟩,⟨by repeat (first|(with_reducible first|exact HB.out|apply yA|apply yB|apply yC|refine yD ?_ GE271.out)|exact HB.out)⟩⟩
 case rest =>
  clear HC4
  try clear c1
  try clear c2
  try clear p2
  try clear c11
  try clear hcz9_0
  try clear hcz9_1
  try clear hfz9_0
  try clear hfz9_1
  obtain ⟨kq,x23_3,rfl,HA,HJ3,HO_6,HO_272001,BK271,HB⟩:=hcut
  cases kq with
  | zero=>exact absurd HA.out (by simp [spec_TermList.j0])
  | succ kj3 =>
   have H:=HA.out
   clear HA
   simp only [spec_TermList.j0] at H
   by_cases c13:x23_3=true
   ·subst c13
    have H1:(some (y263,false))=some (r1,r2):=by rw [if_pos rfl] at H;exact H
    clear H
    have H:=H1
    clear H1
    simp only [Option.some.injEq,Prod.mk.injEq] at H
    obtain ⟨rfl,rfl⟩:=H
    go_wp2
    go_ret2
    exact ⟨_,by first|rfl|(simp [errW_none,errW_some]<;>rfl)|(simp [*,errW_none,errW_some]<;>rfl)|(simp [errW_none,errW_some];exact ⟨rfl,rfl⟩),by (with_reducible repeat (first|apply yH|apply yI|apply yJ));exact HO_6.out,by repeat (first|(with_reducible first|exact HB.out|apply yA|apply yB|apply yC|refine yD ?_ GE271.out)|exact HB.out)⟩
   ·replace c13:=Bool.eq_false_iff.mpr c13
    subst c13
    have H1:((spec_l7Marks.f kj3 t266 t267 a1).bind fun t273=>(spec_TermList.l0 kj3 a1 y263 t273 0))=some (r1,r2):=by rw [if_neg (show ¬ (false=true) by decide)] at H;exact H
    clear H
    have H:=H1
    clear H1
    replace H:=Option.bind_eq_some_iff.mp H
    obtain ⟨t273,A140,H⟩:=H
    replace H:(spec_TermList.l0 kj3 a1 y263 t273 0)=some (r1,r2):=H
    have A14:=Aside0.mk A140
    clear A140
    have H':=Aside0.mk H
    clear H
    have hcz15_0:wc.cell? ⟨gb271,0,none⟩=some (.int .u8 t266):=(blk_cell BK271.out 0).trans rfl
    have hcz15_1:wc.cell? ⟨gb271,1,none⟩=some (.slice Ao10 t267.length co10):=(blk_cell BK271.out 1).trans rfl
    have hfz15_0:=blk_frozen BK271.out 0
    have hfz15_1:=blk_frozen BK271.out 1
    go_wp2_with (first|((with_reducible refine gate_callee (f:=28) rfl ?_);refine goesL_ (some 27) rfl rfl Try.func28 (by kernel_rfl) rfl #[.agg #[.int .u8 t266,.slice Ao10 t267.length co10],.int .i64 a1] rfl (by (try simp only [List.map_toArray,List.map_cons,List.map_nil]);first|done|rfl|(simp only [List.length_drop,List.length_take];rfl)) ?_;(with_reducible refine (spec_l7Marks.calls kj3 t266 _ _ t267 a1 t273 _ ?side1 ?side2 A14.out).mono ?_);(case side1=>repeat (first|exact (Kd.R_reads' HO_272001.out).2.2|(with_reducible refine Kd.C_alloc ?_ _)|(with_reducible refine Kd.C_drewN ?_ _)|(with_reducible refine Kd.C_drew ?_)));(case side2=>exact (Kd.R_reads' HO_272001.out).2.1);rintro e w16 ⟨v274,rfl,ho0,hb⟩;refine ⟨_,rfl,?_⟩;have n0_:=Aside0.mk (Kd.R_below (by (with_reducible repeat (first|apply yH|apply yI|apply yJ));exact HO_6.out) hb);have n1_:=Aside0.mk (Kd.R_below (by (with_reducible repeat (first|apply yH|apply yI|apply yJ));exact HO_272001.out) hb);have n2_:=Aside0.mk (Kd.R_lower ho0 (yQ (by repeat (first|(with_reducible first|exact HB.out|apply yA|apply yB|apply yC|refine yD ?_ GE271.out)|exact HB.out))));have n3_:=Aside0.mk (blk_below (g:=gb271) (o:=.cells #[.int .u8 t266,.slice Ao10 t267.length co10] 44 (0,0)) (by (with_reducible repeat (first|refine yE ?_ _|refine yF ?_|refine yG ?_ _));exact BK271.out) hb);have n4_:=Aside0.mk (yP (by repeat (first|(with_reducible first|exact HB.out|apply yA|apply yB|apply yC|refine yD ?_ GE271.out)|exact HB.out)) hb);clear HO_6;clear HO_272001;clear BK271;clear HB;have HO_6:=n0_;have HO_272001:=n1_;have HO275:=n2_;have BK271:=n3_;have HB:=n4_;clear n0_ n1_ n2_ n3_ n4_;(try clear hb);(try clear hb2);(try clear hk);(try clear hi);(try clear ho0)))
    go_loopg [6,10] kj3 (fun kq v6 v10 w'=>∃ (x6_2:List Int) (x10_2:Int),v10=.int .i64 x10_2∧Aside0 (spec_TermList.l0 kq a1 x6_2 t273 x10_2=some (r1,r2))∧Aside0 (kq≤kj3)∧Aside0 (Kd.R (Kd.int .i64) 3 w' w.heap.size (fun _=>True) v6 x6_2)∧Aside0 (Kd.R Kd.bool 4 w' w.heap.size (fun _=>True) v274 t273)∧Aside0 (Kd.R k44 44 w' w.heap.size (fun k_=>k_≠gb271) (.slice Ao10 t267.length co10) t267)∧Aside0 (w'.heap[gb271]?=some (.cells #[.int .u8 t266,(.slice Ao10 t267.length co10)] 44 (0,0)))∧Aside0 (Below w.heap.size w w'))
    case atStart=>exact ⟨(y263),(0),(by first|rfl|(simp;done)|(simp [*];done)|(simp [Int.tmod_eq_emod_of_nonneg];done)),H',⟨Nat.le_refl _⟩,⟨by (with_reducible repeat (first|apply yH|apply yI|apply yJ));exact HO_6.out⟩,⟨by (with_reducible repeat (first|apply yH|apply yI|apply yJ));exact HO275.out⟩,⟨by (with_reducible repeat (first|apply yH|apply yI|apply yJ));exact HO_272001.out⟩,⟨by (with_reducible repeat (first|refine yE ?_ _|refine yF ?_|refine yG ?_ _));exact BK271.out⟩,⟨by repeat (first|(with_reducible first|exact HB.out|apply yA|apply yB|apply yC|refine yD ?_ GE271.out)|exact HB.out)⟩⟩
    case round =>
     clear H'
     try clear c1
     try clear c2
     try clear p2
     try clear c11
     try clear c13
     try clear c14
     try clear hcz15_0
     try clear hcz15_1
     try clear hcz9_0
     try clear hcz9_1
     try clear hfz15_0
     try clear hfz15_1
     try clear hfz9_0
     try clear hfz9_1
     try clear p2
     obtain ⟨x6_2,x10_2,rfl,HA,HK2,HO_6,HO_9,HO_272001,BK271,HB⟩:=hrel
     cases gk with
     | zero=>exact absurd HA.out (by simp [spec_TermList.l0])
     | succ k2 =>
      have H:=HA.out
      clear HA
      simp only [spec_TermList.l0] at H
      by_cases c17:x10_2<a1
      ·rw [if_pos c17] at H
       have c17b0:decide (x10_2<a1)=true:=decide_eq_true c17
       clear c17
       by_cases c18:0≤x10_2
       ·rw [if_pos c18] at H
        have c18b0:decide (0≤x10_2)=true:=decide_eq_true c18
        clear c18
        by_cases c19:x10_2<(t273.length:Int)
        ·rw [if_pos c19] at H
         have c19b0:decide (x10_2<(t273.length:Int))=true:=decide_eq_true c19
         clear c19
         obtain ⟨bq20,hbq20⟩:∃ b_:Bool,b_=(rdOf false t273 x10_2):=⟨_,rfl⟩
         replace H:(if bq20=true then (if x6_2.length<17592186044416 then (spec_TermList.l0 k2 a1 (x6_2++[x10_2]) t273 (wrap64 (x10_2+1))) else (none)) else (spec_TermList.l0 k2 a1 x6_2 t273 (wrap64 (x10_2+1))))=some (r1,r2):=by rw [← hbq20] at H;exact H
         have Nbq20:=Aside0.mk hbq20
         clear hbq20
         by_cases c21:bq20=true
         ·subst c21
          have H1:(if x6_2.length<17592186044416 then (spec_TermList.l0 k2 a1 (x6_2++[x10_2]) t273 (wrap64 (x10_2+1))) else (none))=some (r1,r2):=by rw [if_pos rfl] at H;exact H
          clear H
          have H:=H1
          clear H1
          by_cases c22:x6_2.length<17592186044416
          ·rw [if_pos c22] at H
           have LMc22:=Aside0.mk c22
           clear c22
           obtain ⟨y277,hy277⟩:∃ y_:List Int,y_=(x6_2++[x10_2]):=⟨_,rfl⟩
           replace H:(spec_TermList.l0 k2 a1 y277 t273 (wrap64 (x10_2+1)))=some (r1,r2):=by first|(rw [hy277];with_reducible exact H)|(have H2_:=(Option.bind_some _ _).symm.trans H;rw [hy277];with_reducible exact H2_)|(have H2_:=(Option.bind_some _ _).symm.trans H;with_reducible exact H2_)|with_reducible exact H|(rw [hy277];exact H)|exact H
           have Ny277:=Aside0.mk hy277
           clear hy277
           have H':=Aside0.mk H
           clear H
           obtain ⟨Ao23,co23,eo23⟩:=Kd.R_slice HO_9.out
           subst eo23
           have p276:0≤(x10_2:Int):=of_decide_eq_true (by first|(with_reducible assumption)|assumption)
           have q276:x10_2<(t273.length:Int):=of_decide_eq_true (by first|(with_reducible assumption)|assumption)
           obtain ⟨ad276,e276,hx276_0⟩:=Kd.at_bool (Kd.R_reads' HO_9.out).2.2 x10_2 p276 q276
           (try rw [← Nbq20.out] at hx276_0)
           cases e276
           replace p276:=eq_true p276
           replace q276:=eq_true q276
           go_wp2_with (first|((with_reducible refine gate_builtin (b:=.append) (xs:=#[.tmp 37,.tmp 39]) rfl ?_);at_builtin;refine Kd.R_append (Kd.int .i64) (w0:=w) w.heap.size rfl (.tmp 37) (.tmp 39) 30 3 (.int .i64 0) 8 rfl Try.underlying30 info3 rfl (by decide) (by omega) u6 x6_2 x10_2 [.int .i64 x10_2] (fun _=>True) (fun _=>False) rfl rfl ?aP (fun _ hk=>hk.elim) ?aF ?aO ?aB ?aS ?aL ?_;(case aP=>exact rfl);(case aB=>exact (by repeat (first|(with_reducible first|exact HB.out|apply yA|apply yB|apply yC|refine yD ?_ GE271.out)|exact HB.out)));(case aF=>exact (fun _ _=>trivial));(case aO=>exact (by (with_reducible repeat (first|apply yH|apply yI|apply yJ));exact HO_6.out));(case aS=>exact (yQ (by repeat (first|(with_reducible first|exact HB.out|apply yA|apply yB|apply yC|refine yD ?_ GE271.out)|exact HB.out))));(case aL=>have:=LMc22.out;omega);intro v278 w24 ho hb hg hat;rw [← Ny277.out] at ho;have n0_:=Aside0.mk (Kd.R_over' (by (with_reducible repeat (first|apply yH|apply yI|apply yJ));exact HO_9.out) (Kd.R_typed (by (with_reducible repeat (first|apply yH|apply yI|apply yJ));exact HO_6.out)) (by decide) hg);have n1_:=Aside0.mk (Kd.R_over' (by (with_reducible repeat (first|apply yH|apply yI|apply yJ));exact HO_272001.out) (Kd.R_typed (by (with_reducible repeat (first|apply yH|apply yI|apply yJ));exact HO_6.out)) (by decide) hg);have n2_:=Aside0.mk (blk_grown (g:=gb271) (o:=.cells #[.int .u8 t266,.slice Ao10 t267.length co10] 44 (0,0)) (by (with_reducible repeat (first|refine yE ?_ _|refine yF ?_|refine yG ?_ _));exact BK271.out) hg (Kd.R_ne HO_6.out BK271.out (by decide)));have n3_:=Aside0.mk (hb);have n4_:=Aside0.mk (ho);clear HO_9;clear HO_272001;clear BK271;clear HB;clear HO_6;have HO_9:=n0_;have HO_272001:=n1_;have BK271:=n2_;have HB:=n3_;have HO279:=n4_;clear n0_ n1_ n2_ n3_ n4_;clear ho hb hg hat))
           go_roundg k2
           case measure=>have:=HJ3.out;have:=HK2.out;omega
           case rel=>exact ⟨(y277),(wrap64 (x10_2+1)),(by first|rfl|(simp;done)|(simp [*];done)|(simp [Int.tmod_eq_emod_of_nonneg];done)),H',⟨by have:=HJ3.out;have:=HK2.out;omega⟩,⟨by (with_reducible repeat (first|apply yH|apply yI|apply yJ));exact HO279.out⟩,⟨by (with_reducible repeat (first|apply yH|apply yI|apply yJ));exact HO_9.out⟩,⟨by (with_reducible repeat (first|apply yH|apply yI|apply yJ));exact HO_272001.out⟩,⟨by (with_reducible repeat (first|refine yE ?_ _|refine yF ?_|refine yG ?_ _));exact BK271.out⟩,⟨by repeat (first|(with_reducible first|exact HB.out|apply yA|apply yB|apply yC|refine yD ?_ GE271.out)|exact HB.out)⟩⟩
          ·rw [if_neg c22] at H
           exact absurd H (by simp)
         ·replace c21:=Bool.eq_false_iff.mpr c21
          subst c21
          have H1:(spec_TermList.l0 k2 a1 x6_2 t273 (wrap64 (x10_2+1)))=some (r1,r2):=by rw [if_neg (show ¬ (false=true) by decide)] at H;exact H
          clear H
          have H:=H1
          clear H1
          have H':=Aside0.mk H
          clear H
          obtain ⟨Ao25,co25,eo25⟩:=Kd.R_slice HO_9.out
          subst eo25
          have p276:0≤(x10_2:Int):=of_decide_eq_true (by first|(with_reducible assumption)|assumption)
          have q276:x10_2<(t273.length:Int):=of_decide_eq_true (by first|(with_reducible assumption)|assumption)
          obtain ⟨ad276,e276,hx276_0⟩:=Kd.at_bool (Kd.R_reads' HO_9.out).2.2 x10_2 p276 q276
          (try rw [← Nbq20.out] at hx276_0)
          cases e276
          replace p276:=eq_true p276
          replace q276:=eq_true q276
          go_wp2
          go_roundg k2
          case measure=>have:=HJ3.out;have:=HK2.out;omega
          case rel=>exact ⟨(x6_2),(wrap64 (x10_2+1)),(by first|rfl|(simp;done)|(simp [*];done)|(simp [Int.tmod_eq_emod_of_nonneg];done)),H',⟨by have:=HJ3.out;have:=HK2.out;omega⟩,⟨by (with_reducible repeat (first|apply yH|apply yI|apply yJ));exact HO_6.out⟩,⟨by (with_reducible repeat (first|apply yH|apply yI|apply yJ));exact HO_9.out⟩,⟨by (with_reducible repeat (first|apply yH|apply yI|apply yJ));exact HO_272001.out⟩,⟨by (with_reducible repeat (first|refine yE ?_ _|refine yF ?_|refine yG ?_ _));exact BK271.out⟩,⟨by repeat (first|(with_reducible first|exact HB.out|apply yA|apply yB|apply yC|refine yD ?_ GE271.out)|exact HB.out)⟩⟩
        ·rw [if_neg c19] at H
         exact absurd H (by simp)
       ·rw [if_neg c18] at H
        exact absurd H (by simp)
      ·rw [if_neg c17] at H
       have c17b0:decide (x10_2<a1)=false:=decide_eq_false c17
       clear c17
       simp only [Option.some.injEq,Prod.mk.injEq] at H
       obtain ⟨rfl,rfl⟩:=H
       go_wp2
       go_ret2
       exact ⟨_,by first|rfl|(simp [errW_none,errW_some]<;>rfl)|(simp [*,errW_none,errW_some]<;>rfl)|(simp [errW_none,errW_some];exact ⟨rfl,rfl⟩),by (with_reducible repeat (first|apply yH|apply yI|apply yJ));exact HO_6.out,by repeat (first|(with_reducible first|exact HB.out|apply yA|apply yB|apply yC|refine yD ?_ GE271.out)|exact HB.out)⟩

end Go.Proofs.Ytjjnckgdpdelkaa.P

namespace Go.Proofs.Ytjjnckgdpdelkaa.P
open Go.RowKit Go.Proofs.YtjjnckgdpdelkaaW.PrintWords Go.Proofs.YtjjnckgdpdelkaaW.PrintLast Go.Proofs.YtjjnckgdpdelkaaW.PrintMore
attribute [local go_sem] max2_int min2_int max_two min_two max_three min_three max_four min_four   -- for this text's walks alone
set_option linter.unusedVariables false
set_option linter.unusedSimpArgs false

/-! ### laws_FnExactTermList: function 5 -/
mutual
noncomputable def laws_FnExactTermList.j0:Nat→ByteArray→Int→List Int→Bool→List Int→Bool→Option (Bool)
 | 0,_,_,_,_,_,_=>none
 | k+1,x0,x1,x5,x6,x7,x36=>if x36=true then (some false) else ((laws_markIntS.f k x7 1).bind fun bt293=>((laws_heldIntS.f k bt293.2 1).bind fun t295=>(if t295<0 then (some false) else (if t295=bt293.1 then ((impl_TermList.f x0 x1).bind fun bt296=>((laws_eqIntS.f k bt296.1 x5).bind fun t300=>(if t300=true then (laws_FnExactTermList.j1 k bt293.2 bt293.1 (bt296.2 != x6)) else (laws_FnExactTermList.j1 k bt293.2 bt293.1 true)))) else (some false)))))
noncomputable def laws_FnExactTermList.j1:Nat→List Int→Int→Bool→Option (Bool)
 | 0,_,_,_=>none
 | k+1,x7,x9,x62=>if x62=true then (some false) else ((laws_heldIntS.f k x7 1).bind fun t301=>(if t301<0 then (some false) else (if t301=x9 then (some true) else (some false))))
end
noncomputable def laws_FnExactTermList.f (k:Nat) (a0:ByteArray) (a1:Int):Option (Bool):=if (a0.size:Int) > 1048576 then (some true) else ((spec_TermList.f k a0 a1).bind fun bt284=>((impl_TermList.f a0 a1).bind fun bt288=>((laws_eqIntS.f k bt288.1 bt284.1).bind fun t292=>(if t292=true then (laws_FnExactTermList.j0 k a0 a1 bt284.1 bt284.2 bt288.1 (bt288.2 != bt284.2)) else (laws_FnExactTermList.j0 k a0 a1 bt284.1 bt284.2 bt288.1 true)))))
theorem laws_FnExactTermList.mono_l:∀ k,(∀ y0 y1 y2 y3 y4 y5,LeO (laws_FnExactTermList.j0 k y0 y1 y2 y3 y4 y5) (laws_FnExactTermList.j0 (k+1) y0 y1 y2 y3 y4 y5))∧(∀ y0 y1 y2,LeO (laws_FnExactTermList.j1 k y0 y1 y2) (laws_FnExactTermList.j1 (k+1) y0 y1 y2))
 | 0=>⟨fun _ _ _ _ _ _ r h=>by simp [laws_FnExactTermList.j0] at h,fun _ _ _ r h=>by simp [laws_FnExactTermList.j1] at h⟩
 | k+1=>by
  obtain ⟨ih0,ih1⟩:=laws_FnExactTermList.mono_l k
  refine ⟨?_,?_⟩
  ·intro y0 y1 y2 y3 y4 y5
   unfold laws_FnExactTermList.j0
   repeat' first
   | (with_reducible exact ih0 _ _ _ _ _ _)
   | (with_reducible exact ih1 _ _ _)
   | (with_reducible exact laws_eqIntS.mono _ _ _)
   | (with_reducible exact laws_heldIntS.mono _ _ _)
   | (with_reducible exact laws_markIntS.mono _ _ _)
   | (with_reducible exact spec_TermList.mono _ _ _)
   | (with_reducible exact LeO.refl _)
   | (with_reducible exact LeO.none _)
   | (with_reducible refine LeO.ite ?_ ?_)
   | (with_reducible refine LeO.bind ?_ (fun _=>?_))
   | exact ih0 _ _ _ _ _ _
   | exact ih1 _ _ _
   | exact laws_eqIntS.mono _ _ _
   | exact laws_heldIntS.mono _ _ _
   | exact laws_markIntS.mono _ _ _
   | exact spec_TermList.mono _ _ _
   | exact LeO.none _
   | refine LeO.ite ?_ ?_
   | refine LeO.bind ?_ (fun _=>?_)
  ·intro y0 y1 y2
   unfold laws_FnExactTermList.j1
   repeat' first
   | (with_reducible exact ih0 _ _ _ _ _ _)
   | (with_reducible exact ih1 _ _ _)
   | (with_reducible exact laws_eqIntS.mono _ _ _)
   | (with_reducible exact laws_heldIntS.mono _ _ _)
   | (with_reducible exact laws_markIntS.mono _ _ _)
   | (with_reducible exact spec_TermList.mono _ _ _)
   | (with_reducible exact LeO.refl _)
   | (with_reducible exact LeO.none _)
   | (with_reducible refine LeO.ite ?_ ?_)
   | (with_reducible refine LeO.bind ?_ (fun _=>?_))
   | exact ih0 _ _ _ _ _ _
   | exact ih1 _ _ _
   | exact laws_eqIntS.mono _ _ _
   | exact laws_heldIntS.mono _ _ _
   | exact laws_markIntS.mono _ _ _
   | exact spec_TermList.mono _ _ _
   | exact LeO.none _
   | refine LeO.ite ?_ ?_
   | refine LeO.bind ?_ (fun _=>?_)
theorem laws_FnExactTermList.mono:∀ a0 a1 k,LeO (laws_FnExactTermList.f k a0 a1) (laws_FnExactTermList.f (k+1) a0 a1):=by
 intro a0 a1 k
 obtain ⟨ih0,ih1⟩:=laws_FnExactTermList.mono_l k
 unfold laws_FnExactTermList.f
 repeat' first
   | (with_reducible exact ih0 _ _ _ _ _ _)
   | (with_reducible exact ih1 _ _ _)
   | (with_reducible exact laws_eqIntS.mono _ _ _)
   | (with_reducible exact laws_heldIntS.mono _ _ _)
   | (with_reducible exact laws_markIntS.mono _ _ _)
   | (with_reducible exact spec_TermList.mono _ _ _)
   | (with_reducible exact LeO.refl _)
   | (with_reducible exact LeO.none _)
   | (with_reducible refine LeO.ite ?_ ?_)
   | (with_reducible refine LeO.bind ?_ (fun _=>?_))
   | exact ih0 _ _ _ _ _ _
   | exact ih1 _ _ _
   | exact laws_eqIntS.mono _ _ _
   | exact laws_heldIntS.mono _ _ _
   | exact laws_markIntS.mono _ _ _
   | exact spec_TermList.mono _ _ _
   | exact LeO.none _
   | refine LeO.ite ?_ ?_
   | refine LeO.bind ?_ (fun _=>?_)
set_option maxHeartbeats 8000000 in
set_option maxRecDepth 100000 in
theorem laws_FnExactTermList.calls (k:Nat) (a0:ByteArray) (a1:Int) (r:Bool) (w:World) (h:laws_FnExactTermList.f k a0 a1=some r) :
  Calls Try.prog 5 #[.string a0,.int .i64 a1] w fun e w'=>e=.returned (.bool r)∧Below w.heap.size w w':=by
 have HB:=Aside0.mk (Below.refl w.heap.size w)
 have H:(if (a0.size:Int) > 1048576 then (some true) else ((spec_TermList.f k a0 a1).bind fun bt284=>((impl_TermList.f a0 a1).bind fun bt288=>((laws_eqIntS.f k bt288.1 bt284.1).bind fun t292=>(if t292=true then (laws_FnExactTermList.j0 k a0 a1 bt284.1 bt284.2 bt288.1 (bt288.2 != bt284.2)) else (laws_FnExactTermList.j0 k a0 a1 bt284.1 bt284.2 bt288.1 true))))))=some r:=h
 clear h
 by_cases c3:(a0.size:Int) > 1048576
 ·rw [if_pos c3] at H
  have c3b0:decide (1048576<(a0.size:Int))=true:=decide_eq_true c3
  have c3b1:decide (1048576<a0.size)=true:=decide_eq_true (by omega)
  clear c3
  obtain rfl:=Option.some.inj H
  go_enter Try.func5,Try.ntmps5
  go_wp2
  go_ret
  exact ⟨by first|rfl|(simp [errW_none,errW_some]<;>rfl)|(simp [*,errW_none,errW_some]<;>rfl)|(simp [errW_none,errW_some];exact ⟨rfl,rfl⟩),by repeat (first|(with_reducible first|exact HB.out|apply yA|apply yB|apply yC)|exact HB.out)⟩
 ·rw [if_neg c3] at H
  have c3b0:decide (1048576<(a0.size:Int))=false:=decide_eq_false c3
  have c3b1:decide (1048576<a0.size)=false:=decide_eq_false (by omega)
  clear c3
  replace H:=Option.bind_eq_some_iff.mp H
  obtain ⟨⟨t284,t285⟩,A40,H⟩:=H
  replace H:((impl_TermList.f a0 a1).bind fun bt288=>((laws_eqIntS.f k bt288.1 t284).bind fun t292=>(if t292=true then (laws_FnExactTermList.j0 k a0 a1 t284 t285 bt288.1 (bt288.2 != t285)) else (laws_FnExactTermList.j0 k a0 a1 t284 t285 bt288.1 true))))=some r:=H
  have A4:=Aside0.mk A40
  clear A40
  replace H:=Option.bind_eq_some_iff.mp H
  obtain ⟨⟨t288,t289⟩,A50,H⟩:=H
  replace H:((laws_eqIntS.f k t288 t284).bind fun t292=>(if t292=true then (laws_FnExactTermList.j0 k a0 a1 t284 t285 t288 (t289 != t285)) else (laws_FnExactTermList.j0 k a0 a1 t284 t285 t288 true)))=some r:=H
  have A5:=Aside0.mk A50
  clear A50
  have HC6:=Aside0.mk H
  clear H
  go_enter Try.func5,Try.ntmps5
  go_upto_region 5 with (first|((with_reducible refine gate_callee (f:=14) rfl ?_);refine goesL_ (some 19) rfl rfl Try.func14 (by kernel_rfl) rfl #[.string a0,.int .i64 a1] rfl (by (try simp only [List.map_toArray,List.map_cons,List.map_nil]);first|done|rfl|(simp only [List.length_drop,List.length_take];rfl)) ?_;(with_reducible refine (spec_TermList.calls k a0 a1 t284 t285 _ A4.out).mono ?_);rintro e w7 ⟨v286,rfl,ho0,hb⟩;refine ⟨_,rfl,?_⟩;have n0_:=Aside0.mk (Kd.R_lower ho0 (yQ (by repeat (first|(with_reducible first|exact HB.out|apply yA|apply yB|apply yC)|exact HB.out))));have n1_:=Aside0.mk (yP (by repeat (first|(with_reducible first|exact HB.out|apply yA|apply yB|apply yC)|exact HB.out)) hb);clear HB;have HO287:=n0_;have HB:=n1_;clear n0_ n1_;(try clear hb);(try clear hb2);(try clear hk);(try clear hi);(try clear ho0))|((with_reducible refine gate_callee (f:=15) rfl ?_);refine goesL_ (some 25) rfl rfl Try.func15 (by kernel_rfl) rfl #[.string a0,.int .i64 a1] rfl (by (try simp only [List.map_toArray,List.map_cons,List.map_nil]);first|done|rfl|(simp only [List.length_drop,List.length_take];rfl)) ?_;(with_reducible refine (impl_TermList.calls a0 a1 t288 t289 _ A5.out).mono ?_);rintro e w8 ⟨v290,rfl,ho0,hb⟩;refine ⟨_,rfl,?_⟩;have n0_:=Aside0.mk (Kd.R_elder' (by (with_reducible repeat (first|apply yH|apply yI|apply yJ));exact HO287.out) (Kd.R_base ho0) hb);have n1_:=Aside0.mk (Kd.R_lower (Kd.R_new' ho0 (Kd.R_lt (by (with_reducible repeat (first|apply yH|apply yI|apply yJ));exact HO287.out))) (yQ (by repeat (first|(with_reducible first|exact HB.out|apply yA|apply yB|apply yC)|exact HB.out))));have n2_:=Aside0.mk (yP (by repeat (first|(with_reducible first|exact HB.out|apply yA|apply yB|apply yC)|exact HB.out)) hb);clear HO287;clear HB;have HO287:=n0_;have HO291:=n1_;have HB:=n2_;clear n0_ n1_ n2_;(try clear hb);(try clear hb2);(try clear hk);(try clear hi);(try clear ho0)))
  (try simp only [Act.put,yK,yL,yM])
  go_cut [36] (fun v36 wc=>∃ (kq:Nat) (x36_5:Bool),v36=.bool x36_5∧Aside0 (laws_FnExactTermList.j0 kq a0 a1 t284 t285 t288 x36_5=some r)∧Aside0 (kq≤k)∧Aside0 (Kd.R (Kd.int .i64) 3 wc w.heap.size (fun k_=>some k_≠(v290:Value).ownBlock) v286 t284)∧Aside0 (Kd.R (Kd.int .i64) 3 wc w.heap.size (fun k_=>some k_≠(v286:Value).ownBlock) v290 t288)∧Aside0 (Below w.heap.size w wc))
  case first =>
   have H:=HC6.out
   clear HC6
   replace H:=Option.bind_eq_some_iff.mp H
   obtain ⟨t292,A90,H⟩:=H
   replace H:(if t292=true then (laws_FnExactTermList.j0 k a0 a1 t284 t285 t288 (t289 != t285)) else (laws_FnExactTermList.j0 k a0 a1 t284 t285 t288 true))=some r:=H
   have A9:=Aside0.mk A90
   clear A90
   by_cases c10:t292=true
   ·subst c10
    have H1:(laws_FnExactTermList.j0 k a0 a1 t284 t285 t288 (t289 != t285))=some r:=by rw [if_pos rfl] at H;exact H
    clear H
    have H:=H1
    clear H1
    have H':=Aside0.mk H
    clear H
    obtain ⟨Ao11,co11,eo11⟩:=Kd.R_slice HO291.out
    subst eo11
    obtain ⟨Ao12,co12,eo12⟩:=Kd.R_slice HO287.out
    subst eo12
    go_wp2_with (first|((with_reducible refine gate_callee (f:=16) rfl ?_);refine goesL_ (some 30) rfl rfl Try.func16 (by kernel_rfl) rfl #[.slice Ao11 t288.length co11,.slice Ao12 t284.length co12] rfl (by (try simp only [List.map_toArray,List.map_cons,List.map_nil]);first|done|rfl|(simp only [List.length_drop,List.length_take];rfl)) ?_;(with_reducible refine (laws_eqIntS.calls k _ _ t288 _ _ t284 true _ ?side1 ?side2 ?side3 ?side4 A9.out).mono ?_);(case side1=>repeat (first|exact (Kd.R_reads' HO291.out).2.2|(with_reducible refine Kd.C_alloc ?_ _)|(with_reducible refine Kd.C_drewN ?_ _)|(with_reducible refine Kd.C_drew ?_)));(case side2=>exact (Kd.R_reads' HO291.out).2.1);(case side3=>repeat (first|exact (Kd.R_reads' HO287.out).2.2|(with_reducible refine Kd.C_alloc ?_ _)|(with_reducible refine Kd.C_drewN ?_ _)|(with_reducible refine Kd.C_drew ?_)));(case side4=>exact (Kd.R_reads' HO287.out).2.1);rintro e w' ⟨rfl,⟨nd,rfl⟩⟩;refine ⟨_,rfl,?_⟩))
    go_meet
    case rel=>exact ⟨_,((t289 != t285)),(by first|rfl|(simp;done)|(simp [*];done)|(simp [Int.tmod_eq_emod_of_nonneg];done)),H',⟨by first|omega|exact Nat.le_refl _⟩,⟨by (with_reducible repeat (first|apply yH|apply yI|apply yJ));exact Kd.R_mono HO287.out (fun _ hk=>hk.2)⟩,⟨by (with_reducible repeat (first|apply yH|apply yI|apply yJ));exact Kd.R_mono HO291.out (fun _ hk=>hk.2)⟩,⟨by repeat (first|(with_reducible first|exact HB.out|apply yA|apply yB|apply yC)|exact HB.out)⟩⟩
   ·replace c10:=Bool.eq_false_iff.mpr c10
    subst c10
    have H1:(laws_FnExactTermList.j0 k a0 a1 t284 t285 t288 true)=some r:=by rw [if_neg (show ¬ (false=true) by decide)] at H;exact H
    clear H
    have H:=H1
    clear H1
    have H':=Aside0.mk H
    clear H
    obtain ⟨Ao13,co13,eo13⟩:=Kd.R_slice HO291.out
    subst eo13
    obtain ⟨Ao14,co14,eo14⟩:=Kd.R_slice HO287.out
    subst eo14
    go_wp2_with (first|((with_reducible refine gate_callee (f:=16) rfl ?_);refine goesL_ (some 30) rfl rfl Try.func16 (by kernel_rfl) rfl #[.slice Ao13 t288.length co13,.slice Ao14 t284.length co14] rfl (by (try simp only [List.map_toArray,List.map_cons,List.map_nil]);first|done|rfl|(simp only [List.length_drop,List.length_take];rfl)) ?_;(with_reducible refine (laws_eqIntS.calls k _ _ t288 _ _ t284 false _ ?side1 ?side2 ?side3 ?side4 A9.out).mono ?_);(case side1=>repeat (first|exact (Kd.R_reads' HO291.out).2.2|(with_reducible refine Kd.C_alloc ?_ _)|(with_reducible refine Kd.C_drewN ?_ _)|(with_reducible refine Kd.C_drew ?_)));(case side2=>exact (Kd.R_reads' HO291.out).2.1);(case side3=>repeat (first|exact (Kd.R_reads' HO287.out).2.2|(with_reducible refine Kd.C_alloc ?_ _)|(with_reducible refine Kd.C_drewN ?_ _)|(with_reducible refine Kd.C_drew ?_)));(case side4=>exact (Kd.R_reads' HO287.out).2.1);rintro e w' ⟨rfl,⟨nd,rfl⟩⟩;refine ⟨_,rfl,?_⟩))
    go_meet
    case rel=>exact ⟨_,(true),(by first|rfl|(simp;done)|(simp [*];done)|(simp [Int.tmod_eq_emod_of_nonneg];done)),H',⟨by first|omega|exact Nat.le_refl _⟩,⟨by (with_reducible repeat (first|apply yH|apply yI|apply yJ));exact Kd.R_mono HO287.out (fun _ hk=>hk.2)⟩,⟨by (with_reducible repeat (first|apply yH|apply yI|apply yJ));exact Kd.R_mono HO291.out (fun _ hk=>hk.2)⟩,⟨by repeat (first|(with_reducible first|exact HB.out|apply yA|apply yB|apply yC)|exact HB.out)⟩⟩
  case rest =>
   clear HC6
   try clear c1
   try clear p2
   try clear c3
   try clear c3b0
   try clear c3b1
   try clear c5
   try clear c10
   try clear c14
   obtain ⟨kq,x36_5,rfl,HA,HJ5,HO_5,HO_7,HB⟩:=hcut
   cases kq with
   | zero=>exact absurd HA.out (by simp [laws_FnExactTermList.j0])
   | succ kj5 =>
    have H:=HA.out
    clear HA
    simp only [laws_FnExactTermList.j0] at H
    by_cases c15:x36_5=true
    ·subst c15
     have H1:(some false)=some r:=by rw [if_pos rfl] at H;exact H
     clear H
     have H:=H1
     clear H1
     obtain rfl:=Option.some.inj H
     go_wp2
     go_ret
     exact ⟨by first|rfl|(simp [errW_none,errW_some]<;>rfl)|(simp [*,errW_none,errW_some]<;>rfl)|(simp [errW_none,errW_some];exact ⟨rfl,rfl⟩),by repeat (first|(with_reducible first|exact HB.out|apply yA|apply yB|apply yC)|exact HB.out)⟩
    ·replace c15:=Bool.eq_false_iff.mpr c15
     subst c15
     have H1:((laws_markIntS.f kj5 t288 1).bind fun bt293=>((laws_heldIntS.f kj5 bt293.2 1).bind fun t295=>(if t295<0 then (some false) else (if t295=bt293.1 then ((impl_TermList.f a0 a1).bind fun bt296=>((laws_eqIntS.f kj5 bt296.1 t284).bind fun t300=>(if t300=true then (laws_FnExactTermList.j1 kj5 bt293.2 bt293.1 (bt296.2 != t285)) else (laws_FnExactTermList.j1 kj5 bt293.2 bt293.1 true)))) else (some false)))))=some r:=by rw [if_neg (show ¬ (false=true) by decide)] at H;exact H
     clear H
     have H:=H1
     clear H1
     replace H:=Option.bind_eq_some_iff.mp H
     obtain ⟨⟨t293,t294⟩,A160,H⟩:=H
     replace H:((laws_heldIntS.f kj5 t294 1).bind fun t295=>(if t295<0 then (some false) else (if t295=t293 then ((impl_TermList.f a0 a1).bind fun bt296=>((laws_eqIntS.f kj5 bt296.1 t284).bind fun t300=>(if t300=true then (laws_FnExactTermList.j1 kj5 t294 t293 (bt296.2 != t285)) else (laws_FnExactTermList.j1 kj5 t294 t293 true)))) else (some false))))=some r:=H
     have A16:=Aside0.mk A160
     clear A160
     replace H:=Option.bind_eq_some_iff.mp H
     obtain ⟨t295,A170,H⟩:=H
     replace H:(if t295<0 then (some false) else (if t295=t293 then ((impl_TermList.f a0 a1).bind fun bt296=>((laws_eqIntS.f kj5 bt296.1 t284).bind fun t300=>(if t300=true then (laws_FnExactTermList.j1 kj5 t294 t293 (bt296.2 != t285)) else (laws_FnExactTermList.j1 kj5 t294 t293 true)))) else (some false)))=some r:=H
     have A17:=Aside0.mk A170
     clear A170
     by_cases c18:t295<0
     ·rw [if_pos c18] at H
      have c18b0:decide (t295<0)=true:=decide_eq_true c18
      clear c18
      obtain rfl:=Option.some.inj H
      obtain ⟨Ao19,co19,eo19⟩:=Kd.R_slice HO_7.out
      subst eo19
      go_wp2_with (first|((with_reducible refine gate_callee (f:=17) rfl ?_);refine goesL_ (some 39) rfl rfl Try.func17 (by kernel_rfl) rfl #[.slice Ao19 t288.length co19,.int .i64 1] rfl (by (try simp only [List.map_toArray,List.map_cons,List.map_nil]);first|done|rfl|(simp only [List.length_drop,List.length_take];rfl)) ?_;(with_reducible refine (laws_markIntS.calls kj5 (fun k_=>some k_=(.slice Ao19 t288.length co19:Value).ownBlock) (.slice Ao19 t288.length co19) t288 1 t293 t294 w _ ?side1 ?side2 A16.out).mono ?_);(case side1=>repeat (first|(with_reducible first|exact HB.out|apply yA|apply yB|apply yC)|exact HB.out));(case side2=>exact Kd.R_tight rfl HO_7.out);rintro e w20 ⟨rfl,hy0,hb,hkp⟩;refine ⟨_,rfl,?_⟩;have n0_:=Aside0.mk (Kd.R_mono (ok':=fun k_=>some k_≠(.slice Ao19 t288.length co19:Value).ownBlock) (Kd.R_keptB (HO_5.out) hkp (fun k_ hk_ hs_=>(hk_) hs_)) (fun k_ hk_=>hk_.1));have n1_:=Aside0.mk (Kd.R_reok rfl hy0 (fun k_ e_=>HO_7.out.1 k_ e_));have n2_:=Aside0.mk (hb);clear HO_5;clear HO_7;clear HB;have HO_5:=n0_;have HO_7:=n1_;have HB:=n2_;clear n0_ n1_ n2_;(try clear hb);(try clear hkp);(try clear hy0))|((with_reducible refine gate_callee (f:=18) rfl ?_);refine goesL_ (some 42) rfl rfl Try.func18 (by kernel_rfl) rfl #[.slice Ao19 t294.length co19,.int .i64 1] rfl (by (try simp only [List.map_toArray,List.map_cons,List.map_nil]);first|done|(rw [show t294.length=t288.length from (Kd.R_reads' HO_7.out).1.symm]<;>rfl)|rfl|(simp only [List.length_drop,List.length_take];rfl)) ?_;(with_reducible refine (laws_heldIntS.calls kj5 _ _ t294 1 t295 _ ?side1 ?side2 A17.out).mono ?_);(case side1=>repeat (first|exact (Kd.R_reads' HO_7.out).2.2|(with_reducible refine Kd.C_alloc ?_ _)|(with_reducible refine Kd.C_drewN ?_ _)|(with_reducible refine Kd.C_drew ?_)));(case side2=>rw [show t294.length=t288.length from (Kd.R_reads' HO_7.out).1.symm];exact (Kd.R_reads' HO_7.out).2.1);rintro e w' ⟨rfl,⟨nd,rfl⟩⟩;refine ⟨_,rfl,?_⟩))
      go_ret
      exact ⟨by first|rfl|(simp [errW_none,errW_some]<;>rfl)|(simp [*,errW_none,errW_some]<;>rfl)|(simp [errW_none,errW_some];exact ⟨rfl,rfl⟩),by repeat (first|(with_reducible first|exact HB.out|apply yA|apply yB|apply yC)|exact HB.out)⟩
     ·rw [if_neg c18] at H
      have c18b0:decide (t295<0)=false:=decide_eq_false c18
      clear c18
      by_cases c21:t295=t293
      ·rw [if_pos c21] at H
       have c21b0:(t295 == t293)=true:=beq_iff_eq.mpr c21
       have c21b1:(t295 != t293)=false:=bne_eq_false_iff_eq.mpr c21
       clear c21
       replace H:=Option.bind_eq_some_iff.mp H
       obtain ⟨⟨t296,t297⟩,A220,H⟩:=H
       replace H:((laws_eqIntS.f kj5 t296 t284).bind fun t300=>(if t300=true then (laws_FnExactTermList.j1 kj5 t294 t293 (t297 != t285)) else (laws_FnExactTermList.j1 kj5 t294 t293 true)))=some r:=H
       have A22:=Aside0.mk A220
       clear A220
       have HC23:=Aside0.mk H
       clear H
       obtain ⟨Ao24,co24,eo24⟩:=Kd.R_slice HO_7.out
       subst eo24
       go_upto_region 16 with (first|((with_reducible refine gate_callee (f:=17) rfl ?_);refine goesL_ (some 39) rfl rfl Try.func17 (by kernel_rfl) rfl #[.slice Ao24 t288.length co24,.int .i64 1] rfl (by (try simp only [List.map_toArray,List.map_cons,List.map_nil]);first|done|rfl|(simp only [List.length_drop,List.length_take];rfl)) ?_;(with_reducible refine (laws_markIntS.calls kj5 (fun k_=>some k_=(.slice Ao24 t288.length co24:Value).ownBlock) (.slice Ao24 t288.length co24) t288 1 t293 t294 w _ ?side1 ?side2 A16.out).mono ?_);(case side1=>repeat (first|(with_reducible first|exact HB.out|apply yA|apply yB|apply yC)|exact HB.out));(case side2=>exact Kd.R_tight rfl HO_7.out);rintro e w25 ⟨rfl,hy0,hb,hkp⟩;refine ⟨_,rfl,?_⟩;have n0_:=Aside0.mk (Kd.R_mono (ok':=fun k_=>some k_≠(.slice Ao24 t288.length co24:Value).ownBlock) (Kd.R_keptB (HO_5.out) hkp (fun k_ hk_ hs_=>(hk_) hs_)) (fun k_ hk_=>hk_.1));have n1_:=Aside0.mk (Kd.R_reok rfl hy0 (fun k_ e_=>HO_7.out.1 k_ e_));have n2_:=Aside0.mk (hb);clear HO_5;clear HO_7;clear HB;have HO_5:=n0_;have HO_7:=n1_;have HB:=n2_;clear n0_ n1_ n2_;(try clear hb);(try clear hkp);(try clear hy0))|((with_reducible refine gate_callee (f:=18) rfl ?_);refine goesL_ (some 42) rfl rfl Try.func18 (by kernel_rfl) rfl #[.slice Ao24 t294.length co24,.int .i64 1] rfl (by (try simp only [List.map_toArray,List.map_cons,List.map_nil]);first|done|(rw [show t294.length=t288.length from (Kd.R_reads' HO_7.out).1.symm]<;>rfl)|rfl|(simp only [List.length_drop,List.length_take];rfl)) ?_;(with_reducible refine (laws_heldIntS.calls kj5 _ _ t294 1 t295 _ ?side1 ?side2 A17.out).mono ?_);(case side1=>repeat (first|exact (Kd.R_reads' HO_7.out).2.2|(with_reducible refine Kd.C_alloc ?_ _)|(with_reducible refine Kd.C_drewN ?_ _)|(with_reducible refine Kd.C_drew ?_)));(case side2=>rw [show t294.length=t288.length from (Kd.R_reads' HO_7.out).1.symm];exact (Kd.R_reads' HO_7.out).2.1);rintro e w' ⟨rfl,⟨nd,rfl⟩⟩;refine ⟨_,rfl,?_⟩)|((with_reducible refine gate_callee (f:=15) rfl ?_);refine goesL_ (some 51) rfl rfl Try.func15 (by kernel_rfl) rfl #[.string a0,.int .i64 a1] rfl (by (try simp only [List.map_toArray,List.map_cons,List.map_nil]);first|done|rfl|(simp only [List.length_drop,List.length_take];rfl)) ?_;(with_reducible refine (impl_TermList.calls a0 a1 t296 t297 _ A22.out).mono ?_);rintro e w26 ⟨v298,rfl,ho0,hb⟩;refine ⟨_,rfl,?_⟩;have n0_:=Aside0.mk (Kd.R_elder' (by (with_reducible repeat (first|apply yH|apply yI|apply yJ));exact HO_5.out) (Kd.R_base ho0) hb);have n1_:=Aside0.mk (Kd.R_elder' (by (with_reducible repeat (first|apply yH|apply yI|apply yJ));exact HO_7.out) (Kd.R_base ho0) hb);have n2_:=Aside0.mk (Kd.R_lower (Kd.R_new' (Kd.R_new' ho0 (Kd.R_lt (by (with_reducible repeat (first|apply yH|apply yI|apply yJ));exact HO_5.out))) (Kd.R_lt (by (with_reducible repeat (first|apply yH|apply yI|apply yJ));exact HO_7.out))) (yQ (by repeat (first|(with_reducible first|exact HB.out|apply yA|apply yB|apply yC)|exact HB.out))));have n3_:=Aside0.mk (yP (by repeat (first|(with_reducible first|exact HB.out|apply yA|apply yB|apply yC)|exact HB.out)) hb);clear HO_5;clear HO_7;clear HB;have HO_5:=n0_;have HO_7:=n1_;have HO299:=n2_;have HB:=n3_;clear n0_ n1_ n2_ n3_;(try clear hb);(try clear hb2);(try clear hk);(try clear hi);(try clear ho0)))
       (try simp only [Act.put,yK,yL,yM])
       go_cut [62] (fun v62 wc=>∃ (kq:Nat) (x62_22:Bool),v62=.bool x62_22∧Aside0 (laws_FnExactTermList.j1 kq t294 t293 x62_22=some r)∧Aside0 (kq≤kj5)∧Aside0 (Kd.R (Kd.int .i64) 3 wc w.heap.size (fun _=>True) (.slice Ao24 t288.length co24) t294)∧Aside0 (Below w.heap.size w wc))
       case first =>
        have H:=HC23.out
        clear HC23
        replace H:=Option.bind_eq_some_iff.mp H
        obtain ⟨t300,A270,H⟩:=H
        replace H:(if t300=true then (laws_FnExactTermList.j1 kj5 t294 t293 (t297 != t285)) else (laws_FnExactTermList.j1 kj5 t294 t293 true))=some r:=H
        have A27:=Aside0.mk A270
        clear A270
        by_cases c28:t300=true
        ·subst c28
         have H1:(laws_FnExactTermList.j1 kj5 t294 t293 (t297 != t285))=some r:=by rw [if_pos rfl] at H;exact H
         clear H
         have H:=H1
         clear H1
         have H':=Aside0.mk H
         clear H
         obtain ⟨Ao29,co29,eo29⟩:=Kd.R_slice HO299.out
         subst eo29
         obtain ⟨Ao30,co30,eo30⟩:=Kd.R_slice HO_5.out
         subst eo30
         go_wp2_with (first|((with_reducible refine gate_callee (f:=16) rfl ?_);refine goesL_ (some 56) rfl rfl Try.func16 (by kernel_rfl) rfl #[.slice Ao29 t296.length co29,.slice Ao30 t284.length co30] rfl (by (try simp only [List.map_toArray,List.map_cons,List.map_nil]);first|done|rfl|(simp only [List.length_drop,List.length_take];rfl)) ?_;(with_reducible refine (laws_eqIntS.calls kj5 _ _ t296 _ _ t284 true _ ?side1 ?side2 ?side3 ?side4 A27.out).mono ?_);(case side1=>repeat (first|exact (Kd.R_reads' HO299.out).2.2|(with_reducible refine Kd.C_alloc ?_ _)|(with_reducible refine Kd.C_drewN ?_ _)|(with_reducible refine Kd.C_drew ?_)));(case side2=>exact (Kd.R_reads' HO299.out).2.1);(case side3=>repeat (first|exact (Kd.R_reads' HO_5.out).2.2|(with_reducible refine Kd.C_alloc ?_ _)|(with_reducible refine Kd.C_drewN ?_ _)|(with_reducible refine Kd.C_drew ?_)));(case side4=>exact (Kd.R_reads' HO_5.out).2.1);rintro e w' ⟨rfl,⟨nd,rfl⟩⟩;refine ⟨_,rfl,?_⟩))
         go_meet
         case rel=>exact ⟨_,((t297 != t285)),(by first|rfl|(simp;done)|(simp [*];done)|(simp [Int.tmod_eq_emod_of_nonneg];done)),H',⟨by have:=HJ5.out;first|omega|exact Nat.le_refl _⟩,⟨by (with_reducible repeat (first|apply yH|apply yI|apply yJ));exact Kd.R_mono HO_7.out (fun _ hk=>trivial)⟩,⟨by repeat (first|(with_reducible first|exact HB.out|apply yA|apply yB|apply yC)|exact HB.out)⟩⟩
        ·replace c28:=Bool.eq_false_iff.mpr c28
         subst c28
         have H1:(laws_FnExactTermList.j1 kj5 t294 t293 true)=some r:=by rw [if_neg (show ¬ (false=true) by decide)] at H;exact H
         clear H
         have H:=H1
         clear H1
         have H':=Aside0.mk H
         clear H
         obtain ⟨Ao31,co31,eo31⟩:=Kd.R_slice HO299.out
         subst eo31
         obtain ⟨Ao32,co32,eo32⟩:=Kd.R_slice HO_5.out
         subst eo32
         go_wp2_with (first|((with_reducible refine gate_callee (f:=16) rfl ?_);refine goesL_ (some 56) rfl rfl Try.func16 (by kernel_rfl) rfl #[.slice Ao31 t296.length co31,.slice Ao32 t284.length co32] rfl (by (try simp only [List.map_toArray,List.map_cons,List.map_nil]);first|done|rfl|(simp only [List.length_drop,List.length_take];rfl)) ?_;(with_reducible refine (laws_eqIntS.calls kj5 _ _ t296 _ _ t284 false _ ?side1 ?side2 ?side3 ?side4 A27.out).mono ?_);(case side1=>repeat (first|exact (Kd.R_reads' HO299.out).2.2|(with_reducible refine Kd.C_alloc ?_ _)|(with_reducible refine Kd.C_drewN ?_ _)|(with_reducible refine Kd.C_drew ?_)));(case side2=>exact (Kd.R_reads' HO299.out).2.1);(case side3=>repeat (first|exact (Kd.R_reads' HO_5.out).2.2|(with_reducible refine Kd.C_alloc ?_ _)|(with_reducible refine Kd.C_drewN ?_ _)|(with_reducible refine Kd.C_drew ?_)));(case side4=>exact (Kd.R_reads' HO_5.out).2.1);rintro e w' ⟨rfl,⟨nd,rfl⟩⟩;refine ⟨_,rfl,?_⟩))
         go_meet
         case rel=>exact ⟨_,(true),(by first|rfl|(simp;done)|(simp [*];done)|(simp [Int.tmod_eq_emod_of_nonneg];done)),H',⟨by have:=HJ5.out;first|omega|exact Nat.le_refl _⟩,⟨by (with_reducible repeat (first|apply yH|apply yI|apply yJ));exact Kd.R_mono HO_7.out (fun _ hk=>trivial)⟩,⟨by repeat (first|(with_reducible first|exact HB.out|apply yA|apply yB|apply yC)|exact HB.out)⟩⟩
       case rest =>
        clear HC23
        try clear c1
        try clear c2
        try clear p2
        try clear c3
        try clear c3b0
        try clear c3b1
        try clear c5
        try clear c10
        try clear c14
        try clear c15
        try clear c16
        try clear c17
        try clear c18
        try clear c18b0
        try clear c21
        try clear c21b0
        try clear c21b1
        try clear c28
        try clear p2
        obtain ⟨kq,x62_22,rfl,HA,HJ22,HO_7,HB⟩:=hcut
        have hl7_22:=(Kd.R_reads' HO_7.out).1
        rw [hl7_22] at HO_7
        (try simp only [hl7_22])
        cases kq with
        | zero=>exact absurd HA.out (by simp [laws_FnExactTermList.j1])
        | succ kj22 =>
         have H:=HA.out
         clear HA
         simp only [laws_FnExactTermList.j1] at H
         by_cases c33:x62_22=true
         ·subst c33
          have H1:(some false)=some r:=by rw [if_pos rfl] at H;exact H
          clear H
          have H:=H1
          clear H1
          obtain rfl:=Option.some.inj H
          go_wp2
          go_ret
          exact ⟨by first|rfl|(simp [errW_none,errW_some]<;>rfl)|(simp [*,errW_none,errW_some]<;>rfl)|(simp [errW_none,errW_some];exact ⟨rfl,rfl⟩),by repeat (first|(with_reducible first|exact HB.out|apply yA|apply yB|apply yC)|exact HB.out)⟩
         ·replace c33:=Bool.eq_false_iff.mpr c33
          subst c33
          have H1:((laws_heldIntS.f kj22 t294 1).bind fun t301=>(if t301<0 then (some false) else (if t301=t293 then (some true) else (some false))))=some r:=by rw [if_neg (show ¬ (false=true) by decide)] at H;exact H
          clear H
          have H:=H1
          clear H1
          replace H:=Option.bind_eq_some_iff.mp H
          obtain ⟨t301,A340,H⟩:=H
          replace H:(if t301<0 then (some false) else (if t301=t293 then (some true) else (some false)))=some r:=H
          have A34:=Aside0.mk A340
          clear A340
          by_cases c35:t301<0
          ·rw [if_pos c35] at H
           have c35b0:decide (t301<0)=true:=decide_eq_true c35
           clear c35
           obtain rfl:=Option.some.inj H
           go_wp2_with (first|((with_reducible refine gate_callee (f:=18) rfl ?_);refine goesL_ (some 65) rfl rfl Try.func18 (by kernel_rfl) rfl #[.slice Ao24 t294.length co24,.int .i64 1] rfl (by (try simp only [List.map_toArray,List.map_cons,List.map_nil]);first|done|rfl|(simp only [List.length_drop,List.length_take];rfl)) ?_;(with_reducible refine (laws_heldIntS.calls kj22 _ _ t294 1 t301 _ ?side1 ?side2 A34.out).mono ?_);(case side1=>repeat (first|exact (Kd.R_reads' HO_7.out).2.2|(with_reducible refine Kd.C_alloc ?_ _)|(with_reducible refine Kd.C_drewN ?_ _)|(with_reducible refine Kd.C_drew ?_)));(case side2=>exact (Kd.R_reads' HO_7.out).2.1);rintro e w' ⟨rfl,⟨nd,rfl⟩⟩;refine ⟨_,rfl,?_⟩))
           go_ret
           exact ⟨by first|rfl|(simp [errW_none,errW_some]<;>rfl)|(simp [*,errW_none,errW_some]<;>rfl)|(simp [errW_none,errW_some];exact ⟨rfl,rfl⟩),by repeat (first|(with_reducible first|exact HB.out|apply yA|apply yB|apply yC)|exact HB.out)⟩
          ·rw [if_neg c35] at H
           have c35b0:decide (t301<0)=false:=decide_eq_false c35
           clear c35
           by_cases c36:t301=t293
           ·rw [if_pos c36] at H
            have c36b0:(t301 == t293)=true:=beq_iff_eq.mpr c36
            have c36b1:(t301 != t293)=false:=bne_eq_false_iff_eq.mpr c36
            clear c36
            obtain rfl:=Option.some.inj H
            go_wp2_with (first|((with_reducible refine gate_callee (f:=18) rfl ?_);refine goesL_ (some 65) rfl rfl Try.func18 (by kernel_rfl) rfl #[.slice Ao24 t294.length co24,.int .i64 1] rfl (by (try simp only [List.map_toArray,List.map_cons,List.map_nil]);first|done|rfl|(simp only [List.length_drop,List.length_take];rfl)) ?_;(with_reducible refine (laws_heldIntS.calls kj22 _ _ t294 1 t301 _ ?side1 ?side2 A34.out).mono ?_);(case side1=>repeat (first|exact (Kd.R_reads' HO_7.out).2.2|(with_reducible refine Kd.C_alloc ?_ _)|(with_reducible refine Kd.C_drewN ?_ _)|(with_reducible refine Kd.C_drew ?_)));(case side2=>exact (Kd.R_reads' HO_7.out).2.1);rintro e w' ⟨rfl,⟨nd,rfl⟩⟩;refine ⟨_,rfl,?_⟩))
            go_ret
            exact ⟨by first|rfl|(simp [errW_none,errW_some]<;>rfl)|(simp [*,errW_none,errW_some]<;>rfl)|(simp [errW_none,errW_some];exact ⟨rfl,rfl⟩),by repeat (first|(with_reducible first|exact HB.out|apply yA|apply yB|apply yC)|exact HB.out)⟩
           ·rw [if_neg c36] at H
            have c36b0:(t301 == t293)=false:=beq_eq_false_iff_ne.mpr c36
            have c36b1:(t301 != t293)=true:=bne_iff_ne.mpr c36
            obtain rfl:=Option.some.inj H
            go_wp2_with (first|((with_reducible refine gate_callee (f:=18) rfl ?_);refine goesL_ (some 65) rfl rfl Try.func18 (by kernel_rfl) rfl #[.slice Ao24 t294.length co24,.int .i64 1] rfl (by (try simp only [List.map_toArray,List.map_cons,List.map_nil]);first|done|rfl|(simp only [List.length_drop,List.length_take];rfl)) ?_;(with_reducible refine (laws_heldIntS.calls kj22 _ _ t294 1 t301 _ ?side1 ?side2 A34.out).mono ?_);(case side1=>repeat (first|exact (Kd.R_reads' HO_7.out).2.2|(with_reducible refine Kd.C_alloc ?_ _)|(with_reducible refine Kd.C_drewN ?_ _)|(with_reducible refine Kd.C_drew ?_)));(case side2=>exact (Kd.R_reads' HO_7.out).2.1);rintro e w' ⟨rfl,⟨nd,rfl⟩⟩;refine ⟨_,rfl,?_⟩))
            go_ret
            exact ⟨by first|rfl|(simp [errW_none,errW_some]<;>rfl)|(simp [*,errW_none,errW_some]<;>rfl)|(simp [errW_none,errW_some];exact ⟨rfl,rfl⟩),by repeat (first|(with_reducible first|exact HB.out|apply yA|apply yB|apply yC)|exact HB.out)⟩
      ·rw [if_neg c21] at H
       have c21b0:(t295 == t293)=false:=beq_eq_false_iff_ne.mpr c21
       have c21b1:(t295 != t293)=true:=bne_iff_ne.mpr c21
       obtain rfl:=Option.some.inj H
       obtain ⟨Ao37,co37,eo37⟩:=Kd.R_slice HO_7.out
       subst eo37
       go_wp2_with (first|((with_reducible refine gate_callee (f:=17) rfl ?_);refine goesL_ (some 39) rfl rfl Try.func17 (by kernel_rfl) rfl #[.slice Ao37 t288.length co37,.int .i64 1] rfl (by (try simp only [List.map_toArray,List.map_cons,List.map_nil]);first|done|rfl|(simp only [List.length_drop,List.length_take];rfl)) ?_;(with_reducible refine (laws_markIntS.calls kj5 (fun k_=>some k_=(.slice Ao37 t288.length co37:Value).ownBlock) (.slice Ao37 t288.length co37) t288 1 t293 t294 w _ ?side1 ?side2 A16.out).mono ?_);(case side1=>repeat (first|(with_reducible first|exact HB.out|apply yA|apply yB|apply yC)|exact HB.out));(case side2=>exact Kd.R_tight rfl HO_7.out);rintro e w38 ⟨rfl,hy0,hb,hkp⟩;refine ⟨_,rfl,?_⟩;have n0_:=Aside0.mk (Kd.R_mono (ok':=fun k_=>some k_≠(.slice Ao37 t288.length co37:Value).ownBlock) (Kd.R_keptB (HO_5.out) hkp (fun k_ hk_ hs_=>(hk_) hs_)) (fun k_ hk_=>hk_.1));have n1_:=Aside0.mk (Kd.R_reok rfl hy0 (fun k_ e_=>HO_7.out.1 k_ e_));have n2_:=Aside0.mk (hb);clear HO_5;clear HO_7;clear HB;have HO_5:=n0_;have HO_7:=n1_;have HB:=n2_;clear n0_ n1_ n2_;(try clear hb);(try clear hkp);(try clear hy0))|((with_reducible refine gate_callee (f:=18) rfl ?_);refine goesL_ (some 42) rfl rfl Try.func18 (by kernel_rfl) rfl #[.slice Ao37 t294.length co37,.int .i64 1] rfl (by (try simp only [List.map_toArray,List.map_cons,List.map_nil]);first|done|(rw [show t294.length=t288.length from (Kd.R_reads' HO_7.out).1.symm]<;>rfl)|rfl|(simp only [List.length_drop,List.length_take];rfl)) ?_;(with_reducible refine (laws_heldIntS.calls kj5 _ _ t294 1 t295 _ ?side1 ?side2 A17.out).mono ?_);(case side1=>repeat (first|exact (Kd.R_reads' HO_7.out).2.2|(with_reducible refine Kd.C_alloc ?_ _)|(with_reducible refine Kd.C_drewN ?_ _)|(with_reducible refine Kd.C_drew ?_)));(case side2=>rw [show t294.length=t288.length from (Kd.R_reads' HO_7.out).1.symm];exact (Kd.R_reads' HO_7.out).2.1);rintro e w' ⟨rfl,⟨nd,rfl⟩⟩;refine ⟨_,rfl,?_⟩))
       go_ret
       exact ⟨by first|rfl|(simp [errW_none,errW_some]<;>rfl)|(simp [*,errW_none,errW_some]<;>rfl)|(simp [errW_none,errW_some];exact ⟨rfl,rfl⟩),by repeat (first|(with_reducible first|exact HB.out|apply yA|apply yB|apply yC)|exact HB.out)⟩

/-- THE ONE PURE STATEMENT of laws_FnExactTermList: yours. -/
noncomputable def laws_FnExactTermList.Pure:Prop:=∀ (a0:ByteArray) (a1:Int),a0.size≤140737488351232→(Lit.int .i64 a1).wf=true→∃ k,laws_FnExactTermList.f k a0 a1=some true
theorem laws_FnExactTermList.walk (P:laws_FnExactTermList.Pure) (a0:ByteArray) (a1:Int) (w:World) (w0:a0.size≤140737488351232) (w1:(Lit.int .i64 a1).wf=true) :
  Calls Try.prog 5 #[.string a0,.int .i64 a1] w fun e w'=>e=.returned (.bool true)∧Below w.heap.size w w':=by
 obtain ⟨k,h⟩:=P a0 a1 w0 w1
 refine (laws_FnExactTermList.calls k a0 a1 true w h).mono ?_
 rintro e w' ⟨rfl,hd⟩
 exact ⟨rfl,hd⟩

end Go.Proofs.Ytjjnckgdpdelkaa.P

-- spec.l7Of reads what trm reads.
namespace Go.Proofs.Ytjjnckgdpdelkaa.P
open Go.RowKit Go.Proofs.YtjjnckgdpdelkaaW.PrintWords Go.Proofs.YtjjnckgdpdelkaaW.PrintLast Go.Proofs.YtjjnckgdpdelkaaW.PrintMore
set_option linter.unusedVariables false
set_option linter.unusedSimpArgs false

def of7 : Option Tm → Int × List S44 × Bool
  | some t => (t.S.f0, t.S.f1, true)
  | none => (48, [], false)
theorem l7of_f (s : ByteArray) : spec_l7Of.f s = some (of7 (trm (chrs s))) := by
  unfold spec_l7Of.f
  show (if (s.size : Int) > 60 then _ else _) = _
  unfold trm
  rw [chrs_length]
  by_cases h : (s.size : Int) > 60
  · rw [if_pos h, if_neg (by omega)]; rfl
  · rw [if_neg h, if_pos (by omega)]
    unfold spec_l7Read.f
    rw [if_pos ⟨by omega, by omega, by omega⟩]
    show (if _ = (0 : Int) then _ else _) = _
    dsimp only
    rw [show ((0 : Int).toNat) = 0 from rfl, List.drop_zero]
    cases hp : prs (s.size + 1) (chrs s) with
    | none =>
      rw [(rd7_prs _ _).2 hp]
      rfl
    | some x =>
      obtain ⟨t, r⟩ := x
      rw [(rd7_prs _ _).1 t r hp]
      have hl := prs_len hp
      rw [chrs_length] at hl
      show (if ((s.size - r.length : Nat) : Int) = 0 then _ else (if ((s.size - r.length : Nat) : Int) = (s.size : Int) then _ else _)) = _
      rw [if_neg (by omega)]
      cases r with
      | nil => rw [if_pos (by simp)]; rfl
      | cons c r => rw [if_neg (by rw [List.length_cons] at hl ⊢; omega)]; rfl
end Go.Proofs.Ytjjnckgdpdelkaa.P

-- laws.eqIntS compares lists of numbers.
namespace Go.Proofs.Ytjjnckgdpdelkaa.P
open Go.RowKit Go.Proofs.YtjjnckgdpdelkaaW.PrintWords Go.Proofs.YtjjnckgdpdelkaaW.PrintLast Go.Proofs.YtjjnckgdpdelkaaW.PrintMore
set_option linter.unusedVariables false
set_option linter.unusedSimpArgs false

theorem rd_nat (l : List Int) {i : Nat} (h : i < l.length) : rd l (i : Int) = l[i] := by simp [rd, List.getD_eq_getElem?_getD, h]
theorem eqInts_l0 (a b : List Int) (hl : a.length = b.length) (hs : a.length ≤ 4611686018427387904) : ∀ (d i : Nat), i ≤ a.length → a.length - i = d → Ev (fun k => laws_eqIntS.l0 k a b i) (decide (a.drop i = b.drop i)) := by
  intro d
  induction d with
  | zero =>
    intro i h1 h2
    have e1 : a.drop i = [] := by rw [List.drop_eq_nil_iff]; omega
    have e2 : b.drop i = [] := by rw [List.drop_eq_nil_iff]; omega
    refine Ev.step (f := fun k => some true) (fun k => ?_) (by rw [e1, e2]; exact Ev.now _)
    simp only [laws_eqIntS.l0]; rw [if_neg (by omega)]
  | succ d ih =>
    intro i h1 h2
    have ha : i < a.length := by omega
    have hb : i < b.length := by omega
    have ea := List.drop_eq_getElem_cons ha
    have eb := List.drop_eq_getElem_cons hb
    by_cases he : a[i] = b[i]
    · have := ih (i + 1) (by omega) (by omega)
      have e : decide (a.drop i = b.drop i) = decide (a.drop (i + 1) = b.drop (i + 1)) := by
        apply decide_eq_decide.2
        rw [ea, eb, he]
        exact ⟨fun h => (List.cons.inj h).2, fun h => by rw [h]⟩
      rw [e]
      refine Ev.step (fun k => ?_) this
      simp only [laws_eqIntS.l0]
      rw [if_pos (by omega), if_pos (by omega), if_pos (by omega), rd_nat a ha, rd_nat b hb, if_pos he, wsucc (by omega)]
    · have e : decide (a.drop i = b.drop i) = false := by
        rw [decide_eq_false_iff_not, ea, eb]
        intro h; injection h with h _; exact he h
      rw [e]
      refine Ev.step (f := fun k => some false) (fun k => ?_) (Ev.now _)
      simp only [laws_eqIntS.l0]
      rw [if_pos (by omega), if_pos (by omega), if_pos (by omega), rd_nat a ha, rd_nat b hb, if_neg he]
theorem eqInts_f (a b : List Int) (hs : a.length ≤ 4611686018427387904) : Ev (fun k => laws_eqIntS.f k a b) (decide (a = b)) := by
  by_cases hl : a.length = b.length
  · have := eqInts_l0 a b hl hs _ 0 (by omega) rfl
    refine Ev.congr (fun k => ?_) (by simpa using this)
    unfold laws_eqIntS.f; rw [if_pos (by omega)]
  · have e : decide (a = b) = false := by rw [decide_eq_false_iff_not]; intro h; exact hl (by rw [h])
    rw [e]
    refine Ev.congr (f := fun k => some false) (fun k => ?_) (Ev.now _)
    unfold laws_eqIntS.f; rw [if_neg (by omega)]

end Go.Proofs.Ytjjnckgdpdelkaa.P

-- laws.markIntS and heldIntS count up.
namespace Go.Proofs.Ytjjnckgdpdelkaa.P
open Go.RowKit Go.Proofs.YtjjnckgdpdelkaaW.PrintWords Go.Proofs.YtjjnckgdpdelkaaW.PrintLast Go.Proofs.YtjjnckgdpdelkaaW.PrintMore
set_option linter.unusedVariables false
set_option linter.unusedSimpArgs false

/-- n numbers from m on. -/
def iota (m n : Nat) : List Int := (List.range n).map fun i => ((m + i : Nat) : Int)
theorem iota_length (m n : Nat) : (iota m n).length = n := by simp [iota]
theorem iota_get (m n : Nat) {i : Nat} (h : i < (iota m n).length) : (iota m n)[i] = ((m + i : Nat) : Int) := by simp [iota]
theorem mark_l0 (n m : Nat) (hs : m + n ≤ 4611686018427387904) : ∀ (d i : Nat) (l : List Int), i ≤ n → n - i = d → l.length = n → l.take i = iota m i → Ev (fun k => laws_markIntS.l0 k l ((m + i : Nat) : Int) i) (((m + n : Nat) : Int), iota m n) := by
  intro d
  induction d with
  | zero =>
    intro i l h1 h2 h3 h4
    have e : i = n := by omega
    subst e
    rw [← h3, List.take_length] at h4
    refine Ev.step (f := fun k => some (((m + i : Nat) : Int), l)) (fun k => ?_) (by rw [h4, h3]; exact Ev.now _)
    simp only [laws_markIntS.l0]; rw [if_neg (by omega)]
  | succ d ih =>
    intro i l h1 h2 h3 h4
    refine Ev.step (fun k => ?_) (ih (i + 1) (l.set i ((m + i : Nat) : Int)) (by omega) (by omega) (by simp [h3]) ?_)
    · simp only [laws_markIntS.l0]
      rw [if_pos (by omega), if_pos (by omega), wsucc (by omega), wsucc (by omega), Int.toNat_natCast]; rfl
    · rw [List.take_succ_eq_append_getElem (by simp; omega), List.take_set_of_le (Nat.le_refl _), h4]
      simp [iota, List.range_succ]
theorem mark_f (l : List Int) (m : Nat) (hs : m + l.length ≤ 4611686018427387904) : Ev (fun k => laws_markIntS.f k l m) (((m + l.length : Nat) : Int), iota m l.length) := by
  have := mark_l0 l.length m hs _ 0 l (by omega) rfl rfl (by simp [iota])
  exact this
theorem held_l0 (n m : Nat) (hs : m + n ≤ 4611686018427387904) : ∀ (d i : Nat), i ≤ n → n - i = d → Ev (fun k => laws_heldIntS.l0 k (iota m n) ((m + i : Nat) : Int) i) ((m + n : Nat) : Int) := by
  have hl := iota_length m n
  intro d
  induction d with
  | zero =>
    intro i h1 h2
    have e : i = n := by omega
    subst e
    refine Ev.step (f := fun k => some ((m + i : Nat) : Int)) (fun k => ?_) (Ev.now _)
    simp only [laws_heldIntS.l0]; rw [if_neg (by omega)]
  | succ d ih =>
    intro i h1 h2
    refine Ev.step (fun k => ?_) (ih (i + 1) (by omega) (by omega))
    simp only [laws_heldIntS.l0]
    rw [if_pos (by omega), if_pos (by omega), rd_nat _ (by omega), iota_get, if_pos (by trivial), wsucc (by omega), wsucc (by omega)]; rfl
theorem held_f (n m : Nat) (hs : m + n ≤ 4611686018427387904) : Ev (fun k => laws_heldIntS.f k (iota m n) m) ((m + n : Nat) : Int) := held_l0 n m hs _ 0 (by omega) rfl

end Go.Proofs.Ytjjnckgdpdelkaa.P

-- What the term's reference answers: whether a number is in it, and which numbers.
namespace Go.Proofs.Ytjjnckgdpdelkaa.P
open Go.RowKit Go.Proofs.YtjjnckgdpdelkaaW.PrintWords Go.Proofs.YtjjnckgdpdelkaaW.PrintLast Go.Proofs.YtjjnckgdpdelkaaW.PrintMore
set_option linter.unusedVariables false
set_option linter.unusedSimpArgs false

theorem stermEmpty_f (s : ByteArray) : Ev (fun k => spec_TermEmpty.f k s) (trh (chrs s) 0) := by
  unfold trh
  cases hT : trm (chrs s) with
  | none => exact ⟨0, fun k _ => by dsimp only; unfold spec_TermEmpty.f; rw [l7of_f, hT]; rfl⟩
  | some t =>
    obtain ⟨K, h1⟩ := l7marks_f 1 (by omega) t (trm_some hT).2.1
    have g1 : ∀ k, K ≤ k → spec_l7Marks.f k t.S.f0 t.S.f1 1 = some (mkT (tsem t) 1) := h1
    refine ⟨K, fun k hk => ?_⟩
    dsimp only
    unfold spec_TermEmpty.f
    rw [l7of_f, hT, Option.bind_some]
    rw [if_pos (show (of7 (some t)).2.2 = true from rfl)]
    dsimp only [of7]
    rw [g1 k hk, Option.bind_some, mkT_length, if_pos (by decide)]
    have := rdOf_nat (mkT (tsem t) 1) 0
    rw [mkT_get _ (by omega)] at this
    rw [show (0 : Int) = ((0 : Nat) : Int) from rfl, this]
    simp
theorem stermHas_f (s : ByteArray) (n : Int) : Ev (fun k => spec_TermHas.f k s n) (trh (chrs s) n) := by
  unfold trh
  cases hT : trm (chrs s) with
  | none => exact ⟨0, fun k _ => by dsimp only; unfold spec_TermHas.f; rw [l7of_f, hT]; rfl⟩
  | some t =>
    by_cases hn : 0 ≤ n ∧ n ≤ 200
    · obtain ⟨m, rfl⟩ := Int.eq_ofNat_of_zero_le hn.1
      obtain ⟨K, h1⟩ := l7marks_f (m + 1) (by omega) t (trm_some hT).2.1
      dsimp only at h1
      refine ⟨K, fun k hk => ?_⟩
      dsimp only
      unfold spec_TermHas.f
      rw [l7of_f, hT, Option.bind_some]
      rw [if_pos (show (of7 (some t)).2.2 = true from rfl)]
      dsimp only [of7]
      rw [l6in_f, Option.bind_some, decide_eq_true hn, if_pos (by trivial), w64 (by omega) (by omega), show ((m : Int) + 1) = ((m + 1 : Nat) : Int) by omega, h1 k hk, Option.bind_some, mkT_length, if_pos (by omega), if_pos (by omega), rdOf_nat, mkT_get _ (by omega)]
      simp
    · refine ⟨0, fun k _ => ?_⟩
      dsimp only
      unfold spec_TermHas.f
      rw [l7of_f, hT, Option.bind_some]
      rw [if_pos (show (of7 (some t)).2.2 = true from rfl)]
      dsimp only [of7]
      rw [l6in_f, Option.bind_some, decide_eq_false hn, if_neg (by decide)]
      rfl
theorem stermList_l0 (f : Nat → Bool) (n : Nat) (hn : n ≤ 1000) : ∀ (d i : Nat), n - i = d → i ≤ n → Ev (fun k => spec_TermList.l0 k n (lstq f i) (mkT f n) i) (lstq f n, true) := by
  intro d
  induction d with
  | zero =>
    intro i hd hi
    obtain rfl : i = n := by omega
    refine Ev.step (f := fun k => some (lstq f i, true)) (fun k => ?_) (Ev.now _)
    simp only [spec_TermList.l0]; rw [if_neg (by omega)]
  | succ d ih =>
    intro i hd hi
    have hl := lstq_length f i
    refine Ev.step (fun k => ?_) (ih (i + 1) (by omega) (by omega))
    simp only [spec_TermList.l0]
    rw [if_pos (by omega), if_pos (by omega), mkT_length, if_pos (by omega), rdOf_nat, mkT_get _ (by omega), lstq_succ, w64 (by omega) (by omega), show ((i : Int) + 1) = ((i + 1 : Nat) : Int) by omega]
    split
    · rw [if_pos (by omega)]
    · rfl
theorem stermList_f (s : ByteArray) (n : Int) : Ev (fun k => spec_TermList.f k s n) (trl (chrs s) n) := by
  unfold trl
  cases hT : trm (chrs s) with
  | none =>
    refine ⟨1, fun k hk => ?_⟩
    obtain ⟨k, rfl⟩ : ∃ j, k = j + 1 := ⟨k - 1, by omega⟩
    dsimp only; unfold spec_TermList.f; rw [l7of_f, hT]; simp only [Option.bind_some, of7, spec_TermList.j0]; rfl
  | some t =>
    by_cases hn : 0 ≤ n ∧ n ≤ 200
    · obtain ⟨m, rfl⟩ := Int.eq_ofNat_of_zero_le hn.1
      dsimp only
      rw [if_pos hn, Int.toNat_natCast]
      obtain ⟨K, h1⟩ := l7marks_f m (by omega) t (trm_some hT).2.1
      dsimp only at h1
      obtain ⟨K2, h2⟩ := stermList_l0 (tsem t) m (by omega) _ 0 rfl (by omega)
      have g2 : ∀ k, K2 ≤ k → spec_TermList.l0 k m [] (mkT (tsem t) m) 0 = some (lstq (tsem t) m, true) := h2
      refine ⟨K + K2 + 1, fun k hk => ?_⟩
      obtain ⟨k, rfl⟩ : ∃ j, k = j + 1 := ⟨k - 1, by omega⟩
      dsimp only
      unfold spec_TermList.f
      rw [l7of_f, hT, Option.bind_some, Option.bind_some]
      rw [if_pos (show (of7 (some t)).2.2 = true from rfl)]
      dsimp only [of7]
      rw [l6in_f, Option.bind_some, decide_eq_true hn]
      simp only [spec_TermList.j0]
      rw [if_neg (by decide), h1 k (by omega), Option.bind_some, g2 k (by omega)]
    · dsimp only
      rw [if_neg hn]
      refine ⟨1, fun k hk => ?_⟩
      obtain ⟨k, rfl⟩ : ∃ j, k = j + 1 := ⟨k - 1, by omega⟩
      dsimp only
      unfold spec_TermList.f
      rw [l7of_f, hT, Option.bind_some, Option.bind_some]
      rw [if_pos (show (of7 (some t)).2.2 = true from rfl)]
      dsimp only [of7]
      rw [l6in_f, Option.bind_some, decide_eq_false hn]
      simp only [spec_TermList.j0]
      rw [if_pos (by decide)]
theorem trl_len (s : List UInt8) (n : Int) : (trl s n).1.length ≤ 200 := by
  unfold trl
  split
  · simp
  · split
    · exact Nat.le_trans (lstq_length _ _) (by omega)
    · simp
end Go.Proofs.Ytjjnckgdpdelkaa.P

-- For all arguments the law FnExactTermList holds.
namespace Go.Proofs.Ytjjnckgdpdelkaa.P
open Go.RowKit Go.Proofs.YtjjnckgdpdelkaaW.PrintWords Go.Proofs.YtjjnckgdpdelkaaW.PrintLast Go.Proofs.YtjjnckgdpdelkaaW.PrintMore
set_option linter.unusedVariables false
set_option linter.unusedSimpArgs false

theorem lawExactTermList_ev (s : ByteArray) (n : Int) : Ev (fun k => laws_FnExactTermList.f k s n) true := by
  by_cases hl : (s.size : Int) > 1048576
  · refine Ev.congr (f := fun _ => some true) (fun k => ?_) (Ev.now _)
    unfold laws_FnExactTermList.f; rw [if_pos hl]
  · have hs : s.size ≤ 70368744177664 := by omega
    have hm := trl_len (chrs s) n
    have h1 := termList_f s n hs
    obtain ⟨K2, h2⟩ := stermList_f s n
    dsimp only at h2
    generalize trl (chrs s) n = M at *
    obtain ⟨l, b⟩ := M
    simp only at hm
    obtain ⟨K3, h3⟩ := eqInts_f l l (by omega)
    obtain ⟨K4, h4⟩ := mark_f l 1 (by omega)
    obtain ⟨K5, h5⟩ := held_f l.length 1 (by omega)
    rw [decide_eq_true rfl] at h3
    dsimp only at h3 h4 h5
    have e1 : ((1 : Nat) : Int) = 1 := rfl
    rw [e1] at h4 h5
    refine ⟨K2 + K3 + K4 + K5 + 2, fun k hk => ?_⟩
    obtain ⟨k, rfl⟩ : ∃ j, k = j + 2 := ⟨k - 2, by omega⟩
    dsimp only
    unfold laws_FnExactTermList.f
    rw [if_neg hl, h2 (k + 2) (by omega), Option.bind_some, h1, Option.bind_some, h3 (k + 2) (by omega), Option.bind_some, if_pos rfl, bne_self_eq_false]
    simp only [laws_FnExactTermList.j0]
    rw [if_neg (by decide), h4 (k + 1) (by omega), Option.bind_some, h5 (k + 1) (by omega), Option.bind_some, if_neg (by omega), if_pos (by trivial), h1, Option.bind_some, h3 (k + 1) (by omega), Option.bind_some, if_pos rfl, bne_self_eq_false]
    simp only [laws_FnExactTermList.j1]
    rw [if_neg (by decide), h5 k (by omega), Option.bind_some, if_neg (by omega), if_pos (by trivial)]
theorem lawExactTermList_pure : laws_FnExactTermList.Pure := fun s n _ _ => (lawExactTermList_ev s n).rounds
end Go.Proofs.Ytjjnckgdpdelkaa.P

-- For all arguments the law FnExactTermList holds.
namespace Go.Proofs.Ytjjnckgdpdelkaa.Pure
theorem FnExactTermList : Go.Proofs.Ytjjnckgdpdelkaa.P.laws_FnExactTermList.Pure := Go.Proofs.Ytjjnckgdpdelkaa.P.lawExactTermList_pure
end Go.Proofs.Ytjjnckgdpdelkaa.Pure
