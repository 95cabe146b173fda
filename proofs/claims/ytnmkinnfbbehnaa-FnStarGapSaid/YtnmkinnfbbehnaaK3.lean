/- What these laws reach, joined by a program of this session: contracts (written by that program over the kit's print, or by hand) and plain lemmas. -/
import Derived.Test.YtnmkinnfbbehnaaK1
import Derived.Test.YtnmkinnfbbehnaaK2
open Go.Proofs.YtnmkinnfbbehnaaW.PrintWords renaming below_alloc → yA, pw_below_drewN → yB, below_drew1 → yC, below_set → yD, blk_drewN → yE, blk_drew → yF, blk_alloc → yG, below_step → yP, below_size → yQ
open Go.Proofs.YtnmkinnfbbehnaaW.PrintWords.Kd renaming R_alloc → yH, R_drewN → yI, R_drew → yJ
open List renaming setIfInBounds_toArray → yK, set_cons_zero → yL, set_cons_succ → yM
namespace Go.Proofs.Ytnmkinnfbbehnaa.P
open Go.RowKit Go.Proofs.YtnmkinnfbbehnaaW.PrintWords Go.Proofs.YtnmkinnfbbehnaaW.PrintLast Go.Proofs.YtnmkinnfbbehnaaW.PrintMore
attribute [local go_sem] max2_int min2_int max_two min_two max_three min_three max_four min_four   -- for this text's walks alone
set_option linter.unusedVariables false
set_option linter.unusedSimpArgs false

/-! ### spec_l4Small: function 13 -/
def spec_l4Small.f (k:Nat) (a0:ByteArray):Option (List Bool × List Bool × Bool):=(spec_l1Read.f k a0).bind fun bt301=>(if bt301.2.2=true then ((spec_l1Less.f k bt301.1 bt301.2.1).bind fun bt309=>(if (bt309.1.length:Int)≤8 then (some (bt309.1,bt309.2,decide ((bt309.2.length:Int)≤8))) else (some (bt309.1,bt309.2,false)))) else (some (bt301.1,bt301.2.1,false)))
theorem spec_l4Small.mono:∀ a0 k,LeO (spec_l4Small.f k a0) (spec_l4Small.f (k+1) a0):=by
 intro a0 k
 unfold spec_l4Small.f
 repeat' first
   | (with_reducible exact spec_l1Less.mono _ _ _)
   | (with_reducible exact spec_l1Read.mono _ _)
   | (with_reducible exact LeO.refl _)
   | (with_reducible exact LeO.none _)
   | (with_reducible refine LeO.ite ?_ ?_)
   | (with_reducible refine LeO.bind ?_ (fun _=>?_))
   | exact spec_l1Less.mono _ _ _
   | exact spec_l1Read.mono _ _
   | exact LeO.none _
   | refine LeO.ite ?_ ?_
   | refine LeO.bind ?_ (fun _=>?_)
def spec_l4Small.T5:Bool × List (List Nat × List Nat):=(true,[([],[]),([],[]),([1],[1]),([2],[2]),([3],[3]),([4],[4]),([5],[5]),([6,5],[5,6]),([7,5],[5,7]),([8,5],[5,8]),([5,9],[5,9]),([0,5,0],[0]),([10,11,0,1,2,3,4,5,6,7,8,9,10,11],[10])])
def spec_l4Small.B5:List Nat:=[0,0,2,6,14,30,62,126,254,510,1022,63,4095]
theorem spec_l4Small.tab5:rtab .any (opsOf Try.f13 5)=spec_l4Small.T5:=by kernel_rfl
theorem spec_l4Small.bits5:waitsOk spec_l4Small.T5.2 spec_l4Small.B5=true:=by kernel_rfl
set_option maxHeartbeats 8000000 in
set_option maxRecDepth 100000 in
theorem spec_l4Small.calls (k:Nat) (a0:ByteArray) (r1:List Bool) (r2:List Bool) (r3:Bool) (w:World) (h:spec_l4Small.f k a0=some (r1,r2,r3)) :
  Calls Try.prog 13 #[.string a0] w fun e w'=>∃ v0_ v1_:Value,e=.returned (.tuple #[.agg #[v0_,v1_],.bool r3])∧Kd.V Kd.bool 4 w' w.heap.size (fun k_=>(w.heap.size≤k_)) v0_ r1∧Kd.V Kd.bool 4 w' w.heap.size (fun k_=>(w.heap.size≤k_)) v1_ r2∧Below w.heap.size w w':=by
 have hu41:=Try.underlying41
 have HB:=Aside0.mk (Below.refl w.heap.size w)
 have H:((spec_l1Read.f k a0).bind fun bt301=>(if bt301.2.2=true then ((spec_l1Less.f k bt301.1 bt301.2.1).bind fun bt309=>(if (bt309.1.length:Int)≤8 then (some (bt309.1,bt309.2,decide ((bt309.2.length:Int)≤8))) else (some (bt309.1,bt309.2,false)))) else (some (bt301.1,bt301.2.1,false))))=some (r1,r2,r3):=h
 clear h
 replace H:=Option.bind_eq_some_iff.mp H
 obtain ⟨⟨t301,t304,t307⟩,A20,H⟩:=H
 replace H:(if t307=true then ((spec_l1Less.f k t301 t304).bind fun bt309=>(if (bt309.1.length:Int)≤8 then (some (bt309.1,bt309.2,decide ((bt309.2.length:Int)≤8))) else (some (bt309.1,bt309.2,false)))) else (some (t301,t304,false)))=some (r1,r2,r3):=H
 have A2:=Aside0.mk A20
 clear A20
 by_cases c3:t307=true
 ·subst c3
  have H1:((spec_l1Less.f k t301 t304).bind fun bt309=>(if (bt309.1.length:Int)≤8 then (some (bt309.1,bt309.2,decide ((bt309.2.length:Int)≤8))) else (some (bt309.1,bt309.2,false))))=some (r1,r2,r3):=by rw [if_pos rfl] at H;exact H
  clear H
  have H:=H1
  clear H1
  replace H:=Option.bind_eq_some_iff.mp H
  obtain ⟨⟨t309,t312⟩,A40,H⟩:=H
  replace H:(if (t309.length:Int)≤8 then (some (t309,t312,decide ((t312.length:Int)≤8))) else (some (t309,t312,false)))=some (r1,r2,r3):=H
  have A4:=Aside0.mk A40
  clear A40
  by_cases c5:(t309.length:Int)≤8
  ·rw [if_pos c5] at H
   have c5b0:decide ((t309.length:Int)≤8)=true:=decide_eq_true c5
   have c5b1:decide (t309.length≤8)=true:=decide_eq_true (by omega)
   clear c5
   simp only [Option.some.injEq,Prod.mk.injEq] at H
   obtain ⟨rfl,rfl,rfl⟩:=H
   go_enter Try.func13,Try.ntmps13
   try go_wp2_with (first|((with_reducible refine gate_dst (N:=2) rfl ?_);(try (refine gate_guard (by rfl) ?_;dsimp only));refine box_event ?hg (N:=2) ?hd (cs:=#[.slice none 0 0,.slice none 0 0]) (t:=41) ?hr ?_;(case hd=>rfl);(case hg=>rfl);(case hr=>first|(go_simp;done)|(go_simp;rfl));intro gb300 hg w6 hbox hb;have n0_:=Aside0.mk (yP (by repeat (first|(with_reducible first|exact HB.out|apply yA|apply yB|apply yC)|exact HB.out)) hb);have n1_:=Aside0.mk (hbox);have n2_:=Aside0.mk ((by rw [hg];exact (yQ (by repeat (first|(with_reducible first|exact HB.out|apply yA|apply yB|apply yC)|exact HB.out))):w.heap.size≤gb300));have n3_:=Aside0.mk ((by rw [hg];exact (yQ (by repeat (first|(with_reducible first|exact HB.out|apply yA|apply yB|apply yC)|exact HB.out))):w.heap.size≤gb300));clear HB;have HB:=n0_;have BK300:=n1_;have GW300:=n2_;have GE300:=n3_;clear n0_ n1_ n2_ n3_;clear hb hbox hg)|((with_reducible refine gate_callee (f:=22) rfl ?_);refine goesL_ (some 9) rfl rfl Try.func22 (by kernel_rfl) rfl #[.string a0] rfl (by (try simp only [List.map_toArray,List.map_cons,List.map_nil]);first|done|rfl|(simp only [List.length_drop,List.length_take];rfl)) ?_;(with_reducible refine (spec_l1Read.calls k a0 t301 t304 true _ A2.out).mono ?_);rintro e w7 ⟨v302,v305,rfl,ho0,ho1,hb⟩;refine ⟨_,rfl,?_⟩;have n0_:=Aside0.mk (Kd.R_lower (Kd.R_newM (M:=fun k_=>(w.heap.size≤k_)) ho0 (yQ (by repeat (first|(with_reducible first|exact HB.out|apply yA|apply yB|apply yC|refine yD ?_ GE300.out)|exact HB.out))) (fun k_ h_=>h_)) (yQ (by repeat (first|(with_reducible first|exact HB.out|apply yA|apply yB|apply yC|refine yD ?_ GE300.out)|exact HB.out))));have n1_:=Aside0.mk (Kd.R_lower (Kd.R_newM (M:=fun k_=>(w.heap.size≤k_)) ho1 (yQ (by repeat (first|(with_reducible first|exact HB.out|apply yA|apply yB|apply yC|refine yD ?_ GE300.out)|exact HB.out))) (fun k_ h_=>h_)) (yQ (by repeat (first|(with_reducible first|exact HB.out|apply yA|apply yB|apply yC|refine yD ?_ GE300.out)|exact HB.out))));have n2_:=Aside0.mk (blk_below (g:=gb300) (o:=.cells #[.slice none 0 0,.slice none 0 0] 41 (0,0)) (by (with_reducible repeat (first|refine yE ?_ _|refine yF ?_|refine yG ?_ _));exact BK300.out) hb);have n3_:=Aside0.mk (yP (by repeat (first|(with_reducible first|exact HB.out|apply yA|apply yB|apply yC|refine yD ?_ GE300.out)|exact HB.out)) hb);clear BK300;clear HB;have HO303:=n0_;have HO306:=n1_;have BK300:=n2_;have HB:=n3_;clear n0_ n1_ n2_ n3_;(try clear hb);(try clear hb2);(try clear hk);(try clear hi);(try clear ho0);(try clear ho1))|((with_reducible refine gate_dst (N:=4) rfl ?_);(try (refine gate_guard (by rfl) ?_;dsimp only));refine box_event ?hg (N:=4) ?hd (cs:=#[.slice none 0 0,.slice none 0 0]) (t:=41) ?hr ?_;(case hd=>rfl);(case hg=>rfl);(case hr=>first|(go_simp;done)|(go_simp;rfl));intro gb308 hg w8 hbox hb;have n0_:=Aside0.mk (Kd.R_below (by (with_reducible repeat (first|apply yH|apply yI|apply yJ));exact HO303.out) hb);have n1_:=Aside0.mk (Kd.R_below (by (with_reducible repeat (first|apply yH|apply yI|apply yJ));exact HO306.out) hb);have n2_:=Aside0.mk (blk_below (g:=gb300) (o:=.cells #[.slice none 0 0,.slice none 0 0] 41 (0,0)) (by (with_reducible repeat (first|refine yE ?_ _|refine yF ?_|refine yG ?_ _));exact BK300.out) hb);have n3_:=Aside0.mk (yP (by repeat (first|(with_reducible first|exact HB.out|apply yA|apply yB|apply yC|refine yD ?_ GE300.out)|exact HB.out)) hb);have n4_:=Aside0.mk (hbox);have n5_:=Aside0.mk ((by rw [hg];exact (yQ (by repeat (first|(with_reducible first|exact HB.out|apply yA|apply yB|apply yC|refine yD ?_ GE300.out)|exact HB.out))):w.heap.size≤gb308));have n6_:=Aside0.mk ((by rw [hg];exact (yQ (by repeat (first|(with_reducible first|exact HB.out|apply yA|apply yB|apply yC|refine yD ?_ GE300.out)|exact HB.out))):w.heap.size≤gb308));have n7_:=Aside0.mk ((by rw [hg];exact Nat.ne_of_lt (blk_lt (g:=gb300) (o:=.cells #[.slice none 0 0,.slice none 0 0] 41 (0,0)) (by (with_reducible repeat (first|refine yE ?_ _|refine yF ?_|refine yG ?_ _));exact BK300.out)):gb300≠gb308));have n8_:=Aside0.mk ((by rw [hg];exact Nat.ne_of_gt (blk_lt (g:=gb300) (o:=.cells #[.slice none 0 0,.slice none 0 0] 41 (0,0)) (by (with_reducible repeat (first|refine yE ?_ _|refine yF ?_|refine yG ?_ _));exact BK300.out)):gb308≠gb300));clear HO303;clear HO306;clear BK300;clear HB;have HO303:=n0_;have HO306:=n1_;have BK300:=n2_;have HB:=n3_;have BK308:=n4_;have GW308:=n5_;have GE308:=n6_;have NB300_308:=n7_;have NB308_300:=n8_;clear n0_ n1_ n2_ n3_ n4_ n5_ n6_ n7_ n8_;clear hb hbox hg;obtain ⟨Ao9,co9,eo9⟩:=Kd.R_slice HO303.out;subst eo9;have hnb10:=NB308_300.out;have hnc10:=NB300_308.out;have hcz11_0:w8.cell? ⟨gb308,0,none⟩=some (.slice none 0 0):=(blk_cell BK308.out 0).trans rfl;have hcz11_1:w8.cell? ⟨gb308,1,none⟩=some (.slice none 0 0):=(blk_cell BK308.out 1).trans rfl;have hfz11_0:=blk_frozen BK308.out 0;have hfz11_1:=blk_frozen BK308.out 1;obtain ⟨Ao12,co12,eo12⟩:=Kd.R_slice HO306.out;subst eo12)|((with_reducible refine gate_store (t:=41) (p:=4) rfl ?_);refine store_event (t:=41) (p:=4) (v:=?vo_w13) (w1:=((w8.setCell ⟨gb308,0,none⟩ (.slice Ao9 t301.length co9)).setCell ⟨gb308,1,none⟩ (.slice Ao12 t304.length co12))) ?hg ?ho ?hn ?hr ?_;(case ho=>rfl);(case hg=>rfl);(case hn=>rfl);(case hr=>first|(go_simp;done)|(go_simp;rfl));intro w13 hw;have n0_:Aside0 (Kd.R Kd.bool 4 w13 w.heap.size (fun k_=>(w.heap.size≤k_)∧some k_≠(.slice Ao12 t304.length co12:Value).ownBlock) (.slice Ao9 t301.length co9) t301):=⟨(by rw [hw];exact (by (with_reducible repeat (first|apply yH|apply yI|apply yJ));exact Kd.R_mono (Kd.R_far (p:=⟨gb308,1,none⟩) (Kd.R_far (p:=⟨gb308,0,none⟩) (Kd.R_types HO303.out BK308.out (by decide)) (fun _ hk=>hk.2) (.slice Ao9 t301.length co9)) (fun _ hk=>hk.2) (.slice Ao12 t304.length co12)) (fun _ hk=>⟨hk.1.1,hk.1.2⟩)))⟩;have n1_:Aside0 (Kd.R Kd.bool 4 w13 w.heap.size (fun k_=>(w.heap.size≤k_)∧some k_≠(.slice Ao9 t301.length co9:Value).ownBlock) (.slice Ao12 t304.length co12) t304):=⟨(by rw [hw];exact (by (with_reducible repeat (first|apply yH|apply yI|apply yJ));exact Kd.R_mono (Kd.R_far (p:=⟨gb308,1,none⟩) (Kd.R_far (p:=⟨gb308,0,none⟩) (Kd.R_types HO306.out BK308.out (by decide)) (fun _ hk=>hk.2) (.slice Ao9 t301.length co9)) (fun _ hk=>hk.2) (.slice Ao12 t304.length co12)) (fun _ hk=>⟨hk.1.1,hk.1.2⟩)))⟩;have n2_:Aside0 (w13.heap[gb300]?=some (.cells #[.slice none 0 0,.slice none 0 0] 41 (0,0))):=⟨(by rw [hw];exact (by (with_reducible repeat (first|refine yE ?_ _|refine yF ?_|refine yG ?_ _));refine blk_far ?_ NB300_308.out _;(with_reducible repeat (first|refine yE ?_ _|refine yF ?_|refine yG ?_ _));refine blk_far ?_ NB300_308.out _;(with_reducible repeat (first|refine yE ?_ _|refine yF ?_|refine yG ?_ _));exact BK300.out))⟩;have n3_:Aside0 (w13.heap[gb308]?=some (.cells #[.slice Ao9 t301.length co9,.slice Ao12 t304.length co12] 41 (0,0))):=⟨(by rw [hw];exact (by (with_reducible repeat (first|refine yE ?_ _|refine yF ?_|refine yG ?_ _));refine blk_put (cs:=#[.slice Ao9 t301.length co9,.slice none 0 0]) ?_ 1 _ rfl;(with_reducible repeat (first|refine yE ?_ _|refine yF ?_|refine yG ?_ _));refine blk_put (cs:=#[.slice none 0 0,.slice none 0 0]) ?_ 0 _ rfl;(with_reducible repeat (first|refine yE ?_ _|refine yF ?_|refine yG ?_ _));exact BK308.out))⟩;have n4_:Aside0 (Below w.heap.size w w13):=⟨(by rw [hw];exact (by repeat (first|(with_reducible first|exact HB.out|apply yA|apply yB|apply yC|refine yD ?_ GE300.out|refine yD ?_ GE308.out)|exact HB.out)))⟩;clear hw;clear HO303;clear HO306;clear BK300;clear BK308;clear HB;have HO303:=n0_;have HO306:=n1_;have BK300:=n2_;have BK308:=n3_;have HB:=n4_;clear n0_ n1_ n2_ n3_ n4_;have hcz14_0:w13.cell? ⟨gb308,0,none⟩=some (.slice Ao9 t301.length co9):=(blk_cell BK308.out 0).trans rfl;have hcz14_1:w13.cell? ⟨gb308,1,none⟩=some (.slice Ao12 t304.length co12):=(blk_cell BK308.out 1).trans rfl;have hfz14_0:=blk_frozen BK308.out 0;have hfz14_1:=blk_frozen BK308.out 1)|((with_reducible refine gate_callee (f:=23) rfl ?_);refine goesL_ (some 16) rfl rfl Try.func23 (by kernel_rfl) rfl #[.agg #[.slice Ao9 t301.length co9,.slice Ao12 t304.length co12]] rfl (by (try simp only [List.map_toArray,List.map_cons,List.map_nil]);first|done|rfl|(simp only [List.length_drop,List.length_take];rfl)) ?_;(with_reducible refine (spec_l1Less.calls k (fun k_=>some k_=(.slice Ao9 t301.length co9:Value).ownBlock) _ _ t301 (fun k_=>some k_=(.slice Ao12 t304.length co12:Value).ownBlock) _ _ t304 t309 t312 _ ?side1 ?side2 A4.out).mono ?_);(case side1=>exact Kd.R_V (Kd.R_tight rfl (Kd.R_types (Kd.R_types (HO303.out) BK300.out (by decide)) BK308.out (by decide))));(case side2=>exact Kd.R_V (Kd.R_tight rfl (Kd.R_types (Kd.R_types (HO306.out) BK300.out (by decide)) BK308.out (by decide))));rintro e w15 ⟨v310,v313,rfl,ho0,ho1,hb⟩;refine ⟨_,rfl,?_⟩;have n0_:=Aside0.mk (Kd.R_below (by (with_reducible repeat (first|apply yH|apply yI|apply yJ));exact HO303.out) hb);have n1_:=Aside0.mk (Kd.R_below (by (with_reducible repeat (first|apply yH|apply yI|apply yJ));exact HO306.out) hb);have n2_:=Aside0.mk (Kd.V_lower (Kd.V_mono (ok':=fun k_=>(w.heap.size≤k_)∧k_≠gb300∧k_≠gb308) ho0 (fun k_ hk_=>⟨Or.elim hk_ (fun hs_=>Or.elim hs_ (fun hs_=>((Kd.R_types (Kd.R_types (HO303.out) BK300.out (by decide)) BK308.out (by decide)).1 k_ hs_.symm).1.1.1) (fun hs_=>((Kd.R_types (Kd.R_types (HO306.out) BK300.out (by decide)) BK308.out (by decide)).1 k_ hs_.symm).1.1.1)) (fun hn_=>(Nat.le_trans (yQ (by repeat (first|(with_reducible first|exact HB.out|apply yA|apply yB|apply yC|refine yD ?_ GE300.out|refine yD ?_ GE308.out)|exact HB.out))) hn_)),Or.elim hk_ (fun hs_=>Or.elim hs_ (fun hs_=>((Kd.R_types (Kd.R_types (HO303.out) BK300.out (by decide)) BK308.out (by decide)).1 k_ hs_.symm).1.2) (fun hs_=>((Kd.R_types (Kd.R_types (HO306.out) BK300.out (by decide)) BK308.out (by decide)).1 k_ hs_.symm).1.2)) (fun hn_=>(Kd.freshB (g:=gb300) (o:=.cells #[.slice none 0 0,.slice none 0 0] 41 (0,0)) (by (with_reducible repeat (first|refine yE ?_ _|refine yF ?_|refine yG ?_ _));exact BK300.out) k_ hn_)),Or.elim hk_ (fun hs_=>Or.elim hs_ (fun hs_=>((Kd.R_types (Kd.R_types (HO303.out) BK300.out (by decide)) BK308.out (by decide)).1 k_ hs_.symm).2) (fun hs_=>((Kd.R_types (Kd.R_types (HO306.out) BK300.out (by decide)) BK308.out (by decide)).1 k_ hs_.symm).2)) (fun hn_=>(Kd.freshB (g:=gb308) (o:=.cells #[.slice Ao9 t301.length co9,.slice Ao12 t304.length co12] 41 (0,0)) (by (with_reducible repeat (first|refine yE ?_ _|refine yF ?_|refine yG ?_ _));exact BK308.out) k_ hn_))⟩)) (yQ (by repeat (first|(with_reducible first|exact HB.out|apply yA|apply yB|apply yC|refine yD ?_ GE300.out|refine yD ?_ GE308.out)|exact HB.out))));have n3_:=Aside0.mk (Kd.V_lower (Kd.V_mono (ok':=fun k_=>(w.heap.size≤k_)∧k_≠gb300∧k_≠gb308) ho1 (fun k_ hk_=>⟨Or.elim hk_ (fun hs_=>Or.elim hs_ (fun hs_=>((Kd.R_types (Kd.R_types (HO303.out) BK300.out (by decide)) BK308.out (by decide)).1 k_ hs_.symm).1.1.1) (fun hs_=>((Kd.R_types (Kd.R_types (HO306.out) BK300.out (by decide)) BK308.out (by decide)).1 k_ hs_.symm).1.1.1)) (fun hn_=>(Nat.le_trans (yQ (by repeat (first|(with_reducible first|exact HB.out|apply yA|apply yB|apply yC|refine yD ?_ GE300.out|refine yD ?_ GE308.out)|exact HB.out))) hn_)),Or.elim hk_ (fun hs_=>Or.elim hs_ (fun hs_=>((Kd.R_types (Kd.R_types (HO303.out) BK300.out (by decide)) BK308.out (by decide)).1 k_ hs_.symm).1.2) (fun hs_=>((Kd.R_types (Kd.R_types (HO306.out) BK300.out (by decide)) BK308.out (by decide)).1 k_ hs_.symm).1.2)) (fun hn_=>(Kd.freshB (g:=gb300) (o:=.cells #[.slice none 0 0,.slice none 0 0] 41 (0,0)) (by (with_reducible repeat (first|refine yE ?_ _|refine yF ?_|refine yG ?_ _));exact BK300.out) k_ hn_)),Or.elim hk_ (fun hs_=>Or.elim hs_ (fun hs_=>((Kd.R_types (Kd.R_types (HO303.out) BK300.out (by decide)) BK308.out (by decide)).1 k_ hs_.symm).2) (fun hs_=>((Kd.R_types (Kd.R_types (HO306.out) BK300.out (by decide)) BK308.out (by decide)).1 k_ hs_.symm).2)) (fun hn_=>(Kd.freshB (g:=gb308) (o:=.cells #[.slice Ao9 t301.length co9,.slice Ao12 t304.length co12] 41 (0,0)) (by (with_reducible repeat (first|refine yE ?_ _|refine yF ?_|refine yG ?_ _));exact BK308.out) k_ hn_))⟩)) (yQ (by repeat (first|(with_reducible first|exact HB.out|apply yA|apply yB|apply yC|refine yD ?_ GE300.out|refine yD ?_ GE308.out)|exact HB.out))));have n4_:=Aside0.mk (blk_below (g:=gb300) (o:=.cells #[.slice none 0 0,.slice none 0 0] 41 (0,0)) (by (with_reducible repeat (first|refine yE ?_ _|refine yF ?_|refine yG ?_ _));exact BK300.out) hb);have n5_:=Aside0.mk (blk_below (g:=gb308) (o:=.cells #[.slice Ao9 t301.length co9,.slice Ao12 t304.length co12] 41 (0,0)) (by (with_reducible repeat (first|refine yE ?_ _|refine yF ?_|refine yG ?_ _));exact BK308.out) hb);have n6_:=Aside0.mk (yP (by repeat (first|(with_reducible first|exact HB.out|apply yA|apply yB|apply yC|refine yD ?_ GE300.out|refine yD ?_ GE308.out)|exact HB.out)) hb);clear HO303;clear HO306;clear BK300;clear BK308;clear HB;have HO303:=n0_;have HO306:=n1_;have HO311:=n2_;have HO314:=n3_;have BK300:=n4_;have BK308:=n5_;have HB:=n6_;clear n0_ n1_ n2_ n3_ n4_ n5_ n6_;(try clear hb);(try clear hb2);(try clear hk);(try clear hi);(try clear ho0);(try clear ho1))|((with_reducible refine gate_dst (N:=6) rfl ?_);(try (refine gate_guard (by rfl) ?_;dsimp only));refine box_event ?hg (N:=6) ?hd (cs:=#[.slice none 0 0,.slice none 0 0]) (t:=41) ?hr ?_;(case hd=>rfl);(case hg=>rfl);(case hr=>first|(go_simp;done)|(go_simp;rfl));intro gb315 hg w16 hbox hb;have n0_:=Aside0.mk (Kd.R_below (by (with_reducible repeat (first|apply yH|apply yI|apply yJ));exact HO303.out) hb);have n1_:=Aside0.mk (Kd.R_below (by (with_reducible repeat (first|apply yH|apply yI|apply yJ));exact HO306.out) hb);have n2_:=Aside0.mk (Kd.V_below (Kd.V_elderB (by (with_reducible repeat (first|apply Kd.V_alloc|apply Kd.V_drewN|apply Kd.V_drew));exact HO311.out) gb315 (Nat.le_of_eq hg.symm)) hb);have n3_:=Aside0.mk (Kd.V_below (Kd.V_elderB (by (with_reducible repeat (first|apply Kd.V_alloc|apply Kd.V_drewN|apply Kd.V_drew));exact HO314.out) gb315 (Nat.le_of_eq hg.symm)) hb);have n4_:=Aside0.mk (blk_below (g:=gb300) (o:=.cells #[.slice none 0 0,.slice none 0 0] 41 (0,0)) (by (with_reducible repeat (first|refine yE ?_ _|refine yF ?_|refine yG ?_ _));exact BK300.out) hb);have n5_:=Aside0.mk (blk_below (g:=gb308) (o:=.cells #[.slice Ao9 t301.length co9,.slice Ao12 t304.length co12] 41 (0,0)) (by (with_reducible repeat (first|refine yE ?_ _|refine yF ?_|refine yG ?_ _));exact BK308.out) hb);have n6_:=Aside0.mk (yP (by repeat (first|(with_reducible first|exact HB.out|apply yA|apply yB|apply yC|refine yD ?_ GE300.out|refine yD ?_ GE308.out)|exact HB.out)) hb);have n7_:=Aside0.mk (hbox);have n8_:=Aside0.mk ((by rw [hg];exact (yQ (by repeat (first|(with_reducible first|exact HB.out|apply yA|apply yB|apply yC|refine yD ?_ GE300.out|refine yD ?_ GE308.out)|exact HB.out))):w.heap.size≤gb315));have n9_:=Aside0.mk ((by rw [hg];exact (yQ (by repeat (first|(with_reducible first|exact HB.out|apply yA|apply yB|apply yC|refine yD ?_ GE300.out|refine yD ?_ GE308.out)|exact HB.out))):w.heap.size≤gb315));have n10_:=Aside0.mk ((by rw [hg];exact Nat.ne_of_lt (blk_lt (g:=gb300) (o:=.cells #[.slice none 0 0,.slice none 0 0] 41 (0,0)) (by (with_reducible repeat (first|refine yE ?_ _|refine yF ?_|refine yG ?_ _));exact BK300.out)):gb300≠gb315));have n11_:=Aside0.mk ((by rw [hg];exact Nat.ne_of_gt (blk_lt (g:=gb300) (o:=.cells #[.slice none 0 0,.slice none 0 0] 41 (0,0)) (by (with_reducible repeat (first|refine yE ?_ _|refine yF ?_|refine yG ?_ _));exact BK300.out)):gb315≠gb300));have n12_:=Aside0.mk ((by rw [hg];exact Nat.ne_of_lt (blk_lt (g:=gb308) (o:=.cells #[.slice Ao9 t301.length co9,.slice Ao12 t304.length co12] 41 (0,0)) (by (with_reducible repeat (first|refine yE ?_ _|refine yF ?_|refine yG ?_ _));exact BK308.out)):gb308≠gb315));have n13_:=Aside0.mk ((by rw [hg];exact Nat.ne_of_gt (blk_lt (g:=gb308) (o:=.cells #[.slice Ao9 t301.length co9,.slice Ao12 t304.length co12] 41 (0,0)) (by (with_reducible repeat (first|refine yE ?_ _|refine yF ?_|refine yG ?_ _));exact BK308.out)):gb315≠gb308));clear HO303;clear HO306;clear HO311;clear HO314;clear BK300;clear BK308;clear HB;have HO303:=n0_;have HO306:=n1_;have HO311:=n2_;have HO314:=n3_;have BK300:=n4_;have BK308:=n5_;have HB:=n6_;have BK315:=n7_;have GW315:=n8_;have GE315:=n9_;have NB300_315:=n10_;have NB315_300:=n11_;have NB308_315:=n12_;have NB315_308:=n13_;clear n0_ n1_ n2_ n3_ n4_ n5_ n6_ n7_ n8_ n9_ n10_ n11_ n12_ n13_;clear hb hbox hg;obtain ⟨Ao17,co17,eo17⟩:=Kd.V_slice HO311.out;subst eo17;have hnb18:=NB315_300.out;have hnc18:=NB300_315.out;have hnb19:=NB315_308.out;have hnc19:=NB308_315.out;have hcz20_0:w16.cell? ⟨gb315,0,none⟩=some (.slice none 0 0):=(blk_cell BK315.out 0).trans rfl;have hcz20_1:w16.cell? ⟨gb315,1,none⟩=some (.slice none 0 0):=(blk_cell BK315.out 1).trans rfl;have hfz20_0:=blk_frozen BK315.out 0;have hfz20_1:=blk_frozen BK315.out 1;obtain ⟨Ao21,co21,eo21⟩:=Kd.V_slice HO314.out;subst eo21))
   have n0_:Aside0 (Kd.R Kd.bool 4 ((w16.setCell ⟨gb315,0,none⟩ (.slice Ao17 t309.length co17)).setCell ⟨gb315,1,none⟩ (.slice Ao21 t312.length co21)) w.heap.size (fun k_=>(w.heap.size≤k_)∧some k_≠(.slice Ao12 t304.length co12:Value).ownBlock) (.slice Ao9 t301.length co9) t301):=⟨by (with_reducible repeat (first|apply yH|apply yI|apply yJ));exact Kd.R_mono (Kd.R_far (p:=⟨gb315,1,none⟩) (Kd.R_far (p:=⟨gb315,0,none⟩) (Kd.R_types HO303.out BK315.out (by decide)) (fun _ hk=>hk.2) (.slice Ao17 t309.length co17)) (fun _ hk=>hk.2) (.slice Ao21 t312.length co21)) (fun _ hk=>⟨hk.1.1,hk.1.2⟩)⟩
   have n1_:Aside0 (Kd.R Kd.bool 4 ((w16.setCell ⟨gb315,0,none⟩ (.slice Ao17 t309.length co17)).setCell ⟨gb315,1,none⟩ (.slice Ao21 t312.length co21)) w.heap.size (fun k_=>(w.heap.size≤k_)∧some k_≠(.slice Ao9 t301.length co9:Value).ownBlock) (.slice Ao12 t304.length co12) t304):=⟨by (with_reducible repeat (first|apply yH|apply yI|apply yJ));exact Kd.R_mono (Kd.R_far (p:=⟨gb315,1,none⟩) (Kd.R_far (p:=⟨gb315,0,none⟩) (Kd.R_types HO306.out BK315.out (by decide)) (fun _ hk=>hk.2) (.slice Ao17 t309.length co17)) (fun _ hk=>hk.2) (.slice Ao21 t312.length co21)) (fun _ hk=>⟨hk.1.1,hk.1.2⟩)⟩
   have n2_:Aside0 (Kd.V Kd.bool 4 ((w16.setCell ⟨gb315,0,none⟩ (.slice Ao17 t309.length co17)).setCell ⟨gb315,1,none⟩ (.slice Ao21 t312.length co21)) w.heap.size (fun k_=>(w.heap.size≤k_)∧k_≠gb300∧k_≠gb308∧k_≠gb315) (.slice Ao17 t309.length co17) t309):=⟨by (with_reducible repeat (first|apply Kd.V_alloc|apply Kd.V_drewN|apply Kd.V_drew));exact Kd.V_mono (Kd.V_far (p:=⟨gb315,1,none⟩) (Kd.V_far (p:=⟨gb315,0,none⟩) (Kd.V_mono HO311.out (fun k_ hk=>(⟨hk,hk.2⟩:_∧k_≠gb315))) (fun _ hk=>hk.2) (.slice Ao17 t309.length co17)) (fun _ hk=>hk.2) (.slice Ao21 t312.length co21)) (fun _ hk=>⟨hk.1.1.1,⟨hk.1.1.2.1,⟨hk.1.1.2.2,hk.1.2⟩⟩⟩)⟩
   have n3_:Aside0 (Kd.V Kd.bool 4 ((w16.setCell ⟨gb315,0,none⟩ (.slice Ao17 t309.length co17)).setCell ⟨gb315,1,none⟩ (.slice Ao21 t312.length co21)) w.heap.size (fun k_=>(w.heap.size≤k_)∧k_≠gb300∧k_≠gb308∧k_≠gb315) (.slice Ao21 t312.length co21) t312):=⟨by (with_reducible repeat (first|apply Kd.V_alloc|apply Kd.V_drewN|apply Kd.V_drew));exact Kd.V_mono (Kd.V_far (p:=⟨gb315,1,none⟩) (Kd.V_far (p:=⟨gb315,0,none⟩) (Kd.V_mono HO314.out (fun k_ hk=>(⟨hk,hk.2⟩:_∧k_≠gb315))) (fun _ hk=>hk.2) (.slice Ao17 t309.length co17)) (fun _ hk=>hk.2) (.slice Ao21 t312.length co21)) (fun _ hk=>⟨hk.1.1.1,⟨hk.1.1.2.1,⟨hk.1.1.2.2,hk.1.2⟩⟩⟩)⟩
   have n4_:Aside0 (((w16.setCell ⟨gb315,0,none⟩ (.slice Ao17 t309.length co17)).setCell ⟨gb315,1,none⟩ (.slice Ao21 t312.length co21)).heap[gb300]?=some (.cells #[.slice none 0 0,.slice none 0 0] 41 (0,0))):=⟨by (with_reducible repeat (first|refine yE ?_ _|refine yF ?_|refine yG ?_ _));refine blk_far ?_ NB300_315.out _;(with_reducible repeat (first|refine yE ?_ _|refine yF ?_|refine yG ?_ _));refine blk_far ?_ NB300_315.out _;(with_reducible repeat (first|refine yE ?_ _|refine yF ?_|refine yG ?_ _));exact BK300.out⟩
   have n5_:Aside0 (((w16.setCell ⟨gb315,0,none⟩ (.slice Ao17 t309.length co17)).setCell ⟨gb315,1,none⟩ (.slice Ao21 t312.length co21)).heap[gb308]?=some (.cells #[.slice Ao9 t301.length co9,.slice Ao12 t304.length co12] 41 (0,0))):=⟨by (with_reducible repeat (first|refine yE ?_ _|refine yF ?_|refine yG ?_ _));refine blk_far ?_ NB308_315.out _;(with_reducible repeat (first|refine yE ?_ _|refine yF ?_|refine yG ?_ _));refine blk_far ?_ NB308_315.out _;(with_reducible repeat (first|refine yE ?_ _|refine yF ?_|refine yG ?_ _));exact BK308.out⟩
   have n6_:Aside0 (((w16.setCell ⟨gb315,0,none⟩ (.slice Ao17 t309.length co17)).setCell ⟨gb315,1,none⟩ (.slice Ao21 t312.length co21)).heap[gb315]?=some (.cells #[.slice Ao17 t309.length co17,.slice Ao21 t312.length co21] 41 (0,0))):=⟨by (with_reducible repeat (first|refine yE ?_ _|refine yF ?_|refine yG ?_ _));refine blk_put (cs:=#[.slice Ao17 t309.length co17,.slice none 0 0]) ?_ 1 _ rfl;(with_reducible repeat (first|refine yE ?_ _|refine yF ?_|refine yG ?_ _));refine blk_put (cs:=#[.slice none 0 0,.slice none 0 0]) ?_ 0 _ rfl;(with_reducible repeat (first|refine yE ?_ _|refine yF ?_|refine yG ?_ _));exact BK315.out⟩
   have n7_:Aside0 (Below w.heap.size w ((w16.setCell ⟨gb315,0,none⟩ (.slice Ao17 t309.length co17)).setCell ⟨gb315,1,none⟩ (.slice Ao21 t312.length co21))):=⟨by repeat (first|(with_reducible first|exact HB.out|apply yA|apply yB|apply yC|refine yD ?_ GE300.out|refine yD ?_ GE308.out|refine yD ?_ GE315.out)|exact HB.out)⟩
   (try clear HO303)
   (try clear HO306)
   (try clear HO311)
   (try clear HO314)
   (try clear BK300)
   (try clear BK308)
   (try clear BK315)
   (try clear HB)
   generalize ((w16.setCell ⟨gb315,0,none⟩ (.slice Ao17 t309.length co17)).setCell ⟨gb315,1,none⟩ (.slice Ao21 t312.length co21))=w22 at n0_ n1_ n2_ n3_ n4_ n5_ n6_ n7_ ⊢
   have HO303:=n0_
   have HO306:=n1_
   have HO311:=n2_
   have HO314:=n3_
   have BK300:=n4_
   have BK308:=n5_
   have BK315:=n6_
   have HB:=n7_
   clear n0_ n1_ n2_ n3_ n4_ n5_ n6_ n7_
   have n0_:=Aside0.mk (yJ HO303.out)
   have n1_:=Aside0.mk (yJ HO306.out)
   have n2_:=Aside0.mk (Kd.V_drew HO311.out)
   have n3_:=Aside0.mk (Kd.V_drew HO314.out)
   have n4_:=Aside0.mk (yF BK300.out)
   have n5_:=Aside0.mk (yF BK308.out)
   have n6_:=Aside0.mk (yF BK315.out)
   have n7_:=Aside0.mk (yC HB.out)
   clear HO303
   clear HO306
   clear HO311
   clear HO314
   clear BK300
   clear BK308
   clear BK315
   clear HB
   have HO303:=n0_
   have HO306:=n1_
   have HO311:=n2_
   have HO314:=n3_
   have BK300:=n4_
   have BK308:=n5_
   have BK315:=n6_
   have HB:=n7_
   clear n0_ n1_ n2_ n3_ n4_ n5_ n6_ n7_
   refine start_ (n:=13) (S:=fun w'=>w'.cell? ⟨gb315,0,none⟩=some (.slice Ao17 t309.length co17)∧w'.cell? ⟨gb315,1,none⟩=some (.slice Ao21 t312.length co21)) (ds:=[]) #[false,false,false,false,false,false,false,false,false,false,false,false,false] (by kernel_rfl) rfl rfl ⟨(blk_cell BK315.out 0).trans rfl,(blk_cell BK315.out 1).trans rfl⟩ (fun hHeld=>?_);refine with_tabW spec_l4Small.tab5 spec_l4Small.bits5 (fun HT_ HW_=>?_)
   generalize w22.drew=w23 at HO303 HO306 HO311 HO314 BK300 BK308 BK315 HB hHeld ⊢
   refine pure_ (i:=1) (N:=some 18) (v:=?_) (a':=?_) #[false,true,false,false,false,false,false,false,false,false,false,false,false] rfl rfl (any_of HT_.out (by kernel_rfl)) (fun _ _ _ h=>h) (Or.inl ⟨by rfl,?_⟩) ?_ ?_
   rotate_left
   ·intro w'
    go_simp
    with_reducible rfl
   rotate_left
   ·simp only [Act.put,yK,yL,yM,i64_w,i32_w]
    rfl
   refine take_ (i:=0) (N:=some 17) (v:=?_) (a':=?_) #[true,true,false,false,false,false,false,false,false,false,false,false,false] rfl rfl (take_ofW HT_.out HW_.out (by kernel_rfl)) (fun _ _ _ h=>h) (Or.inl ⟨by rfl,?_⟩) hHeld ?_ ?_
   rotate_left
   ·rintro w' ⟨s0,s1⟩
    go_simp
    with_reducible rfl
   rotate_left
   ·simp only [Act.put,yK,yL,yM,i64_w,i32_w]
    rfl
   refine take_ (i:=2) (N:=some 19) (v:=?_) (a':=?_) #[true,true,true,false,false,false,false,false,false,false,false,false,false] rfl rfl (take_ofW HT_.out HW_.out (by kernel_rfl)) (fun _ _ _ h=>h) (Or.inl ⟨by rfl,?_⟩) hHeld ?_ ?_
   rotate_left
   ·rintro w' ⟨s0,s1⟩
    go_simp
    with_reducible rfl
   rotate_left
   ·simp only [Act.put,yK,yL,yM,i64_w,i32_w]
    rfl
   refine pure_ (i:=3) (N:=some 20) (v:=?_) (a':=?_) #[true,true,true,true,false,false,false,false,false,false,false,false,false] rfl rfl (any_of HT_.out (by kernel_rfl)) (fun _ _ _ h=>h) (Or.inl ⟨by rfl,?_⟩) ?_ ?_
   rotate_left
   ·intro w'
    go_simp
    with_reducible rfl
   rotate_left
   ·simp only [Act.put,yK,yL,yM,i64_w,i32_w]
    rfl
   refine pure_ (i:=4) (N:=some 21) (v:=?_) (a':=?_) #[true,true,true,true,true,false,false,false,false,false,false,false,false] rfl rfl (any_of HT_.out (by kernel_rfl)) (fun _ _ _ h=>h) (Or.inl ⟨by rfl,?_⟩) ?_ ?_
   rotate_left
   ·intro w'
    go_simp
    with_reducible rfl
   rotate_left
   ·simp only [Act.put,yK,yL,yM,i64_w,i32_w]
    rfl
   refine pure_ (i:=5) (N:=some 22) (v:=?_) (a':=?_) #[true,true,true,true,true,true,false,false,false,false,false,false,false] rfl rfl (any_of HT_.out (by kernel_rfl)) (fun _ _ _ h=>h) (Or.inl ⟨by rfl,?_⟩) ?_ ?_
   rotate_left
   ·intro w'
    go_simp
    with_reducible rfl
   rotate_left
   ·simp only [Act.put,yK,yL,yM,i64_w,i32_w]
    rfl
   refine pure_ (i:=6) (N:=some 23) (v:=?_) (a':=?_) #[true,true,true,true,true,true,true,false,false,false,false,false,false] rfl rfl (any_of HT_.out (by kernel_rfl)) (fun _ _ _ h=>h) (Or.inl ⟨by rfl,?_⟩) ?_ ?_
   rotate_left
   ·intro w'
    go_simp
    with_reducible rfl
   rotate_left
   ·simp only [Act.put,yK,yL,yM,i64_w,i32_w]
    rfl
   refine take_ (i:=7) (N:=some 24) (v:=?_) (a':=?_) #[true,true,true,true,true,true,true,true,false,false,false,false,false] rfl rfl (take_ofW HT_.out HW_.out (by kernel_rfl)) (fun _ _ _ h=>h) (Or.inl ⟨by rfl,?_⟩) hHeld ?_ ?_
   rotate_left
   ·rintro w' ⟨s0,s1⟩
    go_simp
    with_reducible rfl
   rotate_left
   ·simp only [Act.put,yK,yL,yM,i64_w,i32_w]
    rfl
   refine pure_ (i:=8) (N:=some 25) (v:=?_) (a':=?_) #[true,true,true,true,true,true,true,true,true,false,false,false,false] rfl rfl (any_of HT_.out (by kernel_rfl)) (fun _ _ _ h=>h) (Or.inl ⟨by rfl,?_⟩) ?_ ?_
   rotate_left
   ·intro w'
    go_simp
    with_reducible rfl
   rotate_left
   ·simp only [Act.put,yK,yL,yM,i64_w,i32_w]
    rfl
   refine pure_ (i:=9) (N:=some 26) (v:=?_) (a':=?_) #[true,true,true,true,true,true,true,true,true,true,false,false,false] rfl rfl (any_of HT_.out (by kernel_rfl)) (fun _ _ _ h=>h) (Or.inl ⟨by rfl,?_⟩) ?_ ?_
   rotate_left
   ·intro w'
    go_simp
    with_reducible rfl
   rotate_left
   ·simp only [Act.put,yK,yL,yM,i64_w,i32_w]
    rfl
   refine pure_ (i:=10) (N:=some 27) (v:=?_) (a':=?_) #[true,true,true,true,true,true,true,true,true,true,true,false,false] rfl rfl (any_of HT_.out (by kernel_rfl)) (fun _ _ _ h=>h) (Or.inl ⟨by rfl,?_⟩) ?_ ?_
   rotate_left
   ·intro w'
    go_simp
    with_reducible rfl
   rotate_left
   ·simp only [Act.put,yK,yL,yM,i64_w,i32_w]
    rfl
   refine one_ (i:=11) (N:=none) #[true,true,true,true,true,true,true,true,true,true,true,true,false] rfl rfl (one_of HT_.out (by kernel_rfl)) (by decide) (fun K hK=>?_)
   have hs24:w23.cell? ⟨gb300,0,none⟩=some (.slice none 0 0):=(blk_cell BK300.out 0).trans rfl
   have hfs24:=blk_frozen BK300.out 0
   have hns24_1:=NB308_300.out
   have hns24_2:=NB315_300.out
   have hms24_1:=NB300_308.out
   have hms24_2:=NB300_315.out
   have hs25:w23.cell? ⟨gb300,1,none⟩=some (.slice none 0 0):=(blk_cell BK300.out 1).trans rfl
   have hfs25:=blk_frozen BK300.out 1
   have hns25_1:=NB308_300.out
   have hns25_2:=NB315_300.out
   have hms25_1:=NB300_308.out
   have hms25_2:=NB300_315.out
   refine skip_ (w1:=?_) (by rfl) rfl ?_ ?_
   rotate_left
   ·go_simp
    rfl
   refine hK.out _ _ ⟨((cell_far (p:=⟨gb300,_,none⟩) NB315_300.out _).trans (((cell_far (p:=⟨gb300,_,none⟩) NB315_300.out _).trans (hHeld.1)))),((cell_far (p:=⟨gb300,_,none⟩) NB315_300.out _).trans (((cell_far (p:=⟨gb300,_,none⟩) NB315_300.out _).trans (hHeld.2))))⟩ (fun hHeld=>?_)
   clear hK K
   refine pure_ (i:=12) (N:=some 3) (v:=?_) (a':=?_) #[true,true,true,true,true,true,true,true,true,true,true,true,true] rfl rfl (any_of HT_.out (by kernel_rfl)) (fun _ _ _ h=>h) (Or.inl ⟨by rfl,?_⟩) ?_ ?_
   rotate_left
   ·intro w'
    go_simp
    with_reducible rfl
   rotate_left
   ·simp only [Act.put,yK,yL,yM,i64_w,i32_w]
    rfl
   refine done_ (done_of HT_.out (by kernel_rfl)) ?_
   try go_wp2
   refine bodyPost_ret (results_ct rfl _ _ gb300 41 #[.slice Ao17 t309.length co17,.slice Ao21 t312.length co21] (0,0) _ rfl (by (with_reducible repeat (first|refine yE ?_ _|refine yF ?_|refine yG ?_ _));refine blk_put (cs:=#[.slice Ao17 t309.length co17,.slice none 0 0]) ?_ 1 _ rfl;(with_reducible repeat (first|refine yE ?_ _|refine yF ?_|refine yG ?_ _));refine blk_put (cs:=#[.slice none 0 0,.slice none 0 0]) ?_ 0 _ rfl;(with_reducible repeat (first|refine yE ?_ _|refine yF ?_|refine yG ?_ _));exact BK300.out) Try.underlying41 rfl (by kernel_rfl)) rfl ?_
   exact ⟨_,_,by first|rfl|(simp [errW_none,errW_some]<;>rfl)|(simp [*,errW_none,errW_some]<;>rfl)|(simp [errW_none,errW_some];exact ⟨rfl,rfl⟩),by (with_reducible repeat (first|apply Kd.V_alloc|apply Kd.V_drewN|apply Kd.V_drew));exact Kd.V_mono (Kd.V_far (p:=⟨gb300,1,none⟩) (Kd.V_far (p:=⟨gb300,0,none⟩) (Kd.V_mono HO311.out (fun k_ hk=>(⟨hk,hk.2.1⟩:_∧k_≠gb300))) (fun _ hk=>hk.2) (.slice Ao17 t309.length co17)) (fun _ hk=>hk.2) (.slice Ao21 t312.length co21)) (fun _ hk=>hk.1.1),by (with_reducible repeat (first|apply Kd.V_alloc|apply Kd.V_drewN|apply Kd.V_drew));exact Kd.V_mono (Kd.V_far (p:=⟨gb300,1,none⟩) (Kd.V_far (p:=⟨gb300,0,none⟩) (Kd.V_mono HO314.out (fun k_ hk=>(⟨hk,hk.2.1⟩:_∧k_≠gb300))) (fun _ hk=>hk.2) (.slice Ao17 t309.length co17)) (fun _ hk=>hk.2) (.slice Ao21 t312.length co21)) (fun _ hk=>hk.1.1),by repeat (first|(with_reducible first|exact HB.out|apply yA|apply yB|apply yC|refine yD ?_ GE300.out|refine yD ?_ GE308.out|refine yD ?_ GE315.out)|exact HB.out)⟩
  ·rw [if_neg c5] at H
   have c5b0:decide ((t309.length:Int)≤8)=false:=decide_eq_false c5
   have c5b1:decide (t309.length≤8)=false:=decide_eq_false (by omega)
   clear c5
   simp only [Option.some.injEq,Prod.mk.injEq] at H
   obtain ⟨rfl,rfl,rfl⟩:=H
   go_enter Try.func13,Try.ntmps13
   try go_wp2_with (first|((with_reducible refine gate_dst (N:=2) rfl ?_);(try (refine gate_guard (by rfl) ?_;dsimp only));refine box_event ?hg (N:=2) ?hd (cs:=#[.slice none 0 0,.slice none 0 0]) (t:=41) ?hr ?_;(case hd=>rfl);(case hg=>rfl);(case hr=>first|(go_simp;done)|(go_simp;rfl));intro gb300 hg w26 hbox hb;have n0_:=Aside0.mk (yP (by repeat (first|(with_reducible first|exact HB.out|apply yA|apply yB|apply yC)|exact HB.out)) hb);have n1_:=Aside0.mk (hbox);have n2_:=Aside0.mk ((by rw [hg];exact (yQ (by repeat (first|(with_reducible first|exact HB.out|apply yA|apply yB|apply yC)|exact HB.out))):w.heap.size≤gb300));have n3_:=Aside0.mk ((by rw [hg];exact (yQ (by repeat (first|(with_reducible first|exact HB.out|apply yA|apply yB|apply yC)|exact HB.out))):w.heap.size≤gb300));clear HB;have HB:=n0_;have BK300:=n1_;have GW300:=n2_;have GE300:=n3_;clear n0_ n1_ n2_ n3_;clear hb hbox hg)|((with_reducible refine gate_callee (f:=22) rfl ?_);refine goesL_ (some 9) rfl rfl Try.func22 (by kernel_rfl) rfl #[.string a0] rfl (by (try simp only [List.map_toArray,List.map_cons,List.map_nil]);first|done|rfl|(simp only [List.length_drop,List.length_take];rfl)) ?_;(with_reducible refine (spec_l1Read.calls k a0 t301 t304 true _ A2.out).mono ?_);rintro e w27 ⟨v302,v305,rfl,ho0,ho1,hb⟩;refine ⟨_,rfl,?_⟩;have n0_:=Aside0.mk (Kd.R_lower (Kd.R_newM (M:=fun k_=>(w.heap.size≤k_)) ho0 (yQ (by repeat (first|(with_reducible first|exact HB.out|apply yA|apply yB|apply yC|refine yD ?_ GE300.out)|exact HB.out))) (fun k_ h_=>h_)) (yQ (by repeat (first|(with_reducible first|exact HB.out|apply yA|apply yB|apply yC|refine yD ?_ GE300.out)|exact HB.out))));have n1_:=Aside0.mk (Kd.R_lower (Kd.R_newM (M:=fun k_=>(w.heap.size≤k_)) ho1 (yQ (by repeat (first|(with_reducible first|exact HB.out|apply yA|apply yB|apply yC|refine yD ?_ GE300.out)|exact HB.out))) (fun k_ h_=>h_)) (yQ (by repeat (first|(with_reducible first|exact HB.out|apply yA|apply yB|apply yC|refine yD ?_ GE300.out)|exact HB.out))));have n2_:=Aside0.mk (blk_below (g:=gb300) (o:=.cells #[.slice none 0 0,.slice none 0 0] 41 (0,0)) (by (with_reducible repeat (first|refine yE ?_ _|refine yF ?_|refine yG ?_ _));exact BK300.out) hb);have n3_:=Aside0.mk (yP (by repeat (first|(with_reducible first|exact HB.out|apply yA|apply yB|apply yC|refine yD ?_ GE300.out)|exact HB.out)) hb);clear BK300;clear HB;have HO303:=n0_;have HO306:=n1_;have BK300:=n2_;have HB:=n3_;clear n0_ n1_ n2_ n3_;(try clear hb);(try clear hb2);(try clear hk);(try clear hi);(try clear ho0);(try clear ho1))|((with_reducible refine gate_dst (N:=4) rfl ?_);(try (refine gate_guard (by rfl) ?_;dsimp only));refine box_event ?hg (N:=4) ?hd (cs:=#[.slice none 0 0,.slice none 0 0]) (t:=41) ?hr ?_;(case hd=>rfl);(case hg=>rfl);(case hr=>first|(go_simp;done)|(go_simp;rfl));intro gb308 hg w28 hbox hb;have n0_:=Aside0.mk (Kd.R_below (by (with_reducible repeat (first|apply yH|apply yI|apply yJ));exact HO303.out) hb);have n1_:=Aside0.mk (Kd.R_below (by (with_reducible repeat (first|apply yH|apply yI|apply yJ));exact HO306.out) hb);have n2_:=Aside0.mk (blk_below (g:=gb300) (o:=.cells #[.slice none 0 0,.slice none 0 0] 41 (0,0)) (by (with_reducible repeat (first|refine yE ?_ _|refine yF ?_|refine yG ?_ _));exact BK300.out) hb);have n3_:=Aside0.mk (yP (by repeat (first|(with_reducible first|exact HB.out|apply yA|apply yB|apply yC|refine yD ?_ GE300.out)|exact HB.out)) hb);have n4_:=Aside0.mk (hbox);have n5_:=Aside0.mk ((by rw [hg];exact (yQ (by repeat (first|(with_reducible first|exact HB.out|apply yA|apply yB|apply yC|refine yD ?_ GE300.out)|exact HB.out))):w.heap.size≤gb308));have n6_:=Aside0.mk ((by rw [hg];exact (yQ (by repeat (first|(with_reducible first|exact HB.out|apply yA|apply yB|apply yC|refine yD ?_ GE300.out)|exact HB.out))):w.heap.size≤gb308));have n7_:=Aside0.mk ((by rw [hg];exact Nat.ne_of_lt (blk_lt (g:=gb300) (o:=.cells #[.slice none 0 0,.slice none 0 0] 41 (0,0)) (by (with_reducible repeat (first|refine yE ?_ _|refine yF ?_|refine yG ?_ _));exact BK300.out)):gb300≠gb308));have n8_:=Aside0.mk ((by rw [hg];exact Nat.ne_of_gt (blk_lt (g:=gb300) (o:=.cells #[.slice none 0 0,.slice none 0 0] 41 (0,0)) (by (with_reducible repeat (first|refine yE ?_ _|refine yF ?_|refine yG ?_ _));exact BK300.out)):gb308≠gb300));clear HO303;clear HO306;clear BK300;clear HB;have HO303:=n0_;have HO306:=n1_;have BK300:=n2_;have HB:=n3_;have BK308:=n4_;have GW308:=n5_;have GE308:=n6_;have NB300_308:=n7_;have NB308_300:=n8_;clear n0_ n1_ n2_ n3_ n4_ n5_ n6_ n7_ n8_;clear hb hbox hg;obtain ⟨Ao29,co29,eo29⟩:=Kd.R_slice HO303.out;subst eo29;have hnb30:=NB308_300.out;have hnc30:=NB300_308.out;have hcz31_0:w28.cell? ⟨gb308,0,none⟩=some (.slice none 0 0):=(blk_cell BK308.out 0).trans rfl;have hcz31_1:w28.cell? ⟨gb308,1,none⟩=some (.slice none 0 0):=(blk_cell BK308.out 1).trans rfl;have hfz31_0:=blk_frozen BK308.out 0;have hfz31_1:=blk_frozen BK308.out 1;obtain ⟨Ao32,co32,eo32⟩:=Kd.R_slice HO306.out;subst eo32)|((with_reducible refine gate_store (t:=41) (p:=4) rfl ?_);refine store_event (t:=41) (p:=4) (v:=?vo_w33) (w1:=((w28.setCell ⟨gb308,0,none⟩ (.slice Ao29 t301.length co29)).setCell ⟨gb308,1,none⟩ (.slice Ao32 t304.length co32))) ?hg ?ho ?hn ?hr ?_;(case ho=>rfl);(case hg=>rfl);(case hn=>rfl);(case hr=>first|(go_simp;done)|(go_simp;rfl));intro w33 hw;have n0_:Aside0 (Kd.R Kd.bool 4 w33 w.heap.size (fun k_=>(w.heap.size≤k_)∧some k_≠(.slice Ao32 t304.length co32:Value).ownBlock) (.slice Ao29 t301.length co29) t301):=⟨(by rw [hw];exact (by (with_reducible repeat (first|apply yH|apply yI|apply yJ));exact Kd.R_mono (Kd.R_far (p:=⟨gb308,1,none⟩) (Kd.R_far (p:=⟨gb308,0,none⟩) (Kd.R_types HO303.out BK308.out (by decide)) (fun _ hk=>hk.2) (.slice Ao29 t301.length co29)) (fun _ hk=>hk.2) (.slice Ao32 t304.length co32)) (fun _ hk=>⟨hk.1.1,hk.1.2⟩)))⟩;have n1_:Aside0 (Kd.R Kd.bool 4 w33 w.heap.size (fun k_=>(w.heap.size≤k_)∧some k_≠(.slice Ao29 t301.length co29:Value).ownBlock) (.slice Ao32 t304.length co32) t304):=⟨(by rw [hw];exact (by (with_reducible repeat (first|apply yH|apply yI|apply yJ));exact Kd.R_mono (Kd.R_far (p:=⟨gb308,1,none⟩) (Kd.R_far (p:=⟨gb308,0,none⟩) (Kd.R_types HO306.out BK308.out (by decide)) (fun _ hk=>hk.2) (.slice Ao29 t301.length co29)) (fun _ hk=>hk.2) (.slice Ao32 t304.length co32)) (fun _ hk=>⟨hk.1.1,hk.1.2⟩)))⟩;have n2_:Aside0 (w33.heap[gb300]?=some (.cells #[.slice none 0 0,.slice none 0 0] 41 (0,0))):=⟨(by rw [hw];exact (by (with_reducible repeat (first|refine yE ?_ _|refine yF ?_|refine yG ?_ _));refine blk_far ?_ NB300_308.out _;(with_reducible repeat (first|refine yE ?_ _|refine yF ?_|refine yG ?_ _));refine blk_far ?_ NB300_308.out _;(with_reducible repeat (first|refine yE ?_ _|refine yF ?_|refine yG ?_ _));exact BK300.out))⟩;have n3_:Aside0 (w33.heap[gb308]?=some (.cells #[.slice Ao29 t301.length co29,.slice Ao32 t304.length co32] 41 (0,0))):=⟨(by rw [hw];exact (by (with_reducible repeat (first|refine yE ?_ _|refine yF ?_|refine yG ?_ _));refine blk_put (cs:=#[.slice Ao29 t301.length co29,.slice none 0 0]) ?_ 1 _ rfl;(with_reducible repeat (first|refine yE ?_ _|refine yF ?_|refine yG ?_ _));refine blk_put (cs:=#[.slice none 0 0,.slice none 0 0]) ?_ 0 _ rfl;(with_reducible repeat (first|refine yE ?_ _|refine yF ?_|refine yG ?_ _));exact BK308.out))⟩;have n4_:Aside0 (Below w.heap.size w w33):=⟨(by rw [hw];exact (by repeat (first|(with_reducible first|exact HB.out|apply yA|apply yB|apply yC|refine yD ?_ GE300.out|refine yD ?_ GE308.out)|exact HB.out)))⟩;clear hw;clear HO303;clear HO306;clear BK300;clear BK308;clear HB;have HO303:=n0_;have HO306:=n1_;have BK300:=n2_;have BK308:=n3_;have HB:=n4_;clear n0_ n1_ n2_ n3_ n4_;have hcz34_0:w33.cell? ⟨gb308,0,none⟩=some (.slice Ao29 t301.length co29):=(blk_cell BK308.out 0).trans rfl;have hcz34_1:w33.cell? ⟨gb308,1,none⟩=some (.slice Ao32 t304.length co32):=(blk_cell BK308.out 1).trans rfl;have hfz34_0:=blk_frozen BK308.out 0;have hfz34_1:=blk_frozen BK308.out 1)|((with_reducible refine gate_callee (f:=23) rfl ?_);refine goesL_ (some 16) rfl rfl Try.func23 (by kernel_rfl) rfl #[.agg #[.slice Ao29 t301.length co29,.slice Ao32 t304.length co32]] rfl (by (try simp only [List.map_toArray,List.map_cons,List.map_nil]);first|done|rfl|(simp only [List.length_drop,List.length_take];rfl)) ?_;(with_reducible refine (spec_l1Less.calls k (fun k_=>some k_=(.slice Ao29 t301.length co29:Value).ownBlock) _ _ t301 (fun k_=>some k_=(.slice Ao32 t304.length co32:Value).ownBlock) _ _ t304 t309 t312 _ ?side1 ?side2 A4.out).mono ?_);(case side1=>exact Kd.R_V (Kd.R_tight rfl (Kd.R_types (Kd.R_types (HO303.out) BK300.out (by decide)) BK308.out (by decide))));(case side2=>exact Kd.R_V (Kd.R_tight rfl (Kd.R_types (Kd.R_types (HO306.out) BK300.out (by decide)) BK308.out (by decide))));rintro e w35 ⟨v310,v313,rfl,ho0,ho1,hb⟩;refine ⟨_,rfl,?_⟩;have n0_:=Aside0.mk (Kd.R_below (by (with_reducible repeat (first|apply yH|apply yI|apply yJ));exact HO303.out) hb);have n1_:=Aside0.mk (Kd.R_below (by (with_reducible repeat (first|apply yH|apply yI|apply yJ));exact HO306.out) hb);have n2_:=Aside0.mk (Kd.V_lower (Kd.V_mono (ok':=fun k_=>(w.heap.size≤k_)∧k_≠gb300∧k_≠gb308) ho0 (fun k_ hk_=>⟨Or.elim hk_ (fun hs_=>Or.elim hs_ (fun hs_=>((Kd.R_types (Kd.R_types (HO303.out) BK300.out (by decide)) BK308.out (by decide)).1 k_ hs_.symm).1.1.1) (fun hs_=>((Kd.R_types (Kd.R_types (HO306.out) BK300.out (by decide)) BK308.out (by decide)).1 k_ hs_.symm).1.1.1)) (fun hn_=>(Nat.le_trans (yQ (by repeat (first|(with_reducible first|exact HB.out|apply yA|apply yB|apply yC|refine yD ?_ GE300.out|refine yD ?_ GE308.out)|exact HB.out))) hn_)),Or.elim hk_ (fun hs_=>Or.elim hs_ (fun hs_=>((Kd.R_types (Kd.R_types (HO303.out) BK300.out (by decide)) BK308.out (by decide)).1 k_ hs_.symm).1.2) (fun hs_=>((Kd.R_types (Kd.R_types (HO306.out) BK300.out (by decide)) BK308.out (by decide)).1 k_ hs_.symm).1.2)) (fun hn_=>(Kd.freshB (g:=gb300) (o:=.cells #[.slice none 0 0,.slice none 0 0] 41 (0,0)) (by (with_reducible repeat (first|refine yE ?_ _|refine yF ?_|refine yG ?_ _));exact BK300.out) k_ hn_)),Or.elim hk_ (fun hs_=>Or.elim hs_ (fun hs_=>((Kd.R_types (Kd.R_types (HO303.out) BK300.out (by decide)) BK308.out (by decide)).1 k_ hs_.symm).2) (fun hs_=>((Kd.R_types (Kd.R_types (HO306.out) BK300.out (by decide)) BK308.out (by decide)).1 k_ hs_.symm).2)) (fun hn_=>(Kd.freshB (g:=gb308) (o:=.cells #[.slice Ao29 t301.length co29,.slice Ao32 t304.length co32] 41 (0,0)) (by (with_reducible repeat (first|refine yE ?_ _|refine yF ?_|refine yG ?_ _));exact BK308.out) k_ hn_))⟩)) (yQ (by repeat (first|(with_reducible first|exact HB.out|apply yA|apply yB|apply yC|refine yD ?_ GE300.out|refine yD ?_ GE308.out)|exact HB.out))));have n3_:=Aside0.mk (Kd.V_lower (Kd.V_mono (ok':=fun k_=>(w.heap.size≤k_)∧k_≠gb300∧k_≠gb308) ho1 (fun k_ hk_=>⟨Or.elim hk_ (fun hs_=>Or.elim hs_ (fun hs_=>((Kd.R_types (Kd.R_types (HO303.out) BK300.out (by decide)) BK308.out (by decide)).1 k_ hs_.symm).1.1.1) (fun hs_=>((Kd.R_types (Kd.R_types (HO306.out) BK300.out (by decide)) BK308.out (by decide)).1 k_ hs_.symm).1.1.1)) (fun hn_=>(Nat.le_trans (yQ (by repeat (first|(with_reducible first|exact HB.out|apply yA|apply yB|apply yC|refine yD ?_ GE300.out|refine yD ?_ GE308.out)|exact HB.out))) hn_)),Or.elim hk_ (fun hs_=>Or.elim hs_ (fun hs_=>((Kd.R_types (Kd.R_types (HO303.out) BK300.out (by decide)) BK308.out (by decide)).1 k_ hs_.symm).1.2) (fun hs_=>((Kd.R_types (Kd.R_types (HO306.out) BK300.out (by decide)) BK308.out (by decide)).1 k_ hs_.symm).1.2)) (fun hn_=>(Kd.freshB (g:=gb300) (o:=.cells #[.slice none 0 0,.slice none 0 0] 41 (0,0)) (by (with_reducible repeat (first|refine yE ?_ _|refine yF ?_|refine yG ?_ _));exact BK300.out) k_ hn_)),Or.elim hk_ (fun hs_=>Or.elim hs_ (fun hs_=>((Kd.R_types (Kd.R_types (HO303.out) BK300.out (by decide)) BK308.out (by decide)).1 k_ hs_.symm).2) (fun hs_=>((Kd.R_types (Kd.R_types (HO306.out) BK300.out (by decide)) BK308.out (by decide)).1 k_ hs_.symm).2)) (fun hn_=>(Kd.freshB (g:=gb308) (o:=.cells #[.slice Ao29 t301.length co29,.slice Ao32 t304.length co32] 41 (0,0)) (by (with_reducible repeat (first|refine yE ?_ _|refine yF ?_|refine yG ?_ _));exact BK308.out) k_ hn_))⟩)) (yQ (by repeat (first|(with_reducible first|exact HB.out|apply yA|apply yB|apply yC|refine yD ?_ GE300.out|refine yD ?_ GE308.out)|exact HB.out))));have n4_:=Aside0.mk (blk_below (g:=gb300) (o:=.cells #[.slice none 0 0,.slice none 0 0] 41 (0,0)) (by (with_reducible repeat (first|refine yE ?_ _|refine yF ?_|refine yG ?_ _));exact BK300.out) hb);have n5_:=Aside0.mk (blk_below (g:=gb308) (o:=.cells #[.slice Ao29 t301.length co29,.slice Ao32 t304.length co32] 41 (0,0)) (by (with_reducible repeat (first|refine yE ?_ _|refine yF ?_|refine yG ?_ _));exact BK308.out) hb);have n6_:=Aside0.mk (yP (by repeat (first|(with_reducible first|exact HB.out|apply yA|apply yB|apply yC|refine yD ?_ GE300.out|refine yD ?_ GE308.out)|exact HB.out)) hb);clear HO303;clear HO306;clear BK300;clear BK308;clear HB;have HO303:=n0_;have HO306:=n1_;have HO311:=n2_;have HO314:=n3_;have BK300:=n4_;have BK308:=n5_;have HB:=n6_;clear n0_ n1_ n2_ n3_ n4_ n5_ n6_;(try clear hb);(try clear hb2);(try clear hk);(try clear hi);(try clear ho0);(try clear ho1))|((with_reducible refine gate_dst (N:=6) rfl ?_);(try (refine gate_guard (by rfl) ?_;dsimp only));refine box_event ?hg (N:=6) ?hd (cs:=#[.slice none 0 0,.slice none 0 0]) (t:=41) ?hr ?_;(case hd=>rfl);(case hg=>rfl);(case hr=>first|(go_simp;done)|(go_simp;rfl));intro gb315 hg w36 hbox hb;have n0_:=Aside0.mk (Kd.R_below (by (with_reducible repeat (first|apply yH|apply yI|apply yJ));exact HO303.out) hb);have n1_:=Aside0.mk (Kd.R_below (by (with_reducible repeat (first|apply yH|apply yI|apply yJ));exact HO306.out) hb);have n2_:=Aside0.mk (Kd.V_below (Kd.V_elderB (by (with_reducible repeat (first|apply Kd.V_alloc|apply Kd.V_drewN|apply Kd.V_drew));exact HO311.out) gb315 (Nat.le_of_eq hg.symm)) hb);have n3_:=Aside0.mk (Kd.V_below (Kd.V_elderB (by (with_reducible repeat (first|apply Kd.V_alloc|apply Kd.V_drewN|apply Kd.V_drew));exact HO314.out) gb315 (Nat.le_of_eq hg.symm)) hb);have n4_:=Aside0.mk (blk_below (g:=gb300) (o:=.cells #[.slice none 0 0,.slice none 0 0] 41 (0,0)) (by (with_reducible repeat (first|refine yE ?_ _|refine yF ?_|refine yG ?_ _));exact BK300.out) hb);have n5_:=Aside0.mk (blk_below (g:=gb308) (o:=.cells #[.slice Ao29 t301.length co29,.slice Ao32 t304.length co32] 41 (0,0)) (by (with_reducible repeat (first|refine yE ?_ _|refine yF ?_|refine yG ?_ _));exact BK308.out) hb);have n6_:=Aside0.mk (yP (by repeat (first|(with_reducible first|exact HB.out|apply yA|apply yB|apply yC|refine yD ?_ GE300.out|refine yD ?_ GE308.out)|exact HB.out)) hb);have n7_:=Aside0.mk (hbox);have n8_:=Aside0.mk ((by rw [hg];exact (yQ (by repeat (first|(with_reducible first|exact HB.out|apply yA|apply yB|apply yC|refine yD ?_ GE300.out|refine yD ?_ GE308.out)|exact HB.out))):w.heap.size≤gb315));have n9_:=Aside0.mk ((by rw [hg];exact (yQ (by repeat (first|(with_reducible first|exact HB.out|apply yA|apply yB|apply yC|refine yD ?_ GE300.out|refine yD ?_ GE308.out)|exact HB.out))):w.heap.size≤gb315));have n10_:=Aside0.mk ((by rw [hg];exact Nat.ne_of_lt (blk_lt (g:=gb300) (o:=.cells #[.slice none 0 0,.slice none 0 0] 41 (0,0)) (by (with_reducible repeat (first|refine yE ?_ _|refine yF ?_|refine yG ?_ _));exact BK300.out)):gb300≠gb315));have n11_:=Aside0.mk ((by rw [hg];exact Nat.ne_of_gt (blk_lt (g:=gb300) (o:=.cells #[.slice none 0 0,.slice none 0 0] 41 (0,0)) (by (with_reducible repeat (first|refine yE ?_ _|refine yF ?_|refine yG ?_ _));exact BK300.out)):gb315≠gb300));have n12_:=Aside0.mk ((by rw [hg];exact Nat.ne_of_lt (blk_lt (g:=gb308) (o:=.cells #[.slice Ao29 t301.length co29,.slice Ao32 t304.length co32] 41 (0,0)) (by (with_reducible repeat (first|refine yE ?_ _|refine yF ?_|refine yG ?_ _));exact BK308.out)):gb308≠gb315));have n13_:=Aside0.mk ((by rw [hg];exact Nat.ne_of_gt (blk_lt (g:=gb308) (o:=.cells #[.slice Ao29 t301.length co29,.slice Ao32 t304.length co32] 41 (0,0)) (by (with_reducible repeat (first|refine yE ?_ _|refine yF ?_|refine yG ?_ _));exact BK308.out)):gb315≠gb308));clear HO303;clear HO306;clear HO311;clear HO314;clear BK300;clear BK308;clear HB;have HO303:=n0_;have HO306:=n1_;have HO311:=n2_;have HO314:=n3_;have BK300:=n4_;have BK308:=n5_;have HB:=n6_;have BK315:=n7_;have GW315:=n8_;have GE315:=n9_;have NB300_315:=n10_;have NB315_300:=n11_;have NB308_315:=n12_;have NB315_308:=n13_;clear n0_ n1_ n2_ n3_ n4_ n5_ n6_ n7_ n8_ n9_ n10_ n11_ n12_ n13_;clear hb hbox hg;obtain ⟨Ao37,co37,eo37⟩:=Kd.V_slice HO311.out;subst eo37;have hnb38:=NB315_300.out;have hnc38:=NB300_315.out;have hnb39:=NB315_308.out;have hnc39:=NB308_315.out;have hcz40_0:w36.cell? ⟨gb315,0,none⟩=some (.slice none 0 0):=(blk_cell BK315.out 0).trans rfl;have hcz40_1:w36.cell? ⟨gb315,1,none⟩=some (.slice none 0 0):=(blk_cell BK315.out 1).trans rfl;have hfz40_0:=blk_frozen BK315.out 0;have hfz40_1:=blk_frozen BK315.out 1;obtain ⟨Ao41,co41,eo41⟩:=Kd.V_slice HO314.out;subst eo41))
   have n0_:Aside0 (Kd.R Kd.bool 4 ((w36.setCell ⟨gb315,0,none⟩ (.slice Ao37 t309.length co37)).setCell ⟨gb315,1,none⟩ (.slice Ao41 t312.length co41)) w.heap.size (fun k_=>(w.heap.size≤k_)∧some k_≠(.slice Ao32 t304.length co32:Value).ownBlock) (.slice Ao29 t301.length co29) t301):=⟨by (with_reducible repeat (first|apply yH|apply yI|apply yJ));exact Kd.R_mono (Kd.R_far (p:=⟨gb315,1,none⟩) (Kd.R_far (p:=⟨gb315,0,none⟩) (Kd.R_types HO303.out BK315.out (by decide)) (fun _ hk=>hk.2) (.slice Ao37 t309.length co37)) (fun _ hk=>hk.2) (.slice Ao41 t312.length co41)) (fun _ hk=>⟨hk.1.1,hk.1.2⟩)⟩
   have n1_:Aside0 (Kd.R Kd.bool 4 ((w36.setCell ⟨gb315,0,none⟩ (.slice Ao37 t309.length co37)).setCell ⟨gb315,1,none⟩ (.slice Ao41 t312.length co41)) w.heap.size (fun k_=>(w.heap.size≤k_)∧some k_≠(.slice Ao29 t301.length co29:Value).ownBlock) (.slice Ao32 t304.length co32) t304):=⟨by (with_reducible repeat (first|apply yH|apply yI|apply yJ));exact Kd.R_mono (Kd.R_far (p:=⟨gb315,1,none⟩) (Kd.R_far (p:=⟨gb315,0,none⟩) (Kd.R_types HO306.out BK315.out (by decide)) (fun _ hk=>hk.2) (.slice Ao37 t309.length co37)) (fun _ hk=>hk.2) (.slice Ao41 t312.length co41)) (fun _ hk=>⟨hk.1.1,hk.1.2⟩)⟩
   have n2_:Aside0 (Kd.V Kd.bool 4 ((w36.setCell ⟨gb315,0,none⟩ (.slice Ao37 t309.length co37)).setCell ⟨gb315,1,none⟩ (.slice Ao41 t312.length co41)) w.heap.size (fun k_=>(w.heap.size≤k_)∧k_≠gb300∧k_≠gb308∧k_≠gb315) (.slice Ao37 t309.length co37) t309):=⟨by (with_reducible repeat (first|apply Kd.V_alloc|apply Kd.V_drewN|apply Kd.V_drew));exact Kd.V_mono (Kd.V_far (p:=⟨gb315,1,none⟩) (Kd.V_far (p:=⟨gb315,0,none⟩) (Kd.V_mono HO311.out (fun k_ hk=>(⟨hk,hk.2⟩:_∧k_≠gb315))) (fun _ hk=>hk.2) (.slice Ao37 t309.length co37)) (fun _ hk=>hk.2) (.slice Ao41 t312.length co41)) (fun _ hk=>⟨hk.1.1.1,⟨hk.1.1.2.1,⟨hk.1.1.2.2,hk.1.2⟩⟩⟩)⟩
   have n3_:Aside0 (Kd.V Kd.bool 4 ((w36.setCell ⟨gb315,0,none⟩ (.slice Ao37 t309.length co37)).setCell ⟨gb315,1,none⟩ (.slice Ao41 t312.length co41)) w.heap.size (fun k_=>(w.heap.size≤k_)∧k_≠gb300∧k_≠gb308∧k_≠gb315) (.slice Ao41 t312.length co41) t312):=⟨by (with_reducible repeat (first|apply Kd.V_alloc|apply Kd.V_drewN|apply Kd.V_drew));exact Kd.V_mono (Kd.V_far (p:=⟨gb315,1,none⟩) (Kd.V_far (p:=⟨gb315,0,none⟩) (Kd.V_mono HO314.out (fun k_ hk=>(⟨hk,hk.2⟩:_∧k_≠gb315))) (fun _ hk=>hk.2) (.slice Ao37 t309.length co37)) (fun _ hk=>hk.2) (.slice Ao41 t312.length co41)) (fun _ hk=>⟨hk.1.1.1,⟨hk.1.1.2.1,⟨hk.1.1.2.2,hk.1.2⟩⟩⟩)⟩
   have n4_:Aside0 (((w36.setCell ⟨gb315,0,none⟩ (.slice Ao37 t309.length co37)).setCell ⟨gb315,1,none⟩ (.slice Ao41 t312.length co41)).heap[gb300]?=some (.cells #[.slice none 0 0,.slice none 0 0] 41 (0,0))):=⟨by (with_reducible repeat (first|refine yE ?_ _|refine yF ?_|refine yG ?_ _));refine blk_far ?_ NB300_315.out _;(with_reducible repeat (first|refine yE ?_ _|refine yF ?_|refine yG ?_ _));refine blk_far ?_ NB300_315.out _;(with_reducible repeat (first|refine yE ?_ _|refine yF ?_|refine yG ?_ _));exact BK300.out⟩
   have n5_:Aside0 (((w36.setCell ⟨gb315,0,none⟩ (.slice Ao37 t309.length co37)).setCell ⟨gb315,1,none⟩ (.slice Ao41 t312.length co41)).heap[gb308]?=some (.cells #[.slice Ao29 t301.length co29,.slice Ao32 t304.length co32] 41 (0,0))):=⟨by (with_reducible repeat (first|refine yE ?_ _|refine yF ?_|refine yG ?_ _));refine blk_far ?_ NB308_315.out _;(with_reducible repeat (first|refine yE ?_ _|refine yF ?_|refine yG ?_ _));refine blk_far ?_ NB308_315.out _;(with_reducible repeat (first|refine yE ?_ _|refine yF ?_|refine yG ?_ _));exact BK308.out⟩
   have n6_:Aside0 (((w36.setCell ⟨gb315,0,none⟩ (.slice Ao37 t309.length co37)).setCell ⟨gb315,1,none⟩ (.slice Ao41 t312.length co41)).heap[gb315]?=some (.cells #[.slice Ao37 t309.length co37,.slice Ao41 t312.length co41] 41 (0,0))):=⟨by (with_reducible repeat (first|refine yE ?_ _|refine yF ?_|refine yG ?_ _));refine blk_put (cs:=#[.slice Ao37 t309.length co37,.slice none 0 0]) ?_ 1 _ rfl;(with_reducible repeat (first|refine yE ?_ _|refine yF ?_|refine yG ?_ _));refine blk_put (cs:=#[.slice none 0 0,.slice none 0 0]) ?_ 0 _ rfl;(with_reducible repeat (first|refine yE ?_ _|refine yF ?_|refine yG ?_ _));exact BK315.out⟩
   have n7_:Aside0 (Below w.heap.size w ((w36.setCell ⟨gb315,0,none⟩ (.slice Ao37 t309.length co37)).setCell ⟨gb315,1,none⟩ (.slice Ao41 t312.length co41))):=⟨by repeat (first|(with_reducible first|exact HB.out|apply yA|apply yB|apply yC|refine yD ?_ GE300.out|refine yD ?_ GE308.out|refine yD ?_ GE315.out)|exact HB.out)⟩
   (try clear HO303)
   (try clear HO306)
   (try clear HO311)
   (try clear HO314)
   (try clear BK300)
   (try clear BK308)
   (try clear BK315)
   (try clear HB)
   generalize ((w36.setCell ⟨gb315,0,none⟩ (.slice Ao37 t309.length co37)).setCell ⟨gb315,1,none⟩ (.slice Ao41 t312.length co41))=w42 at n0_ n1_ n2_ n3_ n4_ n5_ n6_ n7_ ⊢
   have HO303:=n0_
   have HO306:=n1_
   have HO311:=n2_
   have HO314:=n3_
   have BK300:=n4_
   have BK308:=n5_
   have BK315:=n6_
   have HB:=n7_
   clear n0_ n1_ n2_ n3_ n4_ n5_ n6_ n7_
   have n0_:=Aside0.mk (yJ HO303.out)
   have n1_:=Aside0.mk (yJ HO306.out)
   have n2_:=Aside0.mk (Kd.V_drew HO311.out)
   have n3_:=Aside0.mk (Kd.V_drew HO314.out)
   have n4_:=Aside0.mk (yF BK300.out)
   have n5_:=Aside0.mk (yF BK308.out)
   have n6_:=Aside0.mk (yF BK315.out)
   have n7_:=Aside0.mk (yC HB.out)
   clear HO303
   clear HO306
   clear HO311
   clear HO314
   clear BK300
   clear BK308
   clear BK315
   clear HB
   have HO303:=n0_
   have HO306:=n1_
   have HO311:=n2_
   have HO314:=n3_
   have BK300:=n4_
   have BK308:=n5_
   have BK315:=n6_
   have HB:=n7_
   clear n0_ n1_ n2_ n3_ n4_ n5_ n6_ n7_
   refine start_ (n:=13) (S:=fun w'=>w'.cell? ⟨gb315,0,none⟩=some (.slice Ao37 t309.length co37)∧w'.cell? ⟨gb315,1,none⟩=some (.slice Ao41 t312.length co41)) (ds:=[]) #[false,false,false,false,false,false,false,false,false,false,false,false,false] (by kernel_rfl) rfl rfl ⟨(blk_cell BK315.out 0).trans rfl,(blk_cell BK315.out 1).trans rfl⟩ (fun hHeld=>?_);refine with_tabW spec_l4Small.tab5 spec_l4Small.bits5 (fun HT_ HW_=>?_)
   generalize w42.drew=w43 at HO303 HO306 HO311 HO314 BK300 BK308 BK315 HB hHeld ⊢
   refine pure_ (i:=1) (N:=some 18) (v:=?_) (a':=?_) #[false,true,false,false,false,false,false,false,false,false,false,false,false] rfl rfl (any_of HT_.out (by kernel_rfl)) (fun _ _ _ h=>h) (Or.inl ⟨by rfl,?_⟩) ?_ ?_
   rotate_left
   ·intro w'
    go_simp
    with_reducible rfl
   rotate_left
   ·simp only [Act.put,yK,yL,yM,i64_w,i32_w]
    rfl
   refine take_ (i:=0) (N:=some 17) (v:=?_) (a':=?_) #[true,true,false,false,false,false,false,false,false,false,false,false,false] rfl rfl (take_ofW HT_.out HW_.out (by kernel_rfl)) (fun _ _ _ h=>h) (Or.inl ⟨by rfl,?_⟩) hHeld ?_ ?_
   rotate_left
   ·rintro w' ⟨s0,s1⟩
    go_simp
    with_reducible rfl
   rotate_left
   ·simp only [Act.put,yK,yL,yM,i64_w,i32_w]
    rfl
   refine take_ (i:=2) (N:=some 19) (v:=?_) (a':=?_) #[true,true,true,false,false,false,false,false,false,false,false,false,false] rfl rfl (take_ofW HT_.out HW_.out (by kernel_rfl)) (fun _ _ _ h=>h) (Or.inl ⟨by rfl,?_⟩) hHeld ?_ ?_
   rotate_left
   ·rintro w' ⟨s0,s1⟩
    go_simp
    with_reducible rfl
   rotate_left
   ·simp only [Act.put,yK,yL,yM,i64_w,i32_w]
    rfl
   refine pure_ (i:=3) (N:=some 20) (v:=?_) (a':=?_) #[true,true,true,true,false,false,false,false,false,false,false,false,false] rfl rfl (any_of HT_.out (by kernel_rfl)) (fun _ _ _ h=>h) (Or.inl ⟨by rfl,?_⟩) ?_ ?_
   rotate_left
   ·intro w'
    go_simp
    with_reducible rfl
   rotate_left
   ·simp only [Act.put,yK,yL,yM,i64_w,i32_w]
    rfl
   refine pure_ (i:=4) (N:=some 21) (v:=?_) (a':=?_) #[true,true,true,true,true,false,false,false,false,false,false,false,false] rfl rfl (any_of HT_.out (by kernel_rfl)) (fun _ _ _ h=>h) (Or.inl ⟨by rfl,?_⟩) ?_ ?_
   rotate_left
   ·intro w'
    go_simp
    with_reducible rfl
   rotate_left
   ·simp only [Act.put,yK,yL,yM,i64_w,i32_w]
    rfl
   refine pure_ (i:=5) (N:=some 22) (v:=?_) (a':=?_) #[true,true,true,true,true,true,false,false,false,false,false,false,false] rfl rfl (any_of HT_.out (by kernel_rfl)) (fun _ _ _ h=>h) (Or.inl ⟨by rfl,?_⟩) ?_ ?_
   rotate_left
   ·intro w'
    go_simp
    with_reducible rfl
   rotate_left
   ·simp only [Act.put,yK,yL,yM,i64_w,i32_w]
    rfl
   refine pure_ (i:=6) (N:=some 23) (v:=undef) (a':=?_) #[true,true,true,true,true,true,true,false,false,false,false,false,false] rfl rfl (any_of HT_.out (by kernel_rfl)) (fun _ _ _ h=>h) (Or.inr ⟨by rfl,rfl⟩) ?_ ?_
   rotate_left
   ·simp only [Act.put,yK,yL,yM,i64_w,i32_w]
    rfl
   refine pure_ (i:=7) (N:=some 24) (v:=undef) (a':=?_) #[true,true,true,true,true,true,true,true,false,false,false,false,false] rfl rfl (any_of HT_.out (by kernel_rfl)) (fun _ _ _ h=>h) (Or.inr ⟨by rfl,rfl⟩) ?_ ?_
   rotate_left
   ·simp only [Act.put,yK,yL,yM,i64_w,i32_w]
    rfl
   refine pure_ (i:=8) (N:=some 25) (v:=undef) (a':=?_) #[true,true,true,true,true,true,true,true,true,false,false,false,false] rfl rfl (any_of HT_.out (by kernel_rfl)) (fun _ _ _ h=>h) (Or.inr ⟨by rfl,rfl⟩) ?_ ?_
   rotate_left
   ·simp only [Act.put,yK,yL,yM,i64_w,i32_w]
    rfl
   refine pure_ (i:=9) (N:=some 26) (v:=undef) (a':=?_) #[true,true,true,true,true,true,true,true,true,true,false,false,false] rfl rfl (any_of HT_.out (by kernel_rfl)) (fun _ _ _ h=>h) (Or.inr ⟨by rfl,rfl⟩) ?_ ?_
   rotate_left
   ·simp only [Act.put,yK,yL,yM,i64_w,i32_w]
    rfl
   refine pure_ (i:=10) (N:=some 27) (v:=?_) (a':=?_) #[true,true,true,true,true,true,true,true,true,true,true,false,false] rfl rfl (any_of HT_.out (by kernel_rfl)) (fun _ _ _ h=>h) (Or.inl ⟨by rfl,?_⟩) ?_ ?_
   rotate_left
   ·intro w'
    go_simp
    with_reducible rfl
   rotate_left
   ·simp only [Act.put,yK,yL,yM,i64_w,i32_w]
    rfl
   refine one_ (i:=11) (N:=none) #[true,true,true,true,true,true,true,true,true,true,true,true,false] rfl rfl (one_of HT_.out (by kernel_rfl)) (by decide) (fun K hK=>?_)
   have hs44:w43.cell? ⟨gb300,0,none⟩=some (.slice none 0 0):=(blk_cell BK300.out 0).trans rfl
   have hfs44:=blk_frozen BK300.out 0
   have hns44_1:=NB308_300.out
   have hns44_2:=NB315_300.out
   have hms44_1:=NB300_308.out
   have hms44_2:=NB300_315.out
   have hs45:w43.cell? ⟨gb300,1,none⟩=some (.slice none 0 0):=(blk_cell BK300.out 1).trans rfl
   have hfs45:=blk_frozen BK300.out 1
   have hns45_1:=NB308_300.out
   have hns45_2:=NB315_300.out
   have hms45_1:=NB300_308.out
   have hms45_2:=NB300_315.out
   refine skip_ (w1:=?_) (by rfl) rfl ?_ ?_
   rotate_left
   ·go_simp
    rfl
   refine hK.out _ _ ⟨((cell_far (p:=⟨gb300,_,none⟩) NB315_300.out _).trans (((cell_far (p:=⟨gb300,_,none⟩) NB315_300.out _).trans (hHeld.1)))),((cell_far (p:=⟨gb300,_,none⟩) NB315_300.out _).trans (((cell_far (p:=⟨gb300,_,none⟩) NB315_300.out _).trans (hHeld.2))))⟩ (fun hHeld=>?_)
   clear hK K
   refine pure_ (i:=12) (N:=some 3) (v:=?_) (a':=?_) #[true,true,true,true,true,true,true,true,true,true,true,true,true] rfl rfl (any_of HT_.out (by kernel_rfl)) (fun _ _ _ h=>h) (Or.inl ⟨by rfl,?_⟩) ?_ ?_
   rotate_left
   ·intro w'
    go_simp
    with_reducible rfl
   rotate_left
   ·simp only [Act.put,yK,yL,yM,i64_w,i32_w]
    rfl
   refine done_ (done_of HT_.out (by kernel_rfl)) ?_
   try go_wp2
   refine bodyPost_ret (results_ct rfl _ _ gb300 41 #[.slice Ao37 t309.length co37,.slice Ao41 t312.length co41] (0,0) _ rfl (by (with_reducible repeat (first|refine yE ?_ _|refine yF ?_|refine yG ?_ _));refine blk_put (cs:=#[.slice Ao37 t309.length co37,.slice none 0 0]) ?_ 1 _ rfl;(with_reducible repeat (first|refine yE ?_ _|refine yF ?_|refine yG ?_ _));refine blk_put (cs:=#[.slice none 0 0,.slice none 0 0]) ?_ 0 _ rfl;(with_reducible repeat (first|refine yE ?_ _|refine yF ?_|refine yG ?_ _));exact BK300.out) Try.underlying41 rfl (by kernel_rfl)) rfl ?_
   exact ⟨_,_,by first|rfl|(simp [errW_none,errW_some]<;>rfl)|(simp [*,errW_none,errW_some]<;>rfl)|(simp [errW_none,errW_some];exact ⟨rfl,rfl⟩),by (with_reducible repeat (first|apply Kd.V_alloc|apply Kd.V_drewN|apply Kd.V_drew));exact Kd.V_mono (Kd.V_far (p:=⟨gb300,1,none⟩) (Kd.V_far (p:=⟨gb300,0,none⟩) (Kd.V_mono HO311.out (fun k_ hk=>(⟨hk,hk.2.1⟩:_∧k_≠gb300))) (fun _ hk=>hk.2) (.slice Ao37 t309.length co37)) (fun _ hk=>hk.2) (.slice Ao41 t312.length co41)) (fun _ hk=>hk.1.1),by (with_reducible repeat (first|apply Kd.V_alloc|apply Kd.V_drewN|apply Kd.V_drew));exact Kd.V_mono (Kd.V_far (p:=⟨gb300,1,none⟩) (Kd.V_far (p:=⟨gb300,0,none⟩) (Kd.V_mono HO314.out (fun k_ hk=>(⟨hk,hk.2.1⟩:_∧k_≠gb300))) (fun _ hk=>hk.2) (.slice Ao37 t309.length co37)) (fun _ hk=>hk.2) (.slice Ao41 t312.length co41)) (fun _ hk=>hk.1.1),by repeat (first|(with_reducible first|exact HB.out|apply yA|apply yB|apply yC|refine yD ?_ GE300.out|refine yD ?_ GE308.out|refine yD ?_ GE315.out)|exact HB.out)⟩
 ·replace c3:=Bool.eq_false_iff.mpr c3
  subst c3
  have H1:(some (t301,t304,false))=some (r1,r2,r3):=by rw [if_neg (show ¬ (false=true) by decide)] at H;exact H
  clear H
  have H:=H1
  clear H1
  simp only [Option.some.injEq,Prod.mk.injEq] at H
  obtain ⟨rfl,rfl,rfl⟩:=H
  go_enter Try.func13,Try.ntmps13
  go_wp2_with (first|((with_reducible refine gate_dst (N:=2) rfl ?_);(try (refine gate_guard (by rfl) ?_;dsimp only));refine box_event ?hg (N:=2) ?hd (cs:=#[.slice none 0 0,.slice none 0 0]) (t:=41) ?hr ?_;(case hd=>rfl);(case hg=>rfl);(case hr=>first|(go_simp;done)|(go_simp;rfl));intro gb300 hg w46 hbox hb;have n0_:=Aside0.mk (yP (by repeat (first|(with_reducible first|exact HB.out|apply yA|apply yB|apply yC)|exact HB.out)) hb);have n1_:=Aside0.mk (hbox);have n2_:=Aside0.mk ((by rw [hg];exact (yQ (by repeat (first|(with_reducible first|exact HB.out|apply yA|apply yB|apply yC)|exact HB.out))):w.heap.size≤gb300));have n3_:=Aside0.mk ((by rw [hg];exact (yQ (by repeat (first|(with_reducible first|exact HB.out|apply yA|apply yB|apply yC)|exact HB.out))):w.heap.size≤gb300));clear HB;have HB:=n0_;have BK300:=n1_;have GW300:=n2_;have GE300:=n3_;clear n0_ n1_ n2_ n3_;clear hb hbox hg)|((with_reducible refine gate_callee (f:=22) rfl ?_);refine goesL_ (some 9) rfl rfl Try.func22 (by kernel_rfl) rfl #[.string a0] rfl (by (try simp only [List.map_toArray,List.map_cons,List.map_nil]);first|done|rfl|(simp only [List.length_drop,List.length_take];rfl)) ?_;(with_reducible refine (spec_l1Read.calls k a0 t301 t304 false _ A2.out).mono ?_);rintro e w47 ⟨v302,v305,rfl,ho0,ho1,hb⟩;refine ⟨_,rfl,?_⟩;have n0_:=Aside0.mk (Kd.R_lower (Kd.R_newM (M:=fun k_=>(w.heap.size≤k_)) ho0 (yQ (by repeat (first|(with_reducible first|exact HB.out|apply yA|apply yB|apply yC|refine yD ?_ GE300.out)|exact HB.out))) (fun k_ h_=>h_)) (yQ (by repeat (first|(with_reducible first|exact HB.out|apply yA|apply yB|apply yC|refine yD ?_ GE300.out)|exact HB.out))));have n1_:=Aside0.mk (Kd.R_lower (Kd.R_newM (M:=fun k_=>(w.heap.size≤k_)) ho1 (yQ (by repeat (first|(with_reducible first|exact HB.out|apply yA|apply yB|apply yC|refine yD ?_ GE300.out)|exact HB.out))) (fun k_ h_=>h_)) (yQ (by repeat (first|(with_reducible first|exact HB.out|apply yA|apply yB|apply yC|refine yD ?_ GE300.out)|exact HB.out))));have n2_:=Aside0.mk (blk_below (g:=gb300) (o:=.cells #[.slice none 0 0,.slice none 0 0] 41 (0,0)) (by (with_reducible repeat (first|refine yE ?_ _|refine yF ?_|refine yG ?_ _));exact BK300.out) hb);have n3_:=Aside0.mk (yP (by repeat (first|(with_reducible first|exact HB.out|apply yA|apply yB|apply yC|refine yD ?_ GE300.out)|exact HB.out)) hb);clear BK300;clear HB;have HO303:=n0_;have HO306:=n1_;have BK300:=n2_;have HB:=n3_;clear n0_ n1_ n2_ n3_;(try clear hb);(try clear hb2);(try clear hk);(try clear hi);(try clear ho0);(try clear ho1))|((with_reducible refine gate_dst (N:=4) rfl ?_);(try (refine gate_guard (by rfl) ?_;dsimp only));refine box_event ?hg (N:=4) ?hd (cs:=#[.slice none 0 0,.slice none 0 0]) (t:=41) ?hr ?_;(case hd=>rfl);(case hg=>rfl);(case hr=>first|(go_simp;done)|(go_simp;rfl));intro gb308 hg w48 hbox hb;have n0_:=Aside0.mk (Kd.R_below (by (with_reducible repeat (first|apply yH|apply yI|apply yJ));exact HO303.out) hb);have n1_:=Aside0.mk (Kd.R_below (by (with_reducible repeat (first|apply yH|apply yI|apply yJ));exact HO306.out) hb);have n2_:=Aside0.mk (blk_below (g:=gb300) (o:=.cells #[.slice none 0 0,.slice none 0 0] 41 (0,0)) (by (with_reducible repeat (first|refine yE ?_ _|refine yF ?_|refine yG ?_ _));exact BK300.out) hb);have n3_:=Aside0.mk (yP (by repeat (first|(with_reducible first|exact HB.out|apply yA|apply yB|apply yC|refine yD ?_ GE300.out)|exact HB.out)) hb);have n4_:=Aside0.mk (hbox);have n5_:=Aside0.mk ((by rw [hg];exact (yQ (by repeat (first|(with_reducible first|exact HB.out|apply yA|apply yB|apply yC|refine yD ?_ GE300.out)|exact HB.out))):w.heap.size≤gb308));have n6_:=Aside0.mk ((by rw [hg];exact (yQ (by repeat (first|(with_reducible first|exact HB.out|apply yA|apply yB|apply yC|refine yD ?_ GE300.out)|exact HB.out))):w.heap.size≤gb308));have n7_:=Aside0.mk ((by rw [hg];exact Nat.ne_of_lt (blk_lt (g:=gb300) (o:=.cells #[.slice none 0 0,.slice none 0 0] 41 (0,0)) (by (with_reducible repeat (first|refine yE ?_ _|refine yF ?_|refine yG ?_ _));exact BK300.out)):gb300≠gb308));have n8_:=Aside0.mk ((by rw [hg];exact Nat.ne_of_gt (blk_lt (g:=gb300) (o:=.cells #[.slice none 0 0,.slice none 0 0] 41 (0,0)) (by (with_reducible repeat (first|refine yE ?_ _|refine yF ?_|refine yG ?_ _));exact BK300.out)):gb308≠gb300));clear HO303;clear HO306;clear BK300;clear HB;have HO303:=n0_;have HO306:=n1_;have BK300:=n2_;have HB:=n3_;have BK308:=n4_;have GW308:=n5_;have GE308:=n6_;have NB300_308:=n7_;have NB308_300:=n8_;clear n0_ n1_ n2_ n3_ n4_ n5_ n6_ n7_ n8_;clear hb hbox hg;obtain ⟨Ao49,co49,eo49⟩:=Kd.R_slice HO303.out;subst eo49;have hnb50:=NB308_300.out;have hnc50:=NB300_308.out;have hcz51_0:w48.cell? ⟨gb308,0,none⟩=some (.slice none 0 0):=(blk_cell BK308.out 0).trans rfl;have hcz51_1:w48.cell? ⟨gb308,1,none⟩=some (.slice none 0 0):=(blk_cell BK308.out 1).trans rfl;have hfz51_0:=blk_frozen BK308.out 0;have hfz51_1:=blk_frozen BK308.out 1;obtain ⟨Ao52,co52,eo52⟩:=Kd.R_slice HO306.out;subst eo52;have hcz53_0:w48.cell? ⟨gb300,0,none⟩=some (.slice none 0 0):=(blk_cell BK300.out 0).trans rfl;have hcz53_1:w48.cell? ⟨gb300,1,none⟩=some (.slice none 0 0):=(blk_cell BK300.out 1).trans rfl;have hfz53_0:=blk_frozen BK300.out 0;have hfz53_1:=blk_frozen BK300.out 1))
  refine bodyPost_ret (results_ct rfl _ _ gb300 41 #[.slice Ao49 t301.length co49,.slice Ao52 t304.length co52] (0,0) _ rfl (by (with_reducible repeat (first|refine yE ?_ _|refine yF ?_|refine yG ?_ _));refine blk_put (cs:=#[.slice Ao49 t301.length co49,.slice none 0 0]) ?_ 1 _ rfl;(with_reducible repeat (first|refine yE ?_ _|refine yF ?_|refine yG ?_ _));refine blk_put (cs:=#[.slice none 0 0,.slice none 0 0]) ?_ 0 _ rfl;(with_reducible repeat (first|refine yE ?_ _|refine yF ?_|refine yG ?_ _));refine blk_far ?_ NB300_308.out _;(with_reducible repeat (first|refine yE ?_ _|refine yF ?_|refine yG ?_ _));refine blk_far ?_ NB300_308.out _;(with_reducible repeat (first|refine yE ?_ _|refine yF ?_|refine yG ?_ _));exact BK300.out) Try.underlying41 rfl (by kernel_rfl)) rfl ?_
  exact ⟨_,_,by first|rfl|(simp [errW_none,errW_some]<;>rfl)|(simp [*,errW_none,errW_some]<;>rfl)|(simp [errW_none,errW_some];exact ⟨rfl,rfl⟩),Kd.R_V (by (with_reducible repeat (first|apply yH|apply yI|apply yJ));exact Kd.R_mono (Kd.R_far (p:=⟨gb300,1,none⟩) (Kd.R_far (p:=⟨gb300,0,none⟩) (Kd.R_far (p:=⟨gb308,1,none⟩) (Kd.R_far (p:=⟨gb308,0,none⟩) (Kd.R_types (Kd.R_types HO303.out BK308.out (by decide)) BK300.out (by decide)) (fun _ hk=>hk.1.2) (.slice Ao49 t301.length co49)) (fun _ hk=>hk.1.2) (.slice Ao52 t304.length co52)) (fun _ hk=>hk.2) (.slice Ao49 t301.length co49)) (fun _ hk=>hk.2) (.slice Ao52 t304.length co52)) (fun _ hk=>hk.1.1.1)),Kd.R_V (by (with_reducible repeat (first|apply yH|apply yI|apply yJ));exact Kd.R_mono (Kd.R_far (p:=⟨gb300,1,none⟩) (Kd.R_far (p:=⟨gb300,0,none⟩) (Kd.R_far (p:=⟨gb308,1,none⟩) (Kd.R_far (p:=⟨gb308,0,none⟩) (Kd.R_types (Kd.R_types HO306.out BK308.out (by decide)) BK300.out (by decide)) (fun _ hk=>hk.1.2) (.slice Ao49 t301.length co49)) (fun _ hk=>hk.1.2) (.slice Ao52 t304.length co52)) (fun _ hk=>hk.2) (.slice Ao49 t301.length co49)) (fun _ hk=>hk.2) (.slice Ao52 t304.length co52)) (fun _ hk=>hk.1.1.1)),by repeat (first|(with_reducible first|exact HB.out|apply yA|apply yB|apply yC|refine yD ?_ GE300.out|refine yD ?_ GE308.out)|exact HB.out)⟩

end Go.Proofs.Ytnmkinnfbbehnaa.P

namespace Go.Proofs.Ytnmkinnfbbehnaa.P
open Go.RowKit Go.Proofs.YtnmkinnfbbehnaaW.PrintWords Go.Proofs.YtnmkinnfbbehnaaW.PrintLast Go.Proofs.YtnmkinnfbbehnaaW.PrintMore
attribute [local go_sem] max2_int min2_int max_two min_two max_three min_three max_four min_four   -- for this text's walks alone
set_option linter.unusedVariables false
set_option linter.unusedSimpArgs false

/-! ### spec_l4Star: function 15 -/
mutual
def spec_l4Star.l0:Nat→Int→List Bool→List Int→Int→List Bool→List Bool→Option (List Bool)
 | 0,_,_,_,_,_,_=>none
 | k+1,x1,x5,x6,x7,x322000,x322001=>if x7<x1 then (spec_l4Star.l1 k x1 x5 x6 x7 0 x322000 x322001) else (some x5)
def spec_l4Star.j2:Nat→Int→List Bool→List Int→Int→List Bool→List Bool→Option (List Bool)
 | 0,_,_,_,_,_,_=>none
 | k+1,x1,x5,x6,x7,x322000,x322001=>if x7=0 then (if 0<(x5.length:Int) then (spec_l4Star.l0 k x1 (x5.set (0:Int).toNat true) x6 (wrap64 (x7+1)) x322000 x322001) else (none)) else (if 0≤x7 then (if x7<(x5.length:Int) then (if rdOf false x5 x7=true then (spec_l4Star.l0 k x1 x5 x6 (wrap64 (x7+1)) x322000 x322001) else ((spec_l1Has.f x322000 x322001 x7).bind fun t334=>(if t334=true then (if x6.length<17592186044416 then (spec_l4Star.l0 k x1 (x5.set (x7:Int).toNat true) (x6++[x7]) (wrap64 (x7+1)) x322000 x322001) else (none)) else (spec_l4Star.l0 k x1 x5 x6 (wrap64 (x7+1)) x322000 x322001)))) else (none)) else (none))
def spec_l4Star.l1:Nat→Int→List Bool→List Int→Int→Int→List Bool→List Bool→Option (List Bool)
 | 0,_,_,_,_,_,_,_=>none
 | k+1,x1,x5,x6,x7,x8,x322000,x322001=>if x8<(x6.length:Int) then (if 0≤x7 then (if x7<(x5.length:Int) then (if rdOf false x5 x7=true then (spec_l4Star.j2 k x1 x5 x6 x7 x322000 x322001) else (if 0≤x8 then (if 0≤(wrap64 (x7 - (rd x6 x8))) then (if (wrap64 (x7 - (rd x6 x8)))<(x5.length:Int) then (spec_l4Star.l1 k x1 (x5.set (x7:Int).toNat (rdOf false x5 (wrap64 (x7 - (rd x6 x8))))) x6 x7 (wrap64 (x8+1)) x322000 x322001) else (none)) else (none)) else (none))) else (none)) else (none)) else (spec_l4Star.j2 k x1 x5 x6 x7 x322000 x322001)
end
def spec_l4Star.f (k:Nat) (l0_0:List Bool) (l0_1:List Bool) (a1:Int):Option (List Bool):=if 0≤a1 then (if (a1:Int).toNat≤281474976710656 then (spec_l4Star.l0 k a1 (List.replicate (a1:Int).toNat false) (([]:List Int)) 0 l0_0 l0_1) else (none)) else (none)
theorem spec_l4Star.mono_l:∀ k,(∀ y0 y1 y2 y3 y4 y5,LeO (spec_l4Star.l0 k y0 y1 y2 y3 y4 y5) (spec_l4Star.l0 (k+1) y0 y1 y2 y3 y4 y5))∧(∀ y0 y1 y2 y3 y4 y5,LeO (spec_l4Star.j2 k y0 y1 y2 y3 y4 y5) (spec_l4Star.j2 (k+1) y0 y1 y2 y3 y4 y5))∧(∀ y0 y1 y2 y3 y4 y5 y6,LeO (spec_l4Star.l1 k y0 y1 y2 y3 y4 y5 y6) (spec_l4Star.l1 (k+1) y0 y1 y2 y3 y4 y5 y6))
 | 0=>⟨fun _ _ _ _ _ _ r h=>by simp [spec_l4Star.l0] at h,fun _ _ _ _ _ _ r h=>by simp [spec_l4Star.j2] at h,fun _ _ _ _ _ _ _ r h=>by simp [spec_l4Star.l1] at h⟩
 | k+1=>by
  obtain ⟨ih0,ih1,ih2⟩:=spec_l4Star.mono_l k
  refine ⟨?_,?_,?_⟩
  ·intro y0 y1 y2 y3 y4 y5
   unfold spec_l4Star.l0
   repeat' first
   | (with_reducible exact ih0 _ _ _ _ _ _)
   | (with_reducible exact ih1 _ _ _ _ _ _)
   | (with_reducible exact ih2 _ _ _ _ _ _ _)
   | (with_reducible exact LeO.refl _)
   | (with_reducible exact LeO.none _)
   | (with_reducible refine LeO.ite ?_ ?_)
   | (with_reducible refine LeO.bind ?_ (fun _=>?_))
   | exact ih0 _ _ _ _ _ _
   | exact ih1 _ _ _ _ _ _
   | exact ih2 _ _ _ _ _ _ _
   | exact LeO.none _
   | refine LeO.ite ?_ ?_
   | refine LeO.bind ?_ (fun _=>?_)
  ·intro y0 y1 y2 y3 y4 y5
   unfold spec_l4Star.j2
   repeat' first
   | (with_reducible exact ih0 _ _ _ _ _ _)
   | (with_reducible exact ih1 _ _ _ _ _ _)
   | (with_reducible exact ih2 _ _ _ _ _ _ _)
   | (with_reducible exact LeO.refl _)
   | (with_reducible exact LeO.none _)
   | (with_reducible refine LeO.ite ?_ ?_)
   | (with_reducible refine LeO.bind ?_ (fun _=>?_))
   | exact ih0 _ _ _ _ _ _
   | exact ih1 _ _ _ _ _ _
   | exact ih2 _ _ _ _ _ _ _
   | exact LeO.none _
   | refine LeO.ite ?_ ?_
   | refine LeO.bind ?_ (fun _=>?_)
  ·intro y0 y1 y2 y3 y4 y5 y6
   unfold spec_l4Star.l1
   repeat' first
   | (with_reducible exact ih0 _ _ _ _ _ _)
   | (with_reducible exact ih1 _ _ _ _ _ _)
   | (with_reducible exact ih2 _ _ _ _ _ _ _)
   | (with_reducible exact LeO.refl _)
   | (with_reducible exact LeO.none _)
   | (with_reducible refine LeO.ite ?_ ?_)
   | (with_reducible refine LeO.bind ?_ (fun _=>?_))
   | exact ih0 _ _ _ _ _ _
   | exact ih1 _ _ _ _ _ _
   | exact ih2 _ _ _ _ _ _ _
   | exact LeO.none _
   | refine LeO.ite ?_ ?_
   | refine LeO.bind ?_ (fun _=>?_)
theorem spec_l4Star.mono:∀ a0 a1 a2 k,LeO (spec_l4Star.f k a0 a1 a2) (spec_l4Star.f (k+1) a0 a1 a2):=by
 intro a0 a1 a2 k
 obtain ⟨ih0,ih1,ih2⟩:=spec_l4Star.mono_l k
 unfold spec_l4Star.f
 repeat' first
   | (with_reducible exact ih0 _ _ _ _ _ _)
   | (with_reducible exact ih1 _ _ _ _ _ _)
   | (with_reducible exact ih2 _ _ _ _ _ _ _)
   | (with_reducible exact LeO.refl _)
   | (with_reducible exact LeO.none _)
   | (with_reducible refine LeO.ite ?_ ?_)
   | (with_reducible refine LeO.bind ?_ (fun _=>?_))
   | exact ih0 _ _ _ _ _ _
   | exact ih1 _ _ _ _ _ _
   | exact ih2 _ _ _ _ _ _ _
   | exact LeO.none _
   | refine LeO.ite ?_ ?_
   | refine LeO.bind ?_ (fun _=>?_)
set_option maxHeartbeats 8000000 in
set_option maxRecDepth 100000 in
theorem spec_l4Star.calls (k:Nat) (A0_0:Option Addr) (c0_0:Nat) (l0_0:List Bool) (A0_1:Option Addr) (c0_1:Nat) (l0_1:List Bool) (a1:Int) (r:List Bool) (w:World) (hr0_0:Kd.C Kd.bool w A0_0 l0_0.length l0_0) (hc0_0:l0_0.length≤c0_0) (hr0_1:Kd.C Kd.bool w A0_1 l0_1.length l0_1) (hc0_1:l0_1.length≤c0_1) (h:spec_l4Star.f k l0_0 l0_1 a1=some r) :
  Calls Try.prog 15 #[.agg #[.slice A0_0 l0_0.length c0_0,.slice A0_1 l0_1.length c0_1],.int .i64 a1] w fun e w'=>∃ v0_:Value,e=.returned (v0_)∧Kd.R Kd.bool 4 w' w.heap.size (fun _=>True) v0_ r∧Below w.heap.size w w':=by
 have hu41:=Try.underlying41
 have HR0_0:=Aside0.mk hr0_0
 have HC0_0:=Aside0.mk hc0_0
 clear hr0_0 hc0_0
 have HR0_1:=Aside0.mk hr0_1
 have HC0_1:=Aside0.mk hc0_1
 clear hr0_1 hc0_1
 have HB:=Aside0.mk (Below.refl w.heap.size w)
 have H:(if 0≤a1 then (if (a1:Int).toNat≤281474976710656 then (spec_l4Star.l0 k a1 (List.replicate (a1:Int).toNat false) (([]:List Int)) 0 l0_0 l0_1) else (none)) else (none))=some r:=h
 clear h
 by_cases c3:0≤a1
 ·rw [if_pos c3] at H
  have c3b0:=eq_true c3
  have c3b1:decide (0≤a1)=true:=decide_eq_true c3
  clear c3
  by_cases c4:(a1:Int).toNat≤281474976710656
  ·rw [if_pos c4] at H
   have c4b0:=eq_true c4
   have c4b1:decide ((a1:Int).toNat≤281474976710656)=true:=decide_eq_true c4
   clear c4
   obtain ⟨y322,hy322⟩:∃ y_:List Bool,y_=(List.replicate (a1:Int).toNat false):=⟨_,rfl⟩
   replace H:(spec_l4Star.l0 k a1 y322 (([]:List Int)) 0 l0_0 l0_1)=some r:=by first|(rw [hy322];with_reducible exact H)|(have H2_:=(Option.bind_some _ _).symm.trans H;rw [hy322];with_reducible exact H2_)|(have H2_:=(Option.bind_some _ _).symm.trans H;with_reducible exact H2_)|with_reducible exact H|(rw [hy322];exact H)|exact H
   have Ny322:=Aside0.mk hy322
   clear hy322
   obtain ⟨y325,hy325⟩:∃ y_:List Int,y_=(([]:List Int)):=⟨_,rfl⟩
   replace H:(spec_l4Star.l0 k a1 y322 y325 0 l0_0 l0_1)=some r:=by first|(rw [hy325];with_reducible exact H)|(have H2_:=(Option.bind_some _ _).symm.trans H;rw [hy325];with_reducible exact H2_)|(have H2_:=(Option.bind_some _ _).symm.trans H;with_reducible exact H2_)|with_reducible exact H|(rw [hy325];exact H)|exact H
   have Ny325:=Aside0.mk hy325
   clear hy325
   have H':=Aside0.mk H
   clear H
   go_enter Try.func15,Try.ntmps15
   go_wp2_with (first|((with_reducible refine gate_dst (N:=2) rfl ?_);refine box_event ?hg (N:=2) ?hd (cs:=#[.slice A0_0 l0_0.length c0_0,.slice A0_1 l0_1.length c0_1]) (t:=41) ?hr ?_;(case hd=>rfl);(case hg=>rfl);(case hr=>first|(go_simp;done)|(go_simp;rfl));intro gb321 hg w5 hbox hb;have n0_:=Aside0.mk (yP (by repeat (first|(with_reducible first|exact HB.out|apply yA|apply yB|apply yC)|exact HB.out)) hb);have n1_:=Aside0.mk (hbox);have n2_:=Aside0.mk ((by rw [hg];exact (yQ (by repeat (first|(with_reducible first|exact HB.out|apply yA|apply yB|apply yC)|exact HB.out))):w.heap.size≤gb321));have n3_:=Aside0.mk ((by rw [hg];exact (yQ (by repeat (first|(with_reducible first|exact HB.out|apply yA|apply yB|apply yC)|exact HB.out))):w.heap.size≤gb321));clear HB;have HB:=n0_;have BK321:=n1_;have GW321:=n2_;have GE321:=n3_;clear n0_ n1_ n2_ n3_;clear hb hbox hg)|((with_reducible refine gate_dst (N:=10) rfl ?_);refine Kd.R_make Kd.bool _ 4 rfl (N:=10) rfl 31 _ _ rfl a1 rfl rfl Try.underlying31 (.bool false) 1 info4 rfl (by decide) (by omega) false (ok:=fun _=>True) (okp:=fun _=>True) rfl (fun _ hk=>hk) trivial (of_decide_eq_true (by first|(with_reducible assumption)|assumption)) (Nat.le_trans (Nat.mul_le_mul_right _ (of_decide_eq_true (by first|(with_reducible assumption)|assumption):a1.toNat≤281474976710656)) (by omega)) (Below.refl _ _) (Nat.le_refl _) ?_;intro v323 w6 ho7 hb hg_ hnew_;clear hg_ hnew_;(first|rw [← Ny322.out] at ho7|(simp only [Int.reduceToNat] at ho7;rw [← Ny322.out] at ho7));have n0_:=Aside0.mk (Kd.R_lower ho7 (yQ (by repeat (first|(with_reducible first|exact HB.out|apply yA|apply yB|apply yC|refine yD ?_ GE321.out)|exact HB.out))));have n1_:=Aside0.mk (blk_below (g:=gb321) (o:=.cells #[.slice A0_0 l0_0.length c0_0,.slice A0_1 l0_1.length c0_1] 41 (0,0)) (by (with_reducible repeat (first|refine yE ?_ _|refine yF ?_|refine yG ?_ _));exact BK321.out) hb);have n2_:=Aside0.mk (yP (by repeat (first|(with_reducible first|exact HB.out|apply yA|apply yB|apply yC|refine yD ?_ GE321.out)|exact HB.out)) hb);clear BK321;clear HB;have HO324:=n0_;have BK321:=n1_;have HB:=n2_;clear n0_ n1_ n2_;clear hb ho7)|((with_reducible refine gate_dst (N:=11) rfl ?_);refine Kd.R_lit (Kd.int .i64) _ 3 ?hg (N:=11) ?hd (xs:=([]:List Int)) (inner:=[]) (ok:=fun _=>True) (okp:=fun _=>True) ?hr ?hp (fun _ hk=>hk) trivial (Below.refl _ _) (Nat.le_refl _) (by simp) ?_;(case hd=>rfl);(case hg=>rfl);(case hr=>first|(go_simp;done)|(go_simp;rfl));(case hp=>exact (Reps.none _ _));intro v326 w8 ho9 hb hg_ hnew_;clear hg_ hnew_;(first|rw [← Ny325.out] at ho9|(simp only [Int.reduceToNat] at ho9;rw [← Ny325.out] at ho9));have n0_:=Aside0.mk (Kd.R_below (by (with_reducible repeat (first|apply yH|apply yI|apply yJ));exact HO324.out) hb);have n1_:=Aside0.mk (Kd.R_lower ho9 (yQ (by repeat (first|(with_reducible first|exact HB.out|apply yA|apply yB|apply yC|refine yD ?_ GE321.out)|exact HB.out))));have n2_:=Aside0.mk (blk_below (g:=gb321) (o:=.cells #[.slice A0_0 l0_0.length c0_0,.slice A0_1 l0_1.length c0_1] 41 (0,0)) (by (with_reducible repeat (first|refine yE ?_ _|refine yF ?_|refine yG ?_ _));exact BK321.out) hb);have n3_:=Aside0.mk (yP (by repeat (first|(with_reducible first|exact HB.out|apply yA|apply yB|apply yC|refine yD ?_ GE321.out)|exact HB.out)) hb);clear HO324;clear BK321;clear HB;have HO324:=n0_;have HO327:=n1_;have BK321:=n2_;have HB:=n3_;clear n0_ n1_ n2_ n3_;clear hb ho9))
   go_loopg [6,7] k (fun kq v6 v7 w'=>∃ (x5_1:List Bool) (x6_1:List Int) (x7_1:Int),v7=.int .i64 x7_1∧Aside0 (spec_l4Star.l0 kq a1 x5_1 x6_1 x7_1 l0_0 l0_1=some r)∧Aside0 (kq≤k)∧Aside0 (Kd.R Kd.bool 4 w' w.heap.size (fun _=>True) v323 x5_1)∧Aside0 (Kd.R (Kd.int .i64) 3 w' w.heap.size (fun _=>True) v6 x6_1)∧Aside0 (w'.heap[gb321]?=some (.cells #[(.slice A0_0 l0_0.length c0_0),(.slice A0_1 l0_1.length c0_1)] 41 (0,0)))∧Aside0 (Below w.heap.size w w'))
   case atStart=>exact ⟨(y322),(y325),(0),(by first|rfl|(simp;done)|(simp [*];done)|(simp [Int.tmod_eq_emod_of_nonneg];done)),H',⟨Nat.le_refl _⟩,⟨by (with_reducible repeat (first|apply yH|apply yI|apply yJ));exact HO324.out⟩,⟨by (with_reducible repeat (first|apply yH|apply yI|apply yJ));exact HO327.out⟩,⟨by (with_reducible repeat (first|refine yE ?_ _|refine yF ?_|refine yG ?_ _));exact BK321.out⟩,⟨by repeat (first|(with_reducible first|exact HB.out|apply yA|apply yB|apply yC|refine yD ?_ GE321.out)|exact HB.out)⟩⟩
   case round =>
    clear H'
    try clear c1
    try clear p2
    try clear c3
    try clear c3b0
    try clear c3b1
    try clear c4
    try clear c4b0
    try clear c4b1
    obtain ⟨x5_1,x6_1,x7_1,rfl,HA,HK1,HO_5,HO_6,BK321,HB⟩:=hrel
    cases gk with
    | zero=>exact absurd HA.out (by simp [spec_l4Star.l0])
    | succ k1 =>
     have H:=HA.out
     clear HA
     simp only [spec_l4Star.l0] at H
     by_cases c10:x7_1<a1
     ·rw [if_pos c10] at H
      have c10b0:decide (x7_1<a1)=true:=decide_eq_true c10
      clear c10
      have HC11:=Aside0.mk H
      clear H
      go_upto_block 2 with (fail)
      go_cut [] (fun wc=>∃ (kq:Nat) (x5_10:List Bool),Aside0 (spec_l4Star.j2 kq a1 x5_10 x6_1 x7_1 l0_0 l0_1=some r)∧Aside0 (kq≤k1)∧Aside0 (Kd.R Kd.bool 4 wc w.heap.size (fun _=>True) v323 x5_10)∧Aside0 (Kd.R (Kd.int .i64) 3 wc w.heap.size (fun _=>True) u6 x6_1)∧Aside0 (wc.heap[gb321]?=some (.cells #[(.slice A0_0 l0_0.length c0_0),(.slice A0_1 l0_1.length c0_1)] 41 (0,0)))∧Aside0 (Below w.heap.size w wc))
      case first =>
       have H:=HC11.out
       clear HC11
       have H':=Aside0.mk H
       clear H
       go_wp2
       go_loopg [8] k1 (fun kq v8 w'=>∃ (x5_2:List Bool) (x8_2:Int),v8=.int .i64 x8_2∧Aside0 (spec_l4Star.l1 kq a1 x5_2 x6_1 x7_1 x8_2 l0_0 l0_1=some r)∧Aside0 (kq≤k1)∧Aside0 (Kd.R Kd.bool 4 w' w.heap.size (fun _=>True) v323 x5_2)∧Aside0 (Kd.R (Kd.int .i64) 3 w' w.heap.size (fun _=>True) u6 x6_1)∧Aside0 (w'.heap[gb321]?=some (.cells #[(.slice A0_0 l0_0.length c0_0),(.slice A0_1 l0_1.length c0_1)] 41 (0,0)))∧Aside0 (Below w.heap.size w w'))
       case atStart=>exact ⟨(x5_1),(0),(by first|rfl|(simp;done)|(simp [*];done)|(simp [Int.tmod_eq_emod_of_nonneg];done)),H',⟨Nat.le_refl _⟩,⟨by (with_reducible repeat (first|apply yH|apply yI|apply yJ));exact HO_5.out⟩,⟨by (with_reducible repeat (first|apply yH|apply yI|apply yJ));exact HO_6.out⟩,⟨by (with_reducible repeat (first|refine yE ?_ _|refine yF ?_|refine yG ?_ _));exact BK321.out⟩,⟨by repeat (first|(with_reducible first|exact HB.out|apply yA|apply yB|apply yC|refine yD ?_ GE321.out)|exact HB.out)⟩⟩
       case round =>
        clear H'
        try clear c1
        try clear p2
        try clear c3
        try clear c3b0
        try clear c3b1
        try clear c4
        try clear c4b0
        try clear c4b1
        try clear c10
        try clear c10b0
        try clear p2
        obtain ⟨x5_2,x8_2,rfl,HA,HK2,HO_5,HO_6,BK321,HB⟩:=hrel
        cases gk with
        | zero=>exact absurd HA.out (by simp [spec_l4Star.l1])
        | succ k2 =>
         have H:=HA.out
         clear HA
         simp only [spec_l4Star.l1] at H
         by_cases c12:x8_2<(x6_1.length:Int)
         ·rw [if_pos c12] at H
          have c12b0:decide (x8_2<(x6_1.length:Int))=true:=decide_eq_true c12
          clear c12
          (first|rw [c12b0]|(simp only [i64_w,i32_w];rw [c12b0])|skip)
          by_cases c13:0≤x7_1
          ·rw [if_pos c13] at H
           have c13b0:decide (0≤x7_1)=true:=decide_eq_true c13
           clear c13
           by_cases c14:x7_1<(x5_2.length:Int)
           ·rw [if_pos c14] at H
            have c14b0:decide (x7_1<(x5_2.length:Int))=true:=decide_eq_true c14
            clear c14
            obtain ⟨bq15,hbq15⟩:∃ b_:Bool,b_=(rdOf false x5_2 x7_1):=⟨_,rfl⟩
            replace H:(if bq15=true then (spec_l4Star.j2 k2 a1 x5_2 x6_1 x7_1 l0_0 l0_1) else (if 0≤x8_2 then (if 0≤(wrap64 (x7_1 - (rd x6_1 x8_2))) then (if (wrap64 (x7_1 - (rd x6_1 x8_2)))<(x5_2.length:Int) then (spec_l4Star.l1 k2 a1 (x5_2.set (x7_1:Int).toNat (rdOf false x5_2 (wrap64 (x7_1 - (rd x6_1 x8_2))))) x6_1 x7_1 (wrap64 (x8_2+1)) l0_0 l0_1) else (none)) else (none)) else (none)))=some r:=by rw [← hbq15] at H;exact H
            have Nbq15:=Aside0.mk hbq15
            clear hbq15
            by_cases c16:bq15=true
            ·subst c16
             have H1:(spec_l4Star.j2 k2 a1 x5_2 x6_1 x7_1 l0_0 l0_1)=some r:=by rw [if_pos rfl] at H;exact H
             clear H
             have H:=H1
             clear H1
             have H':=Aside0.mk H
             clear H
             obtain ⟨Ao17,co17,eo17⟩:=Kd.R_slice HO_6.out
             subst eo17
             obtain ⟨Ao18,co18,eo18⟩:=Kd.R_slice HO_5.out
             subst eo18
             have p328:0≤(x7_1:Int):=of_decide_eq_true (by first|(with_reducible assumption)|assumption)
             have q328:x7_1<(x5_2.length:Int):=of_decide_eq_true (by first|(with_reducible assumption)|assumption)
             obtain ⟨ad328,e328,hx328_0⟩:=Kd.at_bool (Kd.R_reads' HO_5.out).2.2 x7_1 p328 q328
             (try rw [← Nbq15.out] at hx328_0)
             cases e328
             replace p328:=eq_true p328
             replace q328:=eq_true q328
             go_wp2
             go_meet
             case rel=>exact ⟨_,(x5_2),H',⟨by have:=HK1.out;have:=HK2.out;first|omega|exact Nat.le_refl _⟩,⟨by (with_reducible repeat (first|apply yH|apply yI|apply yJ));exact HO_5.out⟩,⟨by (with_reducible repeat (first|apply yH|apply yI|apply yJ));exact HO_6.out⟩,⟨by (with_reducible repeat (first|refine yE ?_ _|refine yF ?_|refine yG ?_ _));exact BK321.out⟩,⟨by repeat (first|(with_reducible first|exact HB.out|apply yA|apply yB|apply yC|refine yD ?_ GE321.out)|exact HB.out)⟩⟩
            ·replace c16:=Bool.eq_false_iff.mpr c16
             subst c16
             have H1:(if 0≤x8_2 then (if 0≤(wrap64 (x7_1 - (rd x6_1 x8_2))) then (if (wrap64 (x7_1 - (rd x6_1 x8_2)))<(x5_2.length:Int) then (spec_l4Star.l1 k2 a1 (x5_2.set (x7_1:Int).toNat (rdOf false x5_2 (wrap64 (x7_1 - (rd x6_1 x8_2))))) x6_1 x7_1 (wrap64 (x8_2+1)) l0_0 l0_1) else (none)) else (none)) else (none))=some r:=by rw [if_neg (show ¬ (false=true) by decide)] at H;exact H
             clear H
             have H:=H1
             clear H1
             by_cases c19:0≤x8_2
             ·rw [if_pos c19] at H
              have c19b0:decide (0≤x8_2)=true:=decide_eq_true c19
              clear c19
              obtain ⟨ji20,hji20⟩:∃ j_:Int,(wrap64 (x7_1 - (rd x6_1 x8_2)))=j_:=⟨_,rfl⟩
              replace H:(if 0≤(ji20) then (if (ji20)<(x5_2.length:Int) then (spec_l4Star.l1 k2 a1 (x5_2.set (x7_1:Int).toNat (rdOf false x5_2 (ji20))) x6_1 x7_1 (wrap64 (x8_2+1)) l0_0 l0_1) else (none)) else (none))=some r:=by first|(rw [hji20] at H;exact H)|(simp only [hji20] at H ⊢;exact H)
              have hji20w:(IntKind.i64.wrap (x7_1 - (rd x6_1 x8_2)))=ji20:=(i64_w _).trans hji20
              by_cases c21:0≤(ji20)
              ·rw [if_pos c21] at H
               have c21b0:decide (0≤(ji20))=true:=decide_eq_true c21
               clear c21
               by_cases c22:(ji20)<(x5_2.length:Int)
               ·rw [if_pos c22] at H
                have c22b0:decide ((ji20)<(x5_2.length:Int))=true:=decide_eq_true c22
                clear c22
                obtain ⟨y331,hy331⟩:∃ y_:List Bool,y_=(x5_2.set (x7_1:Int).toNat (rdOf false x5_2 (ji20))):=⟨_,rfl⟩
                replace H:(spec_l4Star.l1 k2 a1 y331 x6_1 x7_1 (wrap64 (x8_2+1)) l0_0 l0_1)=some r:=by first|(rw [hy331];with_reducible exact H)|(have H2_:=(Option.bind_some _ _).symm.trans H;rw [hy331];with_reducible exact H2_)|(have H2_:=(Option.bind_some _ _).symm.trans H;with_reducible exact H2_)|with_reducible exact H|(rw [hy331];exact H)|exact H
                have Ny331:=Aside0.mk hy331
                clear hy331
                have H':=Aside0.mk H
                clear H
                obtain ⟨Ao24,co24,eo24⟩:=Kd.R_slice HO_6.out
                subst eo24
                obtain ⟨Ao25,co25,eo25⟩:=Kd.R_slice HO_5.out
                subst eo25
                have p328:0≤(x7_1:Int):=of_decide_eq_true (by first|(with_reducible assumption)|assumption)
                have q328:x7_1<(x5_2.length:Int):=of_decide_eq_true (by first|(with_reducible assumption)|assumption)
                obtain ⟨ad328,e328,hx328_0⟩:=Kd.at_bool (Kd.R_reads' HO_5.out).2.2 x7_1 p328 q328
                (try rw [← Nbq15.out] at hx328_0)
                cases e328
                replace p328:=eq_true p328
                replace q328:=eq_true q328
                have p329:0≤(x8_2:Int):=of_decide_eq_true (by first|(with_reducible assumption)|assumption)
                have q329:x8_2<(x6_1.length:Int):=of_decide_eq_true (by first|(with_reducible assumption)|assumption)
                obtain ⟨ad329,e329,hx329_0⟩:=Kd.at_int (Kd.R_reads' HO_6.out).2.2 x8_2 p329 q329
                cases e329
                replace p329:=eq_true p329
                replace q329:=eq_true q329
                have p330:0≤((ji20):Int):=of_decide_eq_true (by first|(with_reducible assumption)|assumption)
                have q330:(ji20)<(x5_2.length:Int):=of_decide_eq_true (by first|(with_reducible assumption)|assumption)
                obtain ⟨ad330,e330,hx330_0⟩:=Kd.at_bool (Kd.R_reads' HO_5.out).2.2 (ji20) p330 q330
                (try rw [← Nbq15.out] at hx330_0)
                obtain rfl:ad328=ad330:=(by injection e330)
                replace p330:=eq_true p330
                replace q330:=eq_true q330
                have p23:0≤(x7_1:Int):=of_decide_eq_true (by first|(with_reducible assumption)|assumption)
                have q23:(x7_1:Int)<((x5_2.length:Int):Int):=of_decide_eq_true (by first|(with_reducible assumption)|assumption)
                obtain ⟨go23,co23,eo23,gb23,gl23,cl23,HG23⟩:=Kd.R_form HO_5.out (by omega)
                (first|cases eo23|(injection eo23 with ea_ en_ ec_;(first|subst ea_|(injection ea_ with ea_;subst ea_));subst ec_;clear en_))
                have GB23:=Aside0.mk gb23
                have GG23:=Aside0.mk HG23
                clear gb23 gl23 HG23
                (first|simp only [add_plain] at hx328_0|skip)
                (first|simp only [add_plain] at hx330_0|skip)
                obtain ⟨hx23_0,hf23_0⟩:=Kd.R_celln false HO_5.out (x7_1:Int) p23 q23
                replace p23:=eq_true p23
                replace q23:=eq_true q23
                have HP26:=Kd.R_putg HO_5.out (x7_1:Int) (rdOf false x5_2 (ji20))
                go_wp2_with (first|((with_reducible refine gate_store (t:=4) (p:=41) rfl ?_);refine store_event (t:=4) (p:=41) (v:=?vo_w27) (w1:=(wr.setCell ⟨go23,(x7_1:Int).toNat,none⟩ (.bool (rdOf false x5_2 (ji20))))) ?hg ?ho ?hn ?hr ?_;(case ho=>rfl);(case hg=>rfl);(case hn=>rfl);(case hr=>first|(go_simp;done)|(go_simp;rfl));intro w27 hw;have hg:wr.grownBy w27 (some go23):=(by rw [hw];exact HP26.2);have hp_:Kd.R Kd.bool 4 w27 w.heap.size (fun _=>True) (.slice (some ⟨go23,0,none⟩) x5_2.length co25) y331:=(by rw [hw,Ny331.out];exact HP26.1);clear HP26;have n0_:=Aside0.mk (hp_);have n1_:=Aside0.mk (Kd.R_over' (v:=(.slice (some ⟨go23,0,none⟩) x5_2.length co25)) (by (with_reducible repeat (first|apply yH|apply yI|apply yJ));exact HO_6.out) (Kd.R_typed HO_5.out) (by decide) hg);have n2_:=Aside0.mk (blk_grown (g:=gb321) (o:=.cells #[.slice A0_0 l0_0.length c0_0,.slice A0_1 l0_1.length c0_1] 41 (0,0)) (by (with_reducible repeat (first|refine yE ?_ _|refine yF ?_|refine yG ?_ _));exact BK321.out) hg (Kd.R_ne HO_5.out BK321.out (by decide)));have n3_:=Aside0.mk ((by rw [hw];exact yD (HB.out) GB23.out:Below w.heap.size w w27));clear HO_5;clear HO_6;clear BK321;clear HB;have HO_5:=n0_;have HO_6:=n1_;have BK321:=n2_;have HB:=n3_;clear n0_ n1_ n2_ n3_;clear hg hw hp_))
                go_roundg k2
                case measure=>have:=HK1.out;have:=HK2.out;omega
                case rel=>exact ⟨(y331),(wrap64 (x8_2+1)),(by first|rfl|(simp;done)|(simp [*];done)|(simp [Int.tmod_eq_emod_of_nonneg];done)),H',⟨by have:=HK1.out;have:=HK2.out;omega⟩,⟨by (with_reducible repeat (first|apply yH|apply yI|apply yJ));exact HO_5.out⟩,⟨by (with_reducible repeat (first|apply yH|apply yI|apply yJ));exact HO_6.out⟩,⟨by (with_reducible repeat (first|refine yE ?_ _|refine yF ?_|refine yG ?_ _));exact BK321.out⟩,⟨by repeat (first|(with_reducible first|exact HB.out|apply yA|apply yB|apply yC|refine yD ?_ GE321.out)|exact HB.out)⟩⟩
               ·rw [if_neg c22] at H
                exact absurd H (by simp)
              ·rw [if_neg c21] at H
               exact absurd H (by simp)
             ·rw [if_neg c19] at H
              exact absurd H (by simp)
           ·rw [if_neg c14] at H
            exact absurd H (by simp)
          ·rw [if_neg c13] at H
           exact absurd H (by simp)
         ·rw [if_neg c12] at H
          have c12b0:decide (x8_2<(x6_1.length:Int))=false:=decide_eq_false c12
          clear c12
          (first|rw [c12b0]|(simp only [i64_w,i32_w];rw [c12b0])|skip)
          have H':=Aside0.mk H
          clear H
          obtain ⟨Ao28,co28,eo28⟩:=Kd.R_slice HO_6.out
          subst eo28
          go_wp2
          go_meet
          case rel=>exact ⟨_,(x5_2),H',⟨by have:=HK1.out;have:=HK2.out;first|omega|exact Nat.le_refl _⟩,⟨by (with_reducible repeat (first|apply yH|apply yI|apply yJ));exact HO_5.out⟩,⟨by (with_reducible repeat (first|apply yH|apply yI|apply yJ));exact HO_6.out⟩,⟨by (with_reducible repeat (first|refine yE ?_ _|refine yF ?_|refine yG ?_ _));exact BK321.out⟩,⟨by repeat (first|(with_reducible first|exact HB.out|apply yA|apply yB|apply yC|refine yD ?_ GE321.out)|exact HB.out)⟩⟩
      case rest =>
       clear HC11
       try clear c1
       try clear q1
       try clear c2
       try clear p2
       try clear q2
       try clear hx2
       try clear hf2
       try clear c3
       try clear c3b0
       try clear c3b1
       try clear p3
       try clear q3
       try clear hx3
       try clear c4
       try clear c4b0
       try clear c4b1
       try clear p6
       try clear c10
       try clear c10b0
       try clear c12
       try clear c12b0
       try clear c13
       try clear c13b0
       try clear c14
       try clear c14b0
       try clear c15
       try clear q15
       try clear c16
       try clear c19
       try clear c19b0
       try clear c21
       try clear c21b0
       try clear c22
       try clear c22b0
       try clear p23
       try clear q23
       try clear hx23
       try clear hf23
       try clear hx23_0
       try clear hx328_0
       try clear hx329_0
       try clear hx330_0
       try clear p2
       try clear p23
       try clear p328
       try clear p329
       try clear p330
       try clear q23
       try clear q328
       try clear q329
       try clear q330
       obtain ⟨kq,x5_10,HA,HJ10,HO_5,HO_6,BK321,HB⟩:=hcut
       cases kq with
       | zero=>exact absurd HA.out (by simp [spec_l4Star.j2])
       | succ kj10 =>
        have H:=HA.out
        clear HA
        simp only [spec_l4Star.j2] at H
        by_cases c29:x7_1=0
        ·rw [if_pos c29] at H
         have c29b0:(x7_1 == 0)=true:=beq_iff_eq.mpr c29
         have c29b1:(x7_1 != 0)=false:=bne_eq_false_iff_eq.mpr c29
         clear c29
         by_cases c30:0<(x5_10.length:Int)
         ·rw [if_pos c30] at H
          have c30b0:decide (0<(x5_10.length:Int))=true:=decide_eq_true c30
          have c30b1:decide (0<x5_10.length)=true:=decide_eq_true (by omega)
          clear c30
          obtain ⟨y332,hy332⟩:∃ y_:List Bool,y_=(x5_10.set (0:Int).toNat true):=⟨_,rfl⟩
          replace H:(spec_l4Star.l0 kj10 a1 y332 x6_1 (wrap64 (x7_1+1)) l0_0 l0_1)=some r:=by first|(rw [hy332];with_reducible exact H)|(have H2_:=(Option.bind_some _ _).symm.trans H;rw [hy332];with_reducible exact H2_)|(have H2_:=(Option.bind_some _ _).symm.trans H;with_reducible exact H2_)|with_reducible exact H|(rw [hy332];exact H)|exact H
          have Ny332:=Aside0.mk hy332
          clear hy332
          have H':=Aside0.mk H
          clear H
          have p31:0≤(0:Int):=(by omega)
          have q31:(0:Int)<((x5_10.length:Int):Int):=of_decide_eq_true (by first|(with_reducible assumption)|assumption)
          have qi31:(0<x5_10.length)=True:=eq_true (by omega)
          obtain ⟨go31,co31,eo31,gb31,gl31,cl31,HG31⟩:=Kd.R_form HO_5.out (by omega)
          (first|cases eo31|(injection eo31 with ea_ en_ ec_;(first|subst ea_|(injection ea_ with ea_;subst ea_));subst ec_;clear en_))
          have GB31:=Aside0.mk gb31
          have GG31:=Aside0.mk HG31
          clear gb31 gl31 HG31
          obtain ⟨hx31_0,hf31_0⟩:=Kd.R_celln false HO_5.out (0:Int) p31 q31
          (try rw [show ((0:Int)).toNat=0 from rfl] at hx31_0)
          (try simp only [Nat.reduceMul,Nat.zero_mul,Nat.zero_add,Nat.reduceAdd] at hx31_0)
          (try rw [show ((0:Int)).toNat=0 from rfl] at hf31_0)
          (try simp only [Nat.reduceMul,Nat.zero_mul,Nat.zero_add,Nat.reduceAdd] at hf31_0)
          replace p31:=eq_true p31
          replace q31:=eq_true q31
          have HP32:=Kd.R_putg HO_5.out (0:Int) true
          go_wp2_with (first|((with_reducible refine gate_store (t:=4) (p:=45) rfl ?_);refine store_event (t:=4) (p:=45) (v:=?vo_w33) (w1:=(wc.setCell ⟨go31,(0:Int).toNat,none⟩ (.bool true))) ?hg ?ho ?hn ?hr ?_;(case ho=>rfl);(case hg=>rfl);(case hn=>rfl);(case hr=>first|(go_simp;done)|(go_simp;rfl));intro w33 hw;have hg:wc.grownBy w33 (some go31):=(by rw [hw];exact HP32.2);have hp_:Kd.R Kd.bool 4 w33 w.heap.size (fun _=>True) (.slice (some ⟨go31,0,none⟩) x5_10.length co31) y332:=(by rw [hw,Ny332.out];exact HP32.1);clear HP32;have n0_:=Aside0.mk (hp_);have n1_:=Aside0.mk (Kd.R_over' (v:=(.slice (some ⟨go31,0,none⟩) x5_10.length co31)) (by (with_reducible repeat (first|apply yH|apply yI|apply yJ));exact HO_6.out) (Kd.R_typed HO_5.out) (by decide) hg);have n2_:=Aside0.mk (blk_grown (g:=gb321) (o:=.cells #[.slice A0_0 l0_0.length c0_0,.slice A0_1 l0_1.length c0_1] 41 (0,0)) (by (with_reducible repeat (first|refine yE ?_ _|refine yF ?_|refine yG ?_ _));exact BK321.out) hg (Kd.R_ne HO_5.out BK321.out (by decide)));have n3_:=Aside0.mk ((by rw [hw];exact yD (HB.out) GB31.out:Below w.heap.size w w33));clear HO_5;clear HO_6;clear BK321;clear HB;have HO_5:=n0_;have HO_6:=n1_;have BK321:=n2_;have HB:=n3_;clear n0_ n1_ n2_ n3_;clear hg hw hp_))
          go_roundg kj10
          case measure=>have:=HK1.out;have:=HJ10.out;omega
          case rel=>exact ⟨(y332),(x6_1),(wrap64 (x7_1+1)),(by first|rfl|(simp;done)|(simp [*];done)|(simp [Int.tmod_eq_emod_of_nonneg];done)),H',⟨by have:=HK1.out;have:=HJ10.out;omega⟩,⟨by (with_reducible repeat (first|apply yH|apply yI|apply yJ));exact HO_5.out⟩,⟨by (with_reducible repeat (first|apply yH|apply yI|apply yJ));exact HO_6.out⟩,⟨by (with_reducible repeat (first|refine yE ?_ _|refine yF ?_|refine yG ?_ _));exact BK321.out⟩,⟨by repeat (first|(with_reducible first|exact HB.out|apply yA|apply yB|apply yC|refine yD ?_ GE321.out)|exact HB.out)⟩⟩
         ·rw [if_neg c30] at H
          exact absurd H (by simp)
        ·rw [if_neg c29] at H
         have c29b0:(x7_1 == 0)=false:=beq_eq_false_iff_ne.mpr c29
         have c29b1:(x7_1 != 0)=true:=bne_iff_ne.mpr c29
         by_cases c34:0≤x7_1
         ·rw [if_pos c34] at H
          have c34b0:decide (0≤x7_1)=true:=decide_eq_true c34
          clear c34
          by_cases c35:x7_1<(x5_10.length:Int)
          ·rw [if_pos c35] at H
           have c35b0:decide (x7_1<(x5_10.length:Int))=true:=decide_eq_true c35
           clear c35
           obtain ⟨bq36,hbq36⟩:∃ b_:Bool,b_=(rdOf false x5_10 x7_1):=⟨_,rfl⟩
           replace H:(if bq36=true then (spec_l4Star.l0 kj10 a1 x5_10 x6_1 (wrap64 (x7_1+1)) l0_0 l0_1) else ((spec_l1Has.f l0_0 l0_1 x7_1).bind fun t334=>(if t334=true then (if x6_1.length<17592186044416 then (spec_l4Star.l0 kj10 a1 (x5_10.set (x7_1:Int).toNat true) (x6_1++[x7_1]) (wrap64 (x7_1+1)) l0_0 l0_1) else (none)) else (spec_l4Star.l0 kj10 a1 x5_10 x6_1 (wrap64 (x7_1+1)) l0_0 l0_1))))=some r:=by rw [← hbq36] at H;exact H
           have Nbq36:=Aside0.mk hbq36
           clear hbq36
           by_cases c37:bq36=true
           ·subst c37
            have H1:(spec_l4Star.l0 kj10 a1 x5_10 x6_1 (wrap64 (x7_1+1)) l0_0 l0_1)=some r:=by rw [if_pos rfl] at H;exact H
            clear H
            have H:=H1
            clear H1
            have H':=Aside0.mk H
            clear H
            obtain ⟨Ao38,co38,eo38⟩:=Kd.R_slice HO_5.out
            subst eo38
            have p333:0≤(x7_1:Int):=of_decide_eq_true (by first|(with_reducible assumption)|assumption)
            have q333:x7_1<(x5_10.length:Int):=of_decide_eq_true (by first|(with_reducible assumption)|assumption)
            obtain ⟨ad333,e333,hx333_0⟩:=Kd.at_bool (Kd.R_reads' HO_5.out).2.2 x7_1 p333 q333
            (try rw [← Nbq36.out] at hx333_0)
            cases e333
            replace p333:=eq_true p333
            replace q333:=eq_true q333
            go_wp2
            go_roundg kj10
            case measure=>have:=HK1.out;have:=HJ10.out;omega
            case rel=>exact ⟨(x5_10),(x6_1),(wrap64 (x7_1+1)),(by first|rfl|(simp;done)|(simp [*];done)|(simp [Int.tmod_eq_emod_of_nonneg];done)),H',⟨by have:=HK1.out;have:=HJ10.out;omega⟩,⟨by (with_reducible repeat (first|apply yH|apply yI|apply yJ));exact HO_5.out⟩,⟨by (with_reducible repeat (first|apply yH|apply yI|apply yJ));exact HO_6.out⟩,⟨by (with_reducible repeat (first|refine yE ?_ _|refine yF ?_|refine yG ?_ _));exact BK321.out⟩,⟨by repeat (first|(with_reducible first|exact HB.out|apply yA|apply yB|apply yC|refine yD ?_ GE321.out)|exact HB.out)⟩⟩
           ·replace c37:=Bool.eq_false_iff.mpr c37
            subst c37
            have H1:((spec_l1Has.f l0_0 l0_1 x7_1).bind fun t334=>(if t334=true then (if x6_1.length<17592186044416 then (spec_l4Star.l0 kj10 a1 (x5_10.set (x7_1:Int).toNat true) (x6_1++[x7_1]) (wrap64 (x7_1+1)) l0_0 l0_1) else (none)) else (spec_l4Star.l0 kj10 a1 x5_10 x6_1 (wrap64 (x7_1+1)) l0_0 l0_1)))=some r:=by rw [if_neg (show ¬ (false=true) by decide)] at H;exact H
            clear H
            have H:=H1
            clear H1
            replace H:=Option.bind_eq_some_iff.mp H
            obtain ⟨t334,A390,H⟩:=H
            replace H:(if t334=true then (if x6_1.length<17592186044416 then (spec_l4Star.l0 kj10 a1 (x5_10.set (x7_1:Int).toNat true) (x6_1++[x7_1]) (wrap64 (x7_1+1)) l0_0 l0_1) else (none)) else (spec_l4Star.l0 kj10 a1 x5_10 x6_1 (wrap64 (x7_1+1)) l0_0 l0_1))=some r:=H
            have A39:=Aside0.mk A390
            clear A390
            by_cases c40:t334=true
            ·subst c40
             have H1:(if x6_1.length<17592186044416 then (spec_l4Star.l0 kj10 a1 (x5_10.set (x7_1:Int).toNat true) (x6_1++[x7_1]) (wrap64 (x7_1+1)) l0_0 l0_1) else (none))=some r:=by rw [if_pos rfl] at H;exact H
             clear H
             have H:=H1
             clear H1
             obtain ⟨y335,hy335⟩:∃ y_:List Bool,y_=(x5_10.set (x7_1:Int).toNat true):=⟨_,rfl⟩
             replace H:(if x6_1.length<17592186044416 then (spec_l4Star.l0 kj10 a1 y335 (x6_1++[x7_1]) (wrap64 (x7_1+1)) l0_0 l0_1) else (none))=some r:=by first|(rw [hy335];with_reducible exact H)|(have H2_:=(Option.bind_some _ _).symm.trans H;rw [hy335];with_reducible exact H2_)|(have H2_:=(Option.bind_some _ _).symm.trans H;with_reducible exact H2_)|with_reducible exact H|(rw [hy335];exact H)|exact H
             have Ny335:=Aside0.mk hy335
             clear hy335
             by_cases c42:x6_1.length<17592186044416
             ·rw [if_pos c42] at H
              have LMc42:=Aside0.mk c42
              clear c42
              obtain ⟨y336,hy336⟩:∃ y_:List Int,y_=(x6_1++[x7_1]):=⟨_,rfl⟩
              replace H:(spec_l4Star.l0 kj10 a1 y335 y336 (wrap64 (x7_1+1)) l0_0 l0_1)=some r:=by first|(rw [hy336];with_reducible exact H)|(have H2_:=(Option.bind_some _ _).symm.trans H;rw [hy336];with_reducible exact H2_)|(have H2_:=(Option.bind_some _ _).symm.trans H;with_reducible exact H2_)|with_reducible exact H|(rw [hy336];exact H)|exact H
              have Ny336:=Aside0.mk hy336
              clear hy336
              have H':=Aside0.mk H
              clear H
              obtain ⟨Ao43,co43,eo43⟩:=Kd.R_slice HO_5.out
              subst eo43
              have p333:0≤(x7_1:Int):=of_decide_eq_true (by first|(with_reducible assumption)|assumption)
              have q333:x7_1<(x5_10.length:Int):=of_decide_eq_true (by first|(with_reducible assumption)|assumption)
              obtain ⟨ad333,e333,hx333_0⟩:=Kd.at_bool (Kd.R_reads' HO_5.out).2.2 x7_1 p333 q333
              (try rw [← Nbq36.out] at hx333_0)
              cases e333
              replace p333:=eq_true p333
              replace q333:=eq_true q333
              have hcz44_0:wc.cell? ⟨gb321,0,none⟩=some (.slice A0_0 l0_0.length c0_0):=(blk_cell BK321.out 0).trans rfl
              have hcz44_1:wc.cell? ⟨gb321,1,none⟩=some (.slice A0_1 l0_1.length c0_1):=(blk_cell BK321.out 1).trans rfl
              have hfz44_0:=blk_frozen BK321.out 0
              have hfz44_1:=blk_frozen BK321.out 1
              go_wp2_with (first|(go_at_call 24;(with_reducible refine (spec_l1Has.calls _ _ l0_0 _ _ l0_1 x7_1 true _ ?side1 ?side2 ?side3 ?side4 A39.out).mono ?_);(case side1=>repeat (first|exact (Kd.C_below HR0_0.out HB.out)|(with_reducible refine Kd.C_alloc ?_ _)|(with_reducible refine Kd.C_drewN ?_ _)|(with_reducible refine Kd.C_drew ?_)));(case side2=>exact HC0_0.out);(case side3=>repeat (first|exact (Kd.C_below HR0_1.out HB.out)|(with_reducible refine Kd.C_alloc ?_ _)|(with_reducible refine Kd.C_drewN ?_ _)|(with_reducible refine Kd.C_drew ?_)));(case side4=>exact HC0_1.out);rintro e w45 ⟨rfl,hb⟩;have n0_:=Aside0.mk (Kd.R_below (by (with_reducible repeat (first|apply yH|apply yI|apply yJ));exact HO_5.out) hb);have n1_:=Aside0.mk (Kd.R_below (by (with_reducible repeat (first|apply yH|apply yI|apply yJ));exact HO_6.out) hb);have n2_:=Aside0.mk (blk_below (g:=gb321) (o:=.cells #[.slice A0_0 l0_0.length c0_0,.slice A0_1 l0_1.length c0_1] 41 (0,0)) (by (with_reducible repeat (first|refine yE ?_ _|refine yF ?_|refine yG ?_ _));exact BK321.out) hb);have n3_:=Aside0.mk (yP (by repeat (first|(with_reducible first|exact HB.out|apply yA|apply yB|apply yC|refine yD ?_ GE321.out)|exact HB.out)) hb);clear HO_5;clear HO_6;clear BK321;clear HB;have HO_5:=n0_;have HO_6:=n1_;have BK321:=n2_;have HB:=n3_;clear n0_ n1_ n2_ n3_;(try clear hb);(try clear hb2);(try clear hk);(try clear hi);have p41:0≤(x7_1:Int):=of_decide_eq_true (by first|(with_reducible assumption)|assumption);have q41:(x7_1:Int)<((x5_10.length:Int):Int):=of_decide_eq_true (by first|(with_reducible assumption)|assumption);obtain ⟨go41,co41,eo41,gb41,gl41,cl41,HG41⟩:=Kd.R_form HO_5.out (by omega);(first|cases eo41|(injection eo41 with ea_ en_ ec_;(first|subst ea_|(injection ea_ with ea_;subst ea_));subst ec_;clear en_));have GB41:=Aside0.mk gb41;have GG41:=Aside0.mk HG41;clear gb41 gl41 HG41;(first|simp only [add_plain] at hx333_0|skip);obtain ⟨hx41_0,hf41_0⟩:=Kd.R_celln false HO_5.out (x7_1:Int) p41 q41;replace p41:=eq_true p41;replace q41:=eq_true q41;obtain ⟨hy46_,hz46_⟩:=Kd.R_celln false HO_5.out (x7_1:Int) (of_decide_eq_true (by first|(with_reducible assumption)|assumption)) (of_decide_eq_true (by first|(with_reducible assumption)|assumption));have HP46:=Kd.R_putg HO_5.out (x7_1:Int) true)|((with_reducible refine gate_store (t:=4) (p:=58) rfl ?_);refine store_event (t:=4) (p:=58) (v:=?vo_w47) (w1:=(w45.setCell ⟨go41,(x7_1:Int).toNat,none⟩ (.bool true))) ?hg ?ho ?hn ?hr ?_;(case ho=>rfl);(case hg=>rfl);(case hn=>rfl);(case hr=>first|(go_simp;done)|(go_simp;rfl));intro w47 hw;have hg:w45.grownBy w47 (some go41):=(by rw [hw];exact HP46.2);have hp_:Kd.R Kd.bool 4 w47 w.heap.size (fun _=>True) (.slice (some ⟨go41,0,none⟩) x5_10.length co43) y335:=(by rw [hw,Ny335.out];exact HP46.1);clear HP46;have n0_:=Aside0.mk (hp_);have n1_:=Aside0.mk (Kd.R_over' (v:=(.slice (some ⟨go41,0,none⟩) x5_10.length co43)) (by (with_reducible repeat (first|apply yH|apply yI|apply yJ));exact HO_6.out) (Kd.R_typed HO_5.out) (by decide) hg);have n2_:=Aside0.mk (blk_grown (g:=gb321) (o:=.cells #[.slice A0_0 l0_0.length c0_0,.slice A0_1 l0_1.length c0_1] 41 (0,0)) (by (with_reducible repeat (first|refine yE ?_ _|refine yF ?_|refine yG ?_ _));exact BK321.out) hg (Kd.R_ne HO_5.out BK321.out (by decide)));have n3_:=Aside0.mk ((by rw [hw];exact yD (HB.out) GB41.out:Below w.heap.size w w47));clear HO_5;clear HO_6;clear BK321;clear HB;have HO_5:=n0_;have HO_6:=n1_;have BK321:=n2_;have HB:=n3_;clear n0_ n1_ n2_ n3_;clear hg hw hp_)|((with_reducible refine gate_builtin (b:=.append) (xs:=#[.tmp 59,.tmp 61]) rfl ?_);at_builtin;refine Kd.R_append (Kd.int .i64) (w0:=w) w.heap.size rfl (.tmp 59) (.tmp 61) 56 3 (.int .i64 0) 8 rfl Try.underlying56 info3 rfl (by decide) (by omega) u6 x6_1 x7_1 [.int .i64 x7_1] (fun _=>True) (fun _=>False) rfl rfl ?aP (fun _ hk=>hk.elim) ?aF ?aO ?aB ?aS ?aL ?_;(case aP=>exact rfl);(case aB=>exact (by repeat (first|(with_reducible first|exact HB.out|apply yA|apply yB|apply yC|refine yD ?_ GE321.out)|exact HB.out)));(case aF=>exact (fun _ _=>trivial));(case aO=>exact (by (with_reducible repeat (first|apply yH|apply yI|apply yJ));exact HO_6.out));(case aS=>exact (yQ (by repeat (first|(with_reducible first|exact HB.out|apply yA|apply yB|apply yC|refine yD ?_ GE321.out)|exact HB.out))));(case aL=>have:=LMc42.out;omega);intro v337 w48 ho hb hg hat;rw [← Ny336.out] at ho;have n0_:=Aside0.mk (Kd.R_over' (by (with_reducible repeat (first|apply yH|apply yI|apply yJ));exact HO_5.out) (Kd.R_typed (by (with_reducible repeat (first|apply yH|apply yI|apply yJ));exact HO_6.out)) (by decide) hg);have n1_:=Aside0.mk (blk_grown (g:=gb321) (o:=.cells #[.slice A0_0 l0_0.length c0_0,.slice A0_1 l0_1.length c0_1] 41 (0,0)) (by (with_reducible repeat (first|refine yE ?_ _|refine yF ?_|refine yG ?_ _));exact BK321.out) hg (Kd.R_ne HO_6.out BK321.out (by decide)));have n2_:=Aside0.mk (hb);have n3_:=Aside0.mk (ho);clear HO_5;clear BK321;clear HB;clear HO_6;have HO_5:=n0_;have BK321:=n1_;have HB:=n2_;have HO338:=n3_;clear n0_ n1_ n2_ n3_;clear ho hb hg hat))
              go_roundg kj10
              case measure=>have:=HK1.out;have:=HJ10.out;omega
              case rel=>exact ⟨(y335),(y336),(wrap64 (x7_1+1)),(by first|rfl|(simp;done)|(simp [*];done)|(simp [Int.tmod_eq_emod_of_nonneg];done)),H',⟨by have:=HK1.out;have:=HJ10.out;omega⟩,⟨by (with_reducible repeat (first|apply yH|apply yI|apply yJ));exact HO_5.out⟩,⟨by (with_reducible repeat (first|apply yH|apply yI|apply yJ));exact HO338.out⟩,⟨by (with_reducible repeat (first|refine yE ?_ _|refine yF ?_|refine yG ?_ _));exact BK321.out⟩,⟨by repeat (first|(with_reducible first|exact HB.out|apply yA|apply yB|apply yC|refine yD ?_ GE321.out)|exact HB.out)⟩⟩
             ·rw [if_neg c42] at H
              exact absurd H (by simp)
            ·replace c40:=Bool.eq_false_iff.mpr c40
             subst c40
             have H1:(spec_l4Star.l0 kj10 a1 x5_10 x6_1 (wrap64 (x7_1+1)) l0_0 l0_1)=some r:=by rw [if_neg (show ¬ (false=true) by decide)] at H;exact H
             clear H
             have H:=H1
             clear H1
             have H':=Aside0.mk H
             clear H
             obtain ⟨Ao49,co49,eo49⟩:=Kd.R_slice HO_5.out
             subst eo49
             have p333:0≤(x7_1:Int):=of_decide_eq_true (by first|(with_reducible assumption)|assumption)
             have q333:x7_1<(x5_10.length:Int):=of_decide_eq_true (by first|(with_reducible assumption)|assumption)
             obtain ⟨ad333,e333,hx333_0⟩:=Kd.at_bool (Kd.R_reads' HO_5.out).2.2 x7_1 p333 q333
             (try rw [← Nbq36.out] at hx333_0)
             cases e333
             replace p333:=eq_true p333
             replace q333:=eq_true q333
             have hcz50_0:wc.cell? ⟨gb321,0,none⟩=some (.slice A0_0 l0_0.length c0_0):=(blk_cell BK321.out 0).trans rfl
             have hcz50_1:wc.cell? ⟨gb321,1,none⟩=some (.slice A0_1 l0_1.length c0_1):=(blk_cell BK321.out 1).trans rfl
             have hfz50_0:=blk_frozen BK321.out 0
             have hfz50_1:=blk_frozen BK321.out 1
             go_wp2_with (first|(go_at_call 24;(with_reducible refine (spec_l1Has.calls _ _ l0_0 _ _ l0_1 x7_1 false _ ?side1 ?side2 ?side3 ?side4 A39.out).mono ?_);(case side1=>repeat (first|exact (Kd.C_below HR0_0.out HB.out)|(with_reducible refine Kd.C_alloc ?_ _)|(with_reducible refine Kd.C_drewN ?_ _)|(with_reducible refine Kd.C_drew ?_)));(case side2=>exact HC0_0.out);(case side3=>repeat (first|exact (Kd.C_below HR0_1.out HB.out)|(with_reducible refine Kd.C_alloc ?_ _)|(with_reducible refine Kd.C_drewN ?_ _)|(with_reducible refine Kd.C_drew ?_)));(case side4=>exact HC0_1.out);rintro e w51 ⟨rfl,hb⟩;have n0_:=Aside0.mk (Kd.R_below (by (with_reducible repeat (first|apply yH|apply yI|apply yJ));exact HO_5.out) hb);have n1_:=Aside0.mk (Kd.R_below (by (with_reducible repeat (first|apply yH|apply yI|apply yJ));exact HO_6.out) hb);have n2_:=Aside0.mk (blk_below (g:=gb321) (o:=.cells #[.slice A0_0 l0_0.length c0_0,.slice A0_1 l0_1.length c0_1] 41 (0,0)) (by (with_reducible repeat (first|refine yE ?_ _|refine yF ?_|refine yG ?_ _));exact BK321.out) hb);have n3_:=Aside0.mk (yP (by repeat (first|(with_reducible first|exact HB.out|apply yA|apply yB|apply yC|refine yD ?_ GE321.out)|exact HB.out)) hb);clear HO_5;clear HO_6;clear BK321;clear HB;have HO_5:=n0_;have HO_6:=n1_;have BK321:=n2_;have HB:=n3_;clear n0_ n1_ n2_ n3_;(try clear hb);(try clear hb2);(try clear hk);(try clear hi)))
             go_roundg kj10
             case measure=>have:=HK1.out;have:=HJ10.out;omega
             case rel=>exact ⟨(x5_10),(x6_1),(wrap64 (x7_1+1)),(by first|rfl|(simp;done)|(simp [*];done)|(simp [Int.tmod_eq_emod_of_nonneg];done)),H',⟨by have:=HK1.out;have:=HJ10.out;omega⟩,⟨by (with_reducible repeat (first|apply yH|apply yI|apply yJ));exact HO_5.out⟩,⟨by (with_reducible repeat (first|apply yH|apply yI|apply yJ));exact HO_6.out⟩,⟨by (with_reducible repeat (first|refine yE ?_ _|refine yF ?_|refine yG ?_ _));exact BK321.out⟩,⟨by repeat (first|(with_reducible first|exact HB.out|apply yA|apply yB|apply yC|refine yD ?_ GE321.out)|exact HB.out)⟩⟩
          ·rw [if_neg c35] at H
           exact absurd H (by simp)
         ·rw [if_neg c34] at H
          exact absurd H (by simp)
     ·rw [if_neg c10] at H
      have c10b0:decide (x7_1<a1)=false:=decide_eq_false c10
      clear c10
      obtain rfl:=Option.some.inj H
      go_wp2
      go_ret
      exact ⟨_,by first|rfl|(simp [errW_none,errW_some]<;>rfl)|(simp [*,errW_none,errW_some]<;>rfl)|(simp [errW_none,errW_some];exact ⟨rfl,rfl⟩),by (with_reducible repeat (first|apply yH|apply yI|apply yJ));exact HO_5.out,by repeat (first|(with_reducible first|exact HB.out|apply yA|apply yB|apply yC|refine yD ?_ GE321.out)|exact HB.out)⟩
  ·rw [if_neg c4] at H
   exact absurd H (by simp)
 ·rw [if_neg c3] at H
  exact absurd H (by simp)

end Go.Proofs.Ytnmkinnfbbehnaa.P

namespace Go.Proofs.Ytnmkinnfbbehnaa.P
open Go.RowKit Go.Proofs.YtnmkinnfbbehnaaW.PrintWords Go.Proofs.YtnmkinnfbbehnaaW.PrintLast Go.Proofs.YtnmkinnfbbehnaaW.PrintMore
attribute [local go_sem] max2_int min2_int max_two min_two max_three min_three max_four min_four   -- for this text's walks alone
set_option linter.unusedVariables false
set_option linter.unusedSimpArgs false

/-- A state of type 48 at block g of W; what its slices lead to came in by w0. -/
def IsS48 (w0 W:World) (g:Nat) (f0:List Int) (f1:Int):Prop:=∃ A0 c0,W.heap[g]?=some (.cells #[.slice A0 f0.length c0,.int .i64 f1] 48 (0,0))∧w0.heap.size≤g∧Kd.C (Kd.int .u8) w0 A0 f0.length f0
theorem IsS48.grown {w0 W:World} {g:Nat} {f0:List Int} {f1:Int} {W1:World} {row:Option Nat} (h:IsS48 w0 W g f0 f1) (hw:W.grownBy W1 row) (hne:some g≠row):IsS48 w0 W1 g f0 f1:=by
 obtain ⟨A0,c0,hb,hg,hr0⟩:=h
 exact ⟨A0,c0,blk_grown hb hw hne,hg,hr0⟩
theorem IsS48.own_neN {w0 W:World} {g:Nat} {f0:List Int} {f1:Int} {α:Type} {d:Kd α} {e:Nat} {base:Nat} {ok:Nat→Prop} {v:Value} {xs:List α} (h:IsS48 w0 W g f0 f1) (ho:Kd.N d e W base ok v xs) (ht:e≠48):some g≠v.ownBlock:=by
 obtain ⟨A0,c0,hb,hg,hr0⟩:=h
 exact Kd.N_ne ho hb ht
theorem IsS48.fresh {w0 W:World} {g:Nat} {f0:List Int} {f1:Int} (h:IsS48 w0 W g f0 f1):∀ k,W.heap.size≤k→k≠g:=by
 obtain ⟨A0,c0,hb,hg,hr0⟩:=h
 exact Kd.freshB hb
theorem IsS48.kept {w0 W:World} {g:Nat} {f0:List Int} {f1:Int} {W1:World} {S:Nat→Prop} (h:IsS48 w0 W g f0 f1) (hk:Kept W W1 S) (hne:¬ S g):IsS48 w0 W1 g f0 f1:=by
 obtain ⟨A0,c0,hb,hg,hr0⟩:=h
 exact ⟨A0,c0,blk_kept hb hk hne,hg,hr0⟩
theorem IsS48.below {w0 W:World} {g:Nat} {f0:List Int} {f1:Int} {W1:World} (h:IsS48 w0 W g f0 f1) (hw:Below W.heap.size W W1):IsS48 w0 W1 g f0 f1:=h.grown (grown_of_below hw none) (by simp)
theorem IsS48.alloc {w0 W:World} {g:Nat} {f0:List Int} {f1:Int} (h:IsS48 w0 W g f0 f1) (o:Obj):IsS48 w0 (W.alloc o) g f0 f1:=h.below (yA (Below.refl _ _) o)
theorem IsS48.drewN {w0 W:World} {g:Nat} {f0:List Int} {f1:Int} (h:IsS48 w0 W g f0 f1) (m:Nat):IsS48 w0 (W.drewN m) g f0 f1:=h
theorem IsS48.drew {w0 W:World} {g:Nat} {f0:List Int} {f1:Int} (h:IsS48 w0 W g f0 f1):IsS48 w0 W.drew g f0 f1:=h
theorem IsS48.at_ {w0 W:World} {g:Nat} {f0:List Int} {f1:Int} {w':World} {m:Nat} (hq:W.drewN m=w') (h:IsS48 w0 W g f0 f1):IsS48 w0 w' g f0 f1:=by subst hq;exact IsS48.drewN h m
theorem IsS48.apart {w0 W:World} {g:Nat} {f0:List Int} {f1:Int} {α:Type} {d:Kd α} {e:Nat} {base:Nat} {ok:Nat→Prop} {v:Value} {xs:List α} (h:IsS48 w0 W g f0 f1) (ho:d.R e W base ok v xs) (ht:∀ q,q ∈ e :: d.E→q≠48):d.R e W base (fun k=>ok k∧k≠g) v xs:=by
 obtain ⟨A0,c0,hb,hg,hr0⟩:=h
 exact Kd.R_types ho hb ht
theorem IsS48.own_ne {w0 W:World} {g:Nat} {f0:List Int} {f1:Int} {α:Type} {d:Kd α} {e:Nat} {base:Nat} {ok:Nat→Prop} {v:Value} {xs:List α} (h:IsS48 w0 W g f0 f1) (ho:d.R e W base ok v xs) (ht:e≠48):some g≠v.ownBlock:=by
 obtain ⟨A0,c0,hb,hg,hr0⟩:=h
 exact Kd.R_ne ho hb ht
theorem IsS48.apartQ {w0 W:World} {g:Nat} {f0:List Int} {f1:Int} {α:Type} {d:Kd α} {e:Nat} {base:Nat} {ok:Nat→Prop} {v:Value} {xs:List α} (h:IsS48 w0 W g f0 f1) (ho:d.Q e W base ok v xs) (ht:∀ q,q ∈ e :: d.E→q≠48):d.Q e W base (fun k=>ok k∧k≠g) v xs:=by
 obtain ⟨A0,c0,hb,hg,hr0⟩:=h
 exact Kd.Q_types ho hb ht
theorem IsS48.own_neQ {w0 W:World} {g:Nat} {f0:List Int} {f1:Int} {α:Type} {d:Kd α} {e:Nat} {base:Nat} {ok:Nat→Prop} {v:Value} {xs:List α} (h:IsS48 w0 W g f0 f1) (ho:d.Q e W base ok v xs) (ht:e≠48):some g≠v.ownBlock:=by
 obtain ⟨A0,c0,hb,hg,hr0⟩:=h
 exact Kd.Q_ne ho hb ht
theorem IsS48.apartS {w0 W:World} {g:Nat} {f0:List Int} {f1:Int} {α:Type} {d:Kd α} {e:Nat} {base:Nat} {ok:Nat→Prop} {v:Value} {xs:List α} (h:IsS48 w0 W g f0 f1) (ho:d.S e W base ok v xs) (ht:∀ q,q ∈ e :: d.E→q≠48):d.S e W base (fun k=>ok k∧k≠g) v xs:=by
 obtain ⟨A0,c0,hb,hg,hr0⟩:=h
 exact Kd.S_types ho hb ht
theorem IsS48.own_neS {w0 W:World} {g:Nat} {f0:List Int} {f1:Int} {α:Type} {d:Kd α} {e:Nat} {base:Nat} {ok:Nat→Prop} {v:Value} {xs:List α} (h:IsS48 w0 W g f0 f1) (ho:d.S e W base ok v xs) (ht:e≠48):some g≠v.ownBlock:=by
 obtain ⟨A0,c0,hb,hg,hr0⟩:=h
 exact Kd.S_ne ho hb ht
theorem IsS48.lt {w0 W:World} {g:Nat} {f0:List Int} {f1:Int} (h:IsS48 w0 W g f0 f1):g<W.heap.size:=by
 obtain ⟨A0,c0,hb,hg,hr0⟩:=h
 exact blk_lt hb
theorem IsS48.ge {w0 W:World} {g:Nat} {f0:List Int} {f1:Int} (h:IsS48 w0 W g f0 f1):w0.heap.size≤g:=by
 obtain ⟨A0,c0,hb,hg,hr0⟩:=h
 exact hg
theorem IsS48.ne_blk {w0 W:World} {g:Nat} {f0:List Int} {f1:Int} {a:Nat} {cs:Array Value} {t:TypeId} {fr:Nat × Nat} (h:IsS48 w0 W g f0 f1) (hb2:W.heap[a]?=some (.cells cs t fr)) (ht:t≠48):g≠a:=by
 obtain ⟨A0,c0,hb,hg,hr0⟩:=h
 rintro rfl
 rw [hb] at hb2
 injection hb2 with hb2
 injection hb2 with _ ht2
 exact ht ht2.symm
theorem IsS48.far {w0 W:World} {g:Nat} {f0:List Int} {f1:Int} {p:Addr} (h:IsS48 w0 W g f0 f1) (hne:g≠p.block) (u:Value):IsS48 w0 (W.setCell p u) g f0 f1:=by
 obtain ⟨A0,c0,hb,hg,hr0⟩:=h
 exact ⟨A0,c0,blk_far hb hne u,hg,hr0⟩
theorem cellS48_0 {W:World} {g:Nat} {A0:Option Addr} {c0:Nat} {f0:List Int} {f1:Int} (h:W.heap[g]?=some (.cells #[.slice A0 f0.length c0,.int .i64 f1] 48 (0,0))):W.cell? ⟨g,0,none⟩=some (.slice A0 f0.length c0):=(blk_cell h 0).trans rfl
theorem cellS48_1 {W:World} {g:Nat} {A0:Option Addr} {c0:Nat} {f0:List Int} {f1:Int} (h:W.heap[g]?=some (.cells #[.slice A0 f0.length c0,.int .i64 f1] 48 (0,0))):W.cell? ⟨g,1,none⟩=some (.int .i64 f1):=(blk_cell h 1).trans rfl
theorem IsS48.set_1 {w0 W:World} {g:Nat} {f0:List Int} {f1:Int} (h:IsS48 w0 W g f0 f1) (x:Int):IsS48 w0 (W.setCell ⟨g,1,none⟩ (.int .i64 x)) g f0 x:=by
 obtain ⟨A0,c0,hb,hg,hr0⟩:=h
 exact ⟨A0,c0,by simpa using blk_set hb 1 (.int .i64 x),hg,hr0⟩
theorem IsS48.new (w0 W:World) (A0:Option Addr) (c0:Nat) (f0:List Int) (f1:Int) (hB:Below w0.heap.size w0 W) (hr0:Kd.C (Kd.int .u8) w0 A0 f0.length f0):IsS48 w0 (W.alloc (.cells #[.slice A0 f0.length c0,.int .i64 f1] 48)) W.heap.size f0 f1:=⟨A0,c0,by simpa using heap_alloc_new W _,hB.size,hr0⟩

/-! ### spec_l6Open: function 8 -/
def spec_l6Open.f (l0:List Int):Option (List Int × Int):=if (l0.length:Int) > 2000 then (if 2000≤(l0.length:Int) then (some (l0.take 2000,0)) else (none)) else (some (l0,0))
set_option maxHeartbeats 8000000 in
set_option maxRecDepth 100000 in
theorem spec_l6Open.calls (A0:Option Addr) (c0:Nat) (l0:List Int) (r1:List Int) (r2:Int) (w0 w:World) (hB:Below w0.heap.size w0 w) (hr0:Kd.C (Kd.int .u8) w0 A0 l0.length l0) (hc0:l0.length≤c0) (h:spec_l6Open.f l0=some (r1,r2)) :
  Calls Try.prog 8 #[.slice A0 l0.length c0] w fun e w'=>∃ g_:Nat,e=.returned (.pointer (some ⟨g_,0,none⟩))∧IsS48 w0 w' g_ r1 r2∧Below w0.heap.size w0 w'∧Below w.heap.size w w':=by
 have hu48:=Try.underlying48
 have HR0:=Aside0.mk hr0
 have HC0:=Aside0.mk hc0
 clear hr0 hc0
 have HBW:=Aside0.mk (Below.refl w.heap.size w)
 have HW0:=Aside0.mk hB.size
 have HB:=Aside0.mk hB
 clear hB
 have H:(if (l0.length:Int) > 2000 then (if 2000≤(l0.length:Int) then (some (l0.take 2000,0)) else (none)) else (some (l0,0)))=some (r1,r2):=h
 clear h
 by_cases c2:(l0.length:Int) > 2000
 ·rw [if_pos c2] at H
  have c2b0:decide (2000<(l0.length:Int))=true:=decide_eq_true c2
  have c2b1:decide (2000<l0.length)=true:=decide_eq_true (by omega)
  clear c2
  by_cases c3:2000≤(l0.length:Int)
  ·rw [if_pos c3] at H
   have c3b0:=eq_true c3
   have c3b1:decide (2000≤(l0.length:Int))=true:=decide_eq_true c3
   clear c3
   simp only [Option.some.injEq,Prod.mk.injEq] at H
   obtain ⟨rfl,rfl⟩:=H
   obtain ⟨i04,hi04,_,hsz4,_⟩:=info_parts info5
   obtain ⟨hcut4,hA4,hC4⟩:=print_take_of (P:=Try.prog) (Value.int .u8) 0 22 5 .i64 Try.underlying22 hi04 hsz4 A0 c0 l0 2000 (by omega) (of_decide_eq_true (by first|(with_reducible assumption)|assumption)) HC0.out
   have HR101:=Aside0.mk (Kd.C_of_reads (h1:=fun _=>rfl) (hA4 _ (Kd.reads_of_C HR0.out)))
   have HC101:=Aside0.mk hC4
   clear hA4 hC4 hi04 hsz4
   go_enter Try.func8,Try.ntmps8
   go_wp2_with (first|((with_reducible refine gate_dst (N:=10) rfl ?_);refine box_event ?hg (N:=10) ?hd (cs:=#[.slice A0 (l0.take 2000).length c0,.int .i64 0]) (t:=48) ?hr ?_;(case hd=>rfl);(case hg=>rfl);(case hr=>first|(go_simp;done)|(go_simp;rfl));intro gb102 hg w5 hbox hb;have n0_:=Aside0.mk (yP HBW.out hb);have n1_:=Aside0.mk (yP (by repeat (first|(with_reducible first|exact HB.out|apply yA|apply yB|apply yC)|exact HB.out)) hb);have n2_:=Aside0.mk (hbox);have n3_:=Aside0.mk ((by rw [hg];exact (yQ (by repeat (first|(with_reducible first|exact HBW.out|apply yA|apply yB|apply yC)|exact HBW.out))):w.heap.size≤gb102));have n4_:=Aside0.mk ((Nat.le_trans HW0.out (by rw [hg];exact (yQ (by repeat (first|(with_reducible first|exact HBW.out|apply yA|apply yB|apply yC)|exact HBW.out))):w.heap.size≤gb102):w0.heap.size≤gb102));clear HBW;clear HB;have HBW:=n0_;have HB:=n1_;have BK102:=n2_;have GW102:=n3_;have GE102:=n4_;clear n0_ n1_ n2_ n3_ n4_;clear hb hbox hg))
   go_ret
   exact ⟨_,rfl,(show IsS48 w0 _ gb102 (l0.take 2000) 0 from ⟨_,_,by (with_reducible repeat (first|refine yE ?_ _|refine yF ?_|refine yG ?_ _));exact BK102.out,GE102.out,HR101.out⟩),by repeat (first|(with_reducible first|exact HB.out|apply yA|apply yB|apply yC|refine yD ?_ GE102.out)|exact HB.out),by repeat (first|(with_reducible first|exact HBW.out|apply yA|apply yB|apply yC|refine yD ?_ GW102.out)|exact HBW.out)⟩
  ·rw [if_neg c3] at H
   exact absurd H (by simp)
 ·rw [if_neg c2] at H
  have c2b0:decide (2000<(l0.length:Int))=false:=decide_eq_false c2
  have c2b1:decide (2000<l0.length)=false:=decide_eq_false (by omega)
  clear c2
  simp only [Option.some.injEq,Prod.mk.injEq] at H
  obtain ⟨rfl,rfl⟩:=H
  go_enter Try.func8,Try.ntmps8
  go_wp2_with (first|((with_reducible refine gate_dst (N:=10) rfl ?_);refine box_event ?hg (N:=10) ?hd (cs:=#[.slice A0 l0.length c0,.int .i64 0]) (t:=48) ?hr ?_;(case hd=>rfl);(case hg=>rfl);(case hr=>first|(go_simp;done)|(go_simp;rfl));intro gb103 hg w6 hbox hb;have n0_:=Aside0.mk (yP HBW.out hb);have n1_:=Aside0.mk (yP (by repeat (first|(with_reducible first|exact HB.out|apply yA|apply yB|apply yC)|exact HB.out)) hb);have n2_:=Aside0.mk (hbox);have n3_:=Aside0.mk ((by rw [hg];exact (yQ (by repeat (first|(with_reducible first|exact HBW.out|apply yA|apply yB|apply yC)|exact HBW.out))):w.heap.size≤gb103));have n4_:=Aside0.mk ((Nat.le_trans HW0.out (by rw [hg];exact (yQ (by repeat (first|(with_reducible first|exact HBW.out|apply yA|apply yB|apply yC)|exact HBW.out))):w.heap.size≤gb103):w0.heap.size≤gb103));clear HBW;clear HB;have HBW:=n0_;have HB:=n1_;have BK103:=n2_;have GW103:=n3_;have GE103:=n4_;clear n0_ n1_ n2_ n3_ n4_;clear hb hbox hg))
  go_ret
  exact ⟨_,rfl,(show IsS48 w0 _ gb103 l0 0 from ⟨_,_,by (with_reducible repeat (first|refine yE ?_ _|refine yF ?_|refine yG ?_ _));exact BK103.out,GE103.out,HR0.out⟩),by repeat (first|(with_reducible first|exact HB.out|apply yA|apply yB|apply yC|refine yD ?_ GE103.out)|exact HB.out),by repeat (first|(with_reducible first|exact HBW.out|apply yA|apply yB|apply yC|refine yD ?_ GW103.out)|exact HBW.out)⟩

end Go.Proofs.Ytnmkinnfbbehnaa.P

namespace Go.Proofs.Ytnmkinnfbbehnaa.P
open Go.RowKit Go.Proofs.YtnmkinnfbbehnaaW.PrintWords Go.Proofs.YtnmkinnfbbehnaaW.PrintLast Go.Proofs.YtnmkinnfbbehnaaW.PrintMore
attribute [local go_sem] max2_int min2_int max_two min_two max_three min_three max_four min_four   -- for this text's walks alone
set_option linter.unusedVariables false
set_option linter.unusedSimpArgs false

/-! ### spec_l6Rd_pick: function 18 -/
def spec_l6Rd_pick.j0:Nat→Int→Bool→List Int→Int→Option (Int × Int)
 | 0,_,_,_,_=>none
 | k+1,x1,x24,x1000,x1001=>if x24=true then (some (0,x1001)) else (if (wrap64 (x1001 - 1))<(x1000.length:Int) then (if 0≤(wrap64 (x1001 - 1)) then (if x1=0 then (none) else (some (Int.tmod (wrap64 (rd x1000 (wrap64 (x1001 - 1)))) x1,x1001))) else (none)) else (if (x1000.length:Int)=0 then (none) else (if 0≤(Int.tmod (wrap64 (x1001 - 1)) (x1000.length:Int)) then (if (Int.tmod (wrap64 (x1001 - 1)) (x1000.length:Int))<(x1000.length:Int) then (if 0≤(Int.tmod (wrap64 ((wrap64 ((wrap64 (x1001 - 1)) * 7))+3)) (x1000.length:Int)) then (if (Int.tmod (wrap64 ((wrap64 ((wrap64 (x1001 - 1)) * 7))+3)) (x1000.length:Int))<(x1000.length:Int) then (if x1=0 then (none) else (some (Int.tmod (Go.bits .xor .i64 (wrap64 ((wrap64 ((wrap64 ((wrap64 ((wrap64 (rd x1000 (Int.tmod (wrap64 (x1001 - 1)) (x1000.length:Int)))) * 131))+(wrap64 ((wrap64 (rd x1000 (Int.tmod (wrap64 ((wrap64 ((wrap64 (x1001 - 1)) * 7))+3)) (x1000.length:Int)))) * 1117))))+(wrap64 ((wrap64 (x1001 - 1)) * 29))))+(wrap64 ((wrap64 (Int.tdiv (wrap64 (x1001 - 1)) (x1000.length:Int))) * 53)))) (wrap64 (Int.tdiv (wrap64 ((wrap64 ((wrap64 ((wrap64 ((wrap64 (rd x1000 (Int.tmod (wrap64 (x1001 - 1)) (x1000.length:Int)))) * 131))+(wrap64 ((wrap64 (rd x1000 (Int.tmod (wrap64 ((wrap64 ((wrap64 (x1001 - 1)) * 7))+3)) (x1000.length:Int)))) * 1117))))+(wrap64 ((wrap64 (x1001 - 1)) * 29))))+(wrap64 ((wrap64 (Int.tdiv (wrap64 (x1001 - 1)) (x1000.length:Int))) * 53)))) 64))) x1,x1001))) else (none)) else (none)) else (none)) else (none))))
def spec_l6Rd_pick.f (k:Nat) (s0_0:List Int) (s0_1:Int) (a1:Int):Option (Int × Int):=if a1<1 then (spec_l6Rd_pick.j0 k a1 true s0_0 (wrap64 (s0_1+1))) else (spec_l6Rd_pick.j0 k a1 ((s0_0.length:Int) == 0) s0_0 (wrap64 (s0_1+1)))
theorem spec_l6Rd_pick.mono_l:∀ k,(∀ y0 y1 y2 y3,LeO (spec_l6Rd_pick.j0 k y0 y1 y2 y3) (spec_l6Rd_pick.j0 (k+1) y0 y1 y2 y3))
 | 0=>fun _ _ _ _ r h=>by simp [spec_l6Rd_pick.j0] at h
 | k+1=>by
  have ih0:=spec_l6Rd_pick.mono_l k
  ·intro y0 y1 y2 y3
   unfold spec_l6Rd_pick.j0
   repeat' first
   | (with_reducible exact ih0 _ _ _ _)
   | (with_reducible exact LeO.refl _)
   | (with_reducible exact LeO.none _)
   | (with_reducible refine LeO.ite ?_ ?_)
   | (with_reducible refine LeO.bind ?_ (fun _=>?_))
   | exact ih0 _ _ _ _
   | exact LeO.none _
   | refine LeO.ite ?_ ?_
   | refine LeO.bind ?_ (fun _=>?_)
theorem spec_l6Rd_pick.mono:∀ a0 a1 a2 k,LeO (spec_l6Rd_pick.f k a0 a1 a2) (spec_l6Rd_pick.f (k+1) a0 a1 a2):=by
 intro a0 a1 a2 k
 have ih0:=spec_l6Rd_pick.mono_l k
 unfold spec_l6Rd_pick.f
 repeat' first
   | (with_reducible exact ih0 _ _ _ _)
   | (with_reducible exact LeO.refl _)
   | (with_reducible exact LeO.none _)
   | (with_reducible refine LeO.ite ?_ ?_)
   | (with_reducible refine LeO.bind ?_ (fun _=>?_))
   | exact ih0 _ _ _ _
   | exact LeO.none _
   | refine LeO.ite ?_ ?_
   | refine LeO.bind ?_ (fun _=>?_)
set_option maxHeartbeats 8000000 in
set_option maxRecDepth 100000 in
theorem spec_l6Rd_pick.calls (k:Nat) (g:Nat) (s0_0:List Int) (s0_1:Int) (a1:Int) (r1:Int) (r2:Int) (w0 w:World) (hI:IsS48 w0 w g s0_0 s0_1) (hB:Below w0.heap.size w0 w) (h:spec_l6Rd_pick.f k s0_0 s0_1 a1=some (r1,r2)) :
  Calls Try.prog 18 #[.pointer (some ⟨g,0,none⟩),.int .i64 a1] w fun e w'=>e=.returned (.int .i64 r1)∧IsS48 w0 w' g s0_0 r2∧Below w0.heap.size w0 w'∧KeepBut w w' g none:=by
 have HI0:=Aside0.mk hI
 have HK:=Aside0.mk (KeepBut.refl w g none)
 have HL:=Aside0.mk hB.size
 clear hI
 have HW0:=Aside0.mk hB.size
 have HB:=Aside0.mk hB
 clear hB
 have H:(if a1<1 then (spec_l6Rd_pick.j0 k a1 true s0_0 (wrap64 (s0_1+1))) else (spec_l6Rd_pick.j0 k a1 ((s0_0.length:Int) == 0) s0_0 (wrap64 (s0_1+1))))=some (r1,r2):=h
 clear h
 have HC3:=Aside0.mk H
 clear H
 obtain ⟨ASz4_0,cSz4_0,HGz4,hgz4,HSz4_0⟩:=HI0.out
 have hcz4_0:=cellS48_0 HGz4
 have hcz4_1:=cellS48_1 HGz4
 have hfz4_1:=blk_frozen HGz4 1
 clear HGz4 hgz4
 go_enter Try.func18,Try.ntmps18
 go_upto_region 2 with (fail)
 repeat (go_quiet (fail);go_upto_region 2 with (fail))
 go_cut [24] (fun v24 wc=>∃ (kq:Nat) (x24_2:Bool),v24=.bool x24_2∧Aside0 (spec_l6Rd_pick.j0 kq a1 x24_2 s0_0 (wrap64 (s0_1+1))=some (r1,r2))∧Aside0 (kq≤k)∧Aside0 (IsS48 w0 wc g s0_0 (wrap64 (s0_1+1)))∧Aside0 (KeepBut w wc g none)∧Aside0 (Below w0.heap.size w0 wc))
 case first =>
  have H:=HC3.out
  clear HC3
  by_cases c5:a1<1
  ·rw [if_pos c5] at H
   have c5b0:decide (a1<1)=true:=decide_eq_true c5
   clear c5
   (first|rw [c5b0]|(simp only [i64_w,i32_w];rw [c5b0])|skip)
   have H':=Aside0.mk H
   clear H
   go_wp2
   repeat (go_quiet (fail);try go_wp2)
   go_meet
   case rel=>exact ⟨_,(true),(by first|rfl|(simp;done)|(simp [*];done)|(simp [Int.tmod_eq_emod_of_nonneg];done)),H',⟨by first|omega|exact Nat.le_refl _⟩,⟨by repeat (first|(with_reducible first|exact HI0.out|apply IsS48.alloc|apply IsS48.drewN|apply IsS48.drew|apply IsS48.set_1)|exact HI0.out)⟩,⟨by repeat (first|(with_reducible first|exact HK.out|apply KeepBut.set_|apply keep_drewN|apply keep_drew|apply keep_alloc)|exact HK.out)⟩,⟨by repeat (first|(with_reducible first|exact HB.out|apply yA|apply yB|apply yC|refine yD ?_ (IsS48.ge HI0.out))|exact HB.out)⟩⟩
  ·rw [if_neg c5] at H
   have c5b0:decide (a1<1)=false:=decide_eq_false c5
   clear c5
   (first|rw [c5b0]|(simp only [i64_w,i32_w];rw [c5b0])|skip)
   have H':=Aside0.mk H
   clear H
   obtain ⟨ASz6_0,cSz6_0,HGz6,hgz6,HSz6_0⟩:=HI0.out
   have hcz6_0:=cellS48_0 HGz6
   have hcz6_1:=cellS48_1 HGz6
   have hfz6_1:=blk_frozen HGz6 1
   clear HGz6 hgz6
   go_wp2
   repeat (go_quiet (fail);try go_wp2)
   go_meet
   case rel=>exact ⟨_,(((s0_0.length:Int) == 0)),(by first|rfl|(simp;done)|(simp [*];done)|(simp [Int.tmod_eq_emod_of_nonneg];done)),H',⟨by first|omega|exact Nat.le_refl _⟩,⟨by repeat (first|(with_reducible first|exact HI0.out|apply IsS48.alloc|apply IsS48.drewN|apply IsS48.drew|apply IsS48.set_1)|exact HI0.out)⟩,⟨by repeat (first|(with_reducible first|exact HK.out|apply KeepBut.set_|apply keep_drewN|apply keep_drew|apply keep_alloc)|exact HK.out)⟩,⟨by repeat (first|(with_reducible first|exact HB.out|apply yA|apply yB|apply yC|refine yD ?_ (IsS48.ge HI0.out))|exact HB.out)⟩⟩
 case rest =>
  clear HC3
  try clear c1
  try clear p2
  try clear c5
  try clear c5b0
  try clear p6
  try clear hcz4_0
  try clear hcz4_1
  try clear hcz6_0
  try clear hcz6_1
  try clear hfz4_1
  try clear hfz6_1
  obtain ⟨kq,x24_2,rfl,HA,HJ2,HI0,HK,HB⟩:=hcut
  cases kq with
  | zero=>exact absurd HA.out (by simp [spec_l6Rd_pick.j0])
  | succ kj2 =>
   have H:=HA.out
   clear HA
   simp only [spec_l6Rd_pick.j0] at H
   by_cases c7:x24_2=true
   ·subst c7
    have H1:(some (0,(wrap64 (s0_1+1))))=some (r1,r2):=by rw [if_pos rfl] at H;exact H
    clear H
    have H:=H1
    clear H1
    simp only [Option.some.injEq,Prod.mk.injEq] at H
    obtain ⟨rfl,rfl⟩:=H
    go_wp2
    repeat (go_quiet (fail);try go_wp2)
    go_ret
    exact ⟨by first|rfl|(simp [errW_none,errW_some]<;>rfl)|(simp [*,errW_none,errW_some]<;>rfl)|(simp [errW_none,errW_some];exact ⟨rfl,rfl⟩),by repeat (first|(with_reducible first|exact HI0.out|apply IsS48.alloc|apply IsS48.drewN|apply IsS48.drew|apply IsS48.set_1)|exact HI0.out),by repeat (first|(with_reducible first|exact HB.out|apply yA|apply yB|apply yC|refine yD ?_ (IsS48.ge HI0.out))|exact HB.out),by repeat (first|(with_reducible first|exact HK.out|apply KeepBut.set_|apply keep_drewN|apply keep_drew|apply keep_alloc)|exact HK.out)⟩
   ·replace c7:=Bool.eq_false_iff.mpr c7
    subst c7
    have H1:(if (wrap64 ((wrap64 (s0_1+1)) - 1))<(s0_0.length:Int) then (if 0≤(wrap64 ((wrap64 (s0_1+1)) - 1)) then (if a1=0 then (none) else (some (Int.tmod (wrap64 (rd s0_0 (wrap64 ((wrap64 (s0_1+1)) - 1)))) a1,(wrap64 (s0_1+1))))) else (none)) else (if (s0_0.length:Int)=0 then (none) else (if 0≤(Int.tmod (wrap64 ((wrap64 (s0_1+1)) - 1)) (s0_0.length:Int)) then (if (Int.tmod (wrap64 ((wrap64 (s0_1+1)) - 1)) (s0_0.length:Int))<(s0_0.length:Int) then (if 0≤(Int.tmod (wrap64 ((wrap64 ((wrap64 ((wrap64 (s0_1+1)) - 1)) * 7))+3)) (s0_0.length:Int)) then (if (Int.tmod (wrap64 ((wrap64 ((wrap64 ((wrap64 (s0_1+1)) - 1)) * 7))+3)) (s0_0.length:Int))<(s0_0.length:Int) then (if a1=0 then (none) else (some (Int.tmod (Go.bits .xor .i64 (wrap64 ((wrap64 ((wrap64 ((wrap64 ((wrap64 (rd s0_0 (Int.tmod (wrap64 ((wrap64 (s0_1+1)) - 1)) (s0_0.length:Int)))) * 131))+(wrap64 ((wrap64 (rd s0_0 (Int.tmod (wrap64 ((wrap64 ((wrap64 ((wrap64 (s0_1+1)) - 1)) * 7))+3)) (s0_0.length:Int)))) * 1117))))+(wrap64 ((wrap64 ((wrap64 (s0_1+1)) - 1)) * 29))))+(wrap64 ((wrap64 (Int.tdiv (wrap64 ((wrap64 (s0_1+1)) - 1)) (s0_0.length:Int))) * 53)))) (wrap64 (Int.tdiv (wrap64 ((wrap64 ((wrap64 ((wrap64 ((wrap64 (rd s0_0 (Int.tmod (wrap64 ((wrap64 (s0_1+1)) - 1)) (s0_0.length:Int)))) * 131))+(wrap64 ((wrap64 (rd s0_0 (Int.tmod (wrap64 ((wrap64 ((wrap64 ((wrap64 (s0_1+1)) - 1)) * 7))+3)) (s0_0.length:Int)))) * 1117))))+(wrap64 ((wrap64 ((wrap64 (s0_1+1)) - 1)) * 29))))+(wrap64 ((wrap64 (Int.tdiv (wrap64 ((wrap64 (s0_1+1)) - 1)) (s0_0.length:Int))) * 53)))) 64))) a1,(wrap64 (s0_1+1))))) else (none)) else (none)) else (none)) else (none))))=some (r1,r2):=by rw [if_neg (show ¬ (false=true) by decide)] at H;exact H
    clear H
    have H:=H1
    clear H1
    by_cases c8:(wrap64 ((wrap64 (s0_1+1)) - 1))<(s0_0.length:Int)
    ·rw [if_pos c8] at H
     have c8b0:decide ((wrap64 ((wrap64 (s0_1+1)) - 1))<(s0_0.length:Int))=true:=decide_eq_true c8
     clear c8
     obtain ⟨ji9,hji9⟩:∃ j_:Int,(wrap64 ((wrap64 (s0_1+1)) - 1))=j_:=⟨_,rfl⟩
     replace H:(if 0≤(ji9) then (if a1=0 then (none) else (some (Int.tmod (wrap64 (rd s0_0 (ji9))) a1,(wrap64 (s0_1+1))))) else (none))=some (r1,r2):=by first|(rw [hji9] at H;exact H)|(simp only [hji9] at H ⊢;exact H)
     (try rw [hji9] at c8b0)
     have hji9w:(IntKind.i64.wrap ((wrap64 (s0_1+1)) - 1))=ji9:=(i64_w _).trans hji9
     by_cases c10:0≤(ji9)
     ·rw [if_pos c10] at H
      have c10b0:decide (0≤(ji9))=true:=decide_eq_true c10
      clear c10
      by_cases c11:a1=0
      ·rw [if_pos c11] at H
       exact absurd H (by simp)
      ·rw [if_neg c11] at H
       have c11b0:(a1 == 0)=false:=beq_eq_false_iff_ne.mpr c11
       have c11b1:(a1 != 0)=true:=bne_iff_ne.mpr c11
       simp only [Option.some.injEq,Prod.mk.injEq] at H
       obtain ⟨rfl,rfl⟩:=H
       obtain ⟨ASz12_0,cSz12_0,HGz12,hgz12,HSz12_0⟩:=HI0.out
       have hcz12_0:=cellS48_0 HGz12
       have hcz12_1:=cellS48_1 HGz12
       have hfz12_1:=blk_frozen HGz12 1
       clear HGz12 hgz12
       have p104:0≤((ji9):Int):=of_decide_eq_true (by first|(with_reducible assumption)|assumption)
       have q104:(ji9)<(s0_0.length:Int):=of_decide_eq_true (by first|(with_reducible assumption)|assumption)
       obtain ⟨ad104,e104,hx104_0⟩:=Kd.at_int HSz12_0 (ji9) p104 q104
       cases e104
       replace hx104_0:=pw_cell_below HB.out hx104_0
       replace p104:=eq_true p104
       replace q104:=eq_true q104
       go_wp2
       repeat (go_quiet (fail);try go_wp2)
       go_ret
       exact ⟨by first|rfl|(simp [errW_none,errW_some]<;>rfl)|(simp only [← hji9];first|rfl|(simp [errW_none,errW_some]<;>rfl))|(simp [*,errW_none,errW_some]<;>rfl),by repeat (first|(with_reducible first|exact HI0.out|apply IsS48.alloc|apply IsS48.drewN|apply IsS48.drew|apply IsS48.set_1)|exact HI0.out),by repeat (first|(with_reducible first|exact HB.out|apply yA|apply yB|apply yC|refine yD ?_ (IsS48.ge HI0.out))|exact HB.out),by repeat (first|(with_reducible first|exact HK.out|apply KeepBut.set_|apply keep_drewN|apply keep_drew|apply keep_alloc)|exact HK.out)⟩
     ·rw [if_neg c10] at H
      exact absurd H (by simp)
    ·rw [if_neg c8] at H
     have c8b0:decide ((wrap64 ((wrap64 (s0_1+1)) - 1))<(s0_0.length:Int))=false:=decide_eq_false c8
     clear c8
     by_cases c13:(s0_0.length:Int)=0
     ·rw [if_pos c13] at H
      exact absurd H (by simp)
     ·rw [if_neg c13] at H
      have c13b0:((s0_0.length:Int) == 0)=false:=beq_eq_false_iff_ne.mpr c13
      have c13b1:((s0_0.length:Int) != 0)=true:=bne_iff_ne.mpr c13
      have c13b2:¬ (s0_0=[]):=fun h_=>c13 (by rw [h_];rfl)
      obtain ⟨ji14,hji14⟩:∃ j_:Int,(Int.tmod (wrap64 ((wrap64 (s0_1+1)) - 1)) (s0_0.length:Int))=j_:=⟨_,rfl⟩
      replace H:(if 0≤(ji14) then (if (ji14)<(s0_0.length:Int) then (if 0≤(Int.tmod (wrap64 ((wrap64 ((wrap64 ((wrap64 (s0_1+1)) - 1)) * 7))+3)) (s0_0.length:Int)) then (if (Int.tmod (wrap64 ((wrap64 ((wrap64 ((wrap64 (s0_1+1)) - 1)) * 7))+3)) (s0_0.length:Int))<(s0_0.length:Int) then (if a1=0 then (none) else (some (Int.tmod (Go.bits .xor .i64 (wrap64 ((wrap64 ((wrap64 ((wrap64 ((wrap64 (rd s0_0 (ji14))) * 131))+(wrap64 ((wrap64 (rd s0_0 (Int.tmod (wrap64 ((wrap64 ((wrap64 ((wrap64 (s0_1+1)) - 1)) * 7))+3)) (s0_0.length:Int)))) * 1117))))+(wrap64 ((wrap64 ((wrap64 (s0_1+1)) - 1)) * 29))))+(wrap64 ((wrap64 (Int.tdiv (wrap64 ((wrap64 (s0_1+1)) - 1)) (s0_0.length:Int))) * 53)))) (wrap64 (Int.tdiv (wrap64 ((wrap64 ((wrap64 ((wrap64 ((wrap64 (rd s0_0 (ji14))) * 131))+(wrap64 ((wrap64 (rd s0_0 (Int.tmod (wrap64 ((wrap64 ((wrap64 ((wrap64 (s0_1+1)) - 1)) * 7))+3)) (s0_0.length:Int)))) * 1117))))+(wrap64 ((wrap64 ((wrap64 (s0_1+1)) - 1)) * 29))))+(wrap64 ((wrap64 (Int.tdiv (wrap64 ((wrap64 (s0_1+1)) - 1)) (s0_0.length:Int))) * 53)))) 64))) a1,(wrap64 (s0_1+1))))) else (none)) else (none)) else (none)) else (none))=some (r1,r2):=by first|(rw [hji14] at H;exact H)|(simp only [hji14] at H ⊢;exact H)
      by_cases c15:0≤(ji14)
      ·rw [if_pos c15] at H
       have c15b0:decide (0≤(ji14))=true:=decide_eq_true c15
       clear c15
       by_cases c16:(ji14)<(s0_0.length:Int)
       ·rw [if_pos c16] at H
        have c16b0:decide ((ji14)<(s0_0.length:Int))=true:=decide_eq_true c16
        clear c16
        obtain ⟨ji17,hji17⟩:∃ j_:Int,(Int.tmod (wrap64 ((wrap64 ((wrap64 ((wrap64 (s0_1+1)) - 1)) * 7))+3)) (s0_0.length:Int))=j_:=⟨_,rfl⟩
        replace H:(if 0≤(ji17) then (if (ji17)<(s0_0.length:Int) then (if a1=0 then (none) else (some (Int.tmod (Go.bits .xor .i64 (wrap64 ((wrap64 ((wrap64 ((wrap64 ((wrap64 (rd s0_0 (ji14))) * 131))+(wrap64 ((wrap64 (rd s0_0 (ji17))) * 1117))))+(wrap64 ((wrap64 ((wrap64 (s0_1+1)) - 1)) * 29))))+(wrap64 ((wrap64 (Int.tdiv (wrap64 ((wrap64 (s0_1+1)) - 1)) (s0_0.length:Int))) * 53)))) (wrap64 (Int.tdiv (wrap64 ((wrap64 ((wrap64 ((wrap64 ((wrap64 (rd s0_0 (ji14))) * 131))+(wrap64 ((wrap64 (rd s0_0 (ji17))) * 1117))))+(wrap64 ((wrap64 ((wrap64 (s0_1+1)) - 1)) * 29))))+(wrap64 ((wrap64 (Int.tdiv (wrap64 ((wrap64 (s0_1+1)) - 1)) (s0_0.length:Int))) * 53)))) 64))) a1,(wrap64 (s0_1+1))))) else (none)) else (none))=some (r1,r2):=by first|(rw [hji17] at H;exact H)|(simp only [hji17] at H ⊢;exact H)
        by_cases c18:0≤(ji17)
        ·rw [if_pos c18] at H
         have c18b0:decide (0≤(ji17))=true:=decide_eq_true c18
         clear c18
         by_cases c19:(ji17)<(s0_0.length:Int)
         ·rw [if_pos c19] at H
          have c19b0:decide ((ji17)<(s0_0.length:Int))=true:=decide_eq_true c19
          clear c19
          by_cases c20:a1=0
          ·rw [if_pos c20] at H
           exact absurd H (by simp)
          ·rw [if_neg c20] at H
           have c20b0:(a1 == 0)=false:=beq_eq_false_iff_ne.mpr c20
           have c20b1:(a1 != 0)=true:=bne_iff_ne.mpr c20
           simp only [Option.some.injEq,Prod.mk.injEq] at H
           obtain ⟨rfl,rfl⟩:=H
           obtain ⟨ASz21_0,cSz21_0,HGz21,hgz21,HSz21_0⟩:=HI0.out
           have hcz21_0:=cellS48_0 HGz21
           have hcz21_1:=cellS48_1 HGz21
           have hfz21_1:=blk_frozen HGz21 1
           clear HGz21 hgz21
           have p105:0≤((ji14):Int):=of_decide_eq_true (by first|(with_reducible assumption)|assumption)
           have q105:(ji14)<(s0_0.length:Int):=of_decide_eq_true (by first|(with_reducible assumption)|assumption)
           obtain ⟨ad105,e105,hx105_0⟩:=Kd.at_int HSz21_0 (ji14) p105 q105
           cases e105
           replace hx105_0:=pw_cell_below HB.out hx105_0
           replace p105:=eq_true p105
           replace q105:=eq_true q105
           have p106:0≤((ji17):Int):=of_decide_eq_true (by first|(with_reducible assumption)|assumption)
           have q106:(ji17)<(s0_0.length:Int):=of_decide_eq_true (by first|(with_reducible assumption)|assumption)
           obtain ⟨ad106,e106,hx106_0⟩:=Kd.at_int HSz21_0 (ji17) p106 q106
           obtain rfl:ad105=ad106:=(by injection e106)
           replace hx106_0:=pw_cell_below HB.out hx106_0
           replace p106:=eq_true p106
           replace q106:=eq_true q106
           go_wp2
           repeat (go_quiet (fail);try go_wp2)
           go_ret
           exact ⟨by first|rfl|(simp [errW_none,errW_some]<;>rfl)|(simp only [← hji14,← hji17];first|rfl|(simp [errW_none,errW_some]<;>rfl))|(simp [*,errW_none,errW_some]<;>rfl),by repeat (first|(with_reducible first|exact HI0.out|apply IsS48.alloc|apply IsS48.drewN|apply IsS48.drew|apply IsS48.set_1)|exact HI0.out),by repeat (first|(with_reducible first|exact HB.out|apply yA|apply yB|apply yC|refine yD ?_ (IsS48.ge HI0.out))|exact HB.out),by repeat (first|(with_reducible first|exact HK.out|apply KeepBut.set_|apply keep_drewN|apply keep_drew|apply keep_alloc)|exact HK.out)⟩
         ·rw [if_neg c19] at H
          exact absurd H (by simp)
        ·rw [if_neg c18] at H
         exact absurd H (by simp)
       ·rw [if_neg c16] at H
        exact absurd H (by simp)
      ·rw [if_neg c15] at H
       exact absurd H (by simp)

end Go.Proofs.Ytnmkinnfbbehnaa.P

namespace Go.Proofs.Ytnmkinnfbbehnaa.P
open Go.RowKit Go.Proofs.YtnmkinnfbbehnaaW.PrintWords Go.Proofs.YtnmkinnfbbehnaaW.PrintLast Go.Proofs.YtnmkinnfbbehnaaW.PrintMore
attribute [local go_sem] max2_int min2_int max_two min_two max_three min_three max_four min_four   -- for this text's walks alone
set_option linter.unusedVariables false
set_option linter.unusedSimpArgs false

/-! ### spec_l91Signs: function 17 -/
def spec_l91Signs.l0:Nat→List Int→Int→List Int→Int→Option (ByteArray × Int)
 | 0,_,_,_,_=>none
 | k+1,x7,x8,x1000,x1001=>if x8 > 0 then ((spec_l6Rd_pick.f k x1000 x1001 2).bind fun bt112=>(if x7.length<140737488355328 then (spec_l91Signs.l0 k (x7++[(wrap64 (48+bt112.1)) % 256]) (wrap64 (x8 - 1)) x1000 bt112.2) else (none))) else (some (strOfNums x7,x1001))
def spec_l91Signs.f (k:Nat) (s0_0:List Int) (s0_1:Int) (a1:Int) (a2:Int):Option (ByteArray × Int):=(spec_l6Rd_pick.f k s0_0 s0_1 a2).bind fun bt110=>(spec_l91Signs.l0 k (([]:List Int)) (wrap64 (a1+bt110.1)) s0_0 bt110.2)
theorem spec_l91Signs.mono_l:∀ k,(∀ y0 y1 y2 y3,LeO (spec_l91Signs.l0 k y0 y1 y2 y3) (spec_l91Signs.l0 (k+1) y0 y1 y2 y3))
 | 0=>fun _ _ _ _ r h=>by simp [spec_l91Signs.l0] at h
 | k+1=>by
  have ih0:=spec_l91Signs.mono_l k
  ·intro y0 y1 y2 y3
   unfold spec_l91Signs.l0
   repeat' first
   | (with_reducible exact ih0 _ _ _ _)
   | (with_reducible exact spec_l6Rd_pick.mono _ _ _ _)
   | (with_reducible exact LeO.refl _)
   | (with_reducible exact LeO.none _)
   | (with_reducible refine LeO.ite ?_ ?_)
   | (with_reducible refine LeO.bind ?_ (fun _=>?_))
   | exact ih0 _ _ _ _
   | exact spec_l6Rd_pick.mono _ _ _ _
   | exact LeO.none _
   | refine LeO.ite ?_ ?_
   | refine LeO.bind ?_ (fun _=>?_)
theorem spec_l91Signs.mono:∀ a0 a1 a2 a3 k,LeO (spec_l91Signs.f k a0 a1 a2 a3) (spec_l91Signs.f (k+1) a0 a1 a2 a3):=by
 intro a0 a1 a2 a3 k
 have ih0:=spec_l91Signs.mono_l k
 unfold spec_l91Signs.f
 repeat' first
   | (with_reducible exact ih0 _ _ _ _)
   | (with_reducible exact spec_l6Rd_pick.mono _ _ _ _)
   | (with_reducible exact LeO.refl _)
   | (with_reducible exact LeO.none _)
   | (with_reducible refine LeO.ite ?_ ?_)
   | (with_reducible refine LeO.bind ?_ (fun _=>?_))
   | exact ih0 _ _ _ _
   | exact spec_l6Rd_pick.mono _ _ _ _
   | exact LeO.none _
   | refine LeO.ite ?_ ?_
   | refine LeO.bind ?_ (fun _=>?_)
set_option maxHeartbeats 8000000 in
set_option maxRecDepth 100000 in
theorem spec_l91Signs.calls (k:Nat) (g:Nat) (s0_0:List Int) (s0_1:Int) (a1:Int) (a2:Int) (r1:ByteArray) (r2:Int) (w0 w:World) (hI:IsS48 w0 w g s0_0 s0_1) (hB:Below w0.heap.size w0 w) (h:spec_l91Signs.f k s0_0 s0_1 a1 a2=some (r1,r2)) :
  Calls Try.prog 17 #[.pointer (some ⟨g,0,none⟩),.int .i64 a1,.int .i64 a2] w fun e w'=>e=.returned (.string r1)∧IsS48 w0 w' g s0_0 r2∧Below w0.heap.size w0 w'∧KeepBut w w' g none:=by
 have HI0:=Aside0.mk hI
 have HK:=Aside0.mk (KeepBut.refl w g none)
 have HL:=Aside0.mk hB.size
 clear hI
 have HW0:=Aside0.mk hB.size
 have HB:=Aside0.mk hB
 clear hB
 have H:((spec_l6Rd_pick.f k s0_0 s0_1 a2).bind fun bt110=>(spec_l91Signs.l0 k (([]:List Int)) (wrap64 (a1+bt110.1)) s0_0 bt110.2))=some (r1,r2):=h
 clear h
 obtain ⟨y107,hy107⟩:∃ y_:List Int,y_=(([]:List Int)):=⟨_,rfl⟩
 replace H:((spec_l6Rd_pick.f k s0_0 s0_1 a2).bind fun bt110=>(spec_l91Signs.l0 k y107 (wrap64 (a1+bt110.1)) s0_0 bt110.2))=some (r1,r2):=by first|(rw [hy107];with_reducible exact H)|(have H2_:=(Option.bind_some _ _).symm.trans H;rw [hy107];with_reducible exact H2_)|(have H2_:=(Option.bind_some _ _).symm.trans H;with_reducible exact H2_)|with_reducible exact H|(rw [hy107];exact H)|exact H
 have Ny107:=Aside0.mk hy107
 clear hy107
 replace H:=Option.bind_eq_some_iff.mp H
 obtain ⟨⟨t110,t111⟩,A40,H⟩:=H
 replace H:(spec_l91Signs.l0 k y107 (wrap64 (a1+t110)) s0_0 t111)=some (r1,r2):=H
 have A4:=Aside0.mk A40
 clear A40
 have H':=Aside0.mk H
 clear H
 go_enter Try.func17,Try.ntmps17
 go_wp2_with (first|((with_reducible refine gate_dst (N:=9) rfl ?_);refine Kd.R_lit (Kd.int .u8) _ 5 ?hg (N:=9) ?hd (xs:=([]:List Int)) (inner:=[]) (ok:=fun _=>True) (okp:=fun _=>True) ?hr ?hp (fun _ hk=>hk) trivial (Below.refl _ _) (Nat.le_refl _) (by simp) ?_;(case hd=>rfl);(case hg=>rfl);(case hr=>first|(go_simp;done)|(go_simp;rfl));(case hp=>exact (Reps.none _ _));intro v108 w5 ho6 hb hg_ hnew_;clear hg_ hnew_;(first|rw [← Ny107.out] at ho6|(simp only [Int.reduceToNat] at ho6;rw [← Ny107.out] at ho6));have n0_:=Aside0.mk (Kd.R_lower ho6 (keep_size (w:=w) (g:=g) (row:=none) (by repeat (first|(with_reducible first|exact HK.out|apply KeepBut.set_|apply keep_drewN|apply keep_drew|apply keep_alloc)|exact HK.out))));have n1_:=Aside0.mk (IsS48.below (by repeat (first|(with_reducible first|exact HI0.out|apply IsS48.alloc|apply IsS48.drewN|apply IsS48.drew|apply IsS48.set_1)|exact HI0.out)) hb);have n2_:=Aside0.mk (KeepBut.trans (by repeat (first|(with_reducible first|exact HK.out|apply KeepBut.set_|apply keep_drewN|apply keep_drew|apply keep_alloc)|exact HK.out)) (KeepBut.of_below hb g none) (.inl rfl));have n3_:=Aside0.mk (yP (by repeat (first|(with_reducible first|exact HB.out|apply yA|apply yB|apply yC|refine yD ?_ (IsS48.ge HI0.out))|exact HB.out)) hb);clear HI0;clear HK;clear HB;have HO109:=n0_;have HI0:=n1_;have HK:=n2_;have HB:=n3_;clear n0_ n1_ n2_ n3_;clear hb ho6)|((with_reducible refine gate_callee (f:=18) rfl ?_);refine goesL_ (some 13) rfl rfl Try.func18 (by kernel_rfl) rfl #[.pointer (some ⟨g,0,none⟩),.int .i64 a2] rfl (by (try simp only [List.map_toArray,List.map_cons,List.map_nil]);first|done|rfl|(simp only [List.length_drop,List.length_take];rfl)) ?_;(with_reducible refine (spec_l6Rd_pick.calls k g s0_0 s0_1 a2 t110 t111 w0 _ ?side1 ?side2 A4.out).mono ?_);(case side1=>repeat (first|(with_reducible first|exact HI0.out|apply IsS48.alloc|apply IsS48.drewN|apply IsS48.drew|apply IsS48.set_1)|exact HI0.out));(case side2=>repeat (first|(with_reducible first|exact HB.out|apply yA|apply yB|apply yC|refine yD ?_ (IsS48.ge HI0.out))|exact HB.out));rintro e w7 ⟨rfl,hi,hb,hk⟩;refine ⟨_,rfl,?_⟩;have n0_:=Aside0.mk (Kd.R_mono (Kd.R_keep (IsS48.apart (show IsS48 w0 _ g s0_0 s0_1 from by repeat (first|(with_reducible first|exact HI0.out|apply IsS48.alloc|apply IsS48.drewN|apply IsS48.drew|apply IsS48.set_1)|exact HI0.out)) (by (with_reducible repeat (first|apply yH|apply yI|apply yJ));exact HO109.out) (by decide)) hk (fun _ h=>h.2)) (fun _ h=>h.1));have n1_:=Aside0.mk (KeepBut.trans (by repeat (first|(with_reducible first|exact HK.out|apply KeepBut.set_|apply keep_drewN|apply keep_drew|apply keep_alloc)|exact HK.out)) hk (.inl rfl));have n2_:=Aside0.mk (hb);have n3_:=Aside0.mk (hi);clear HO109;clear HK;clear HB;clear HI0;have HO109:=n0_;have HK:=n1_;have HB:=n2_;have HI0:=n3_;clear n0_ n1_ n2_ n3_;(try clear hb);(try clear hb2);(try clear hk);(try clear hi)))
 go_loopg [7,8] k (fun kq v7 v8 w'=>∃ (x7_1:List Int) (x8_1:Int) (x1001_1:Int),v8=.int .i64 x8_1∧Aside0 (spec_l91Signs.l0 kq x7_1 x8_1 s0_0 x1001_1=some (r1,r2))∧Aside0 (kq≤k)∧Aside0 (Kd.R (Kd.int .u8) 5 w' w.heap.size (fun _=>True) v7 x7_1)∧Aside0 (IsS48 w0 w' g s0_0 x1001_1)∧Aside0 (KeepBut w w' g none)∧Aside0 (Below w0.heap.size w0 w'))
 case atStart=>exact ⟨(y107),(wrap64 (a1+t110)),(t111),(by first|rfl|(simp;done)|(simp [*];done)|(simp [Int.tmod_eq_emod_of_nonneg];done)),H',⟨Nat.le_refl _⟩,⟨by (with_reducible repeat (first|apply yH|apply yI|apply yJ));exact HO109.out⟩,⟨by repeat (first|(with_reducible first|exact HI0.out|apply IsS48.alloc|apply IsS48.drewN|apply IsS48.drew|apply IsS48.set_1)|exact HI0.out)⟩,⟨by repeat (first|(with_reducible first|exact HK.out|apply KeepBut.set_|apply keep_drewN|apply keep_drew|apply keep_alloc)|exact HK.out)⟩,⟨by repeat (first|(with_reducible first|exact HB.out|apply yA|apply yB|apply yC|refine yD ?_ (IsS48.ge HI0.out))|exact HB.out)⟩⟩
 case round =>
  clear H'
  try clear c1
  try clear p2
  try clear p6
  obtain ⟨x7_1,x8_1,x1001_1,rfl,HA,HK1,HO_7,HI0,HK,HB⟩:=hrel
  cases gk with
  | zero=>exact absurd HA.out (by simp [spec_l91Signs.l0])
  | succ k1 =>
   have H:=HA.out
   clear HA
   simp only [spec_l91Signs.l0] at H
   by_cases c8:x8_1 > 0
   ·rw [if_pos c8] at H
    have c8b0:decide (0<x8_1)=true:=decide_eq_true c8
    clear c8
    replace H:=Option.bind_eq_some_iff.mp H
    obtain ⟨⟨t112,t113⟩,A90,H⟩:=H
    replace H:(if x7_1.length<140737488355328 then (spec_l91Signs.l0 k1 (x7_1++[(wrap64 (48+t112)) % 256]) (wrap64 (x8_1 - 1)) s0_0 t113) else (none))=some (r1,r2):=H
    have A9:=Aside0.mk A90
    clear A90
    by_cases c10:x7_1.length<140737488355328
    ·rw [if_pos c10] at H
     have LMc10:=Aside0.mk c10
     clear c10
     obtain ⟨y114,hy114⟩:∃ y_:List Int,y_=(x7_1++[(wrap64 (48+t112)) % 256]):=⟨_,rfl⟩
     replace H:(spec_l91Signs.l0 k1 y114 (wrap64 (x8_1 - 1)) s0_0 t113)=some (r1,r2):=by first|(rw [hy114];with_reducible exact H)|(have H2_:=(Option.bind_some _ _).symm.trans H;rw [hy114];with_reducible exact H2_)|(have H2_:=(Option.bind_some _ _).symm.trans H;with_reducible exact H2_)|with_reducible exact H|(rw [hy114];exact H)|exact H
     have Ny114:=Aside0.mk hy114
     clear hy114
     have H':=Aside0.mk H
     clear H
     go_wp2_with (first|((with_reducible refine gate_callee (f:=18) rfl ?_);refine goesL_ (some 21) rfl rfl Try.func18 (by kernel_rfl) rfl #[.pointer (some ⟨g,0,none⟩),.int .i64 2] rfl (by (try simp only [List.map_toArray,List.map_cons,List.map_nil]);first|done|rfl|(simp only [List.length_drop,List.length_take];rfl)) ?_;(with_reducible refine (spec_l6Rd_pick.calls k1 g s0_0 x1001_1 2 t112 t113 w0 _ ?side1 ?side2 A9.out).mono ?_);(case side1=>repeat (first|(with_reducible first|exact HI0.out|apply IsS48.alloc|apply IsS48.drewN|apply IsS48.drew|apply IsS48.set_1)|exact HI0.out));(case side2=>repeat (first|(with_reducible first|exact HB.out|apply yA|apply yB|apply yC|refine yD ?_ (IsS48.ge HI0.out))|exact HB.out));rintro e w11 ⟨rfl,hi,hb,hk⟩;refine ⟨_,rfl,?_⟩;have n0_:=Aside0.mk (Kd.R_mono (Kd.R_keep (IsS48.apart (show IsS48 w0 _ g s0_0 x1001_1 from by repeat (first|(with_reducible first|exact HI0.out|apply IsS48.alloc|apply IsS48.drewN|apply IsS48.drew|apply IsS48.set_1)|exact HI0.out)) (by (with_reducible repeat (first|apply yH|apply yI|apply yJ));exact HO_7.out) (by decide)) hk (fun _ h=>h.2)) (fun _ h=>h.1));have n1_:=Aside0.mk (KeepBut.trans (by repeat (first|(with_reducible first|exact HK.out|apply KeepBut.set_|apply keep_drewN|apply keep_drew|apply keep_alloc)|exact HK.out)) hk (.inl rfl));have n2_:=Aside0.mk (hb);have n3_:=Aside0.mk (hi);clear HO_7;clear HK;clear HB;clear HI0;have HO_7:=n0_;have HK:=n1_;have HB:=n2_;have HI0:=n3_;clear n0_ n1_ n2_ n3_;(try clear hb);(try clear hb2);(try clear hk);(try clear hi))|((with_reducible refine gate_builtin (b:=.append) (xs:=#[.tmp 19,.tmp 24]) rfl ?_);at_builtin;refine Kd.R_append (Kd.int .u8) w.heap.size rfl (.tmp 19) (.tmp 24) 22 5 (.int .u8 0) 1 rfl Try.underlying22 info5 rfl (by decide) (by omega) u7 x7_1 ((wrap64 (48+t112)) % 256) [.int .u8 ((wrap64 (48+t112)) % 256)] (fun _=>True) (fun _=>False) rfl rfl ?aP (fun _ hk=>hk.elim) ?aF ?aO (Below.refl _ _) ?aS ?aL ?_;(case aP=>exact rfl);(case aF=>exact (fun _ _=>trivial));(case aO=>exact (by (with_reducible repeat (first|apply yH|apply yI|apply yJ));exact HO_7.out));(case aS=>exact (keep_size (w:=w) (g:=g) (row:=none) (by repeat (first|(with_reducible first|exact HK.out|apply KeepBut.set_|apply keep_drewN|apply keep_drew|apply keep_alloc)|exact HK.out))));(case aL=>have:=LMc10.out;omega);intro v115 w12 ho hb hg hat;rw [← Ny114.out] at ho;have n0_:=Aside0.mk (IsS48.grown (by repeat (first|(with_reducible first|exact HI0.out|apply IsS48.alloc|apply IsS48.drewN|apply IsS48.drew|apply IsS48.set_1)|exact HI0.out)) hg (IsS48.own_ne HI0.out HO_7.out (by decide)));have n1_:=Aside0.mk (below_weaken (by repeat (first|(with_reducible first|exact HB.out|apply yA|apply yB|apply yC|refine yD ?_ (IsS48.ge HI0.out))|exact HB.out)) HL.out hb);have n2_:=Aside0.mk (KeepBut.trans (by repeat (first|(with_reducible first|exact HK.out|apply KeepBut.set_|apply keep_drewN|apply keep_drew|apply keep_alloc)|exact HK.out)) (KeepBut.of_grown hg g) (Kd.R_base2 HO_7.out));have n3_:=Aside0.mk (ho);clear HI0;clear HB;clear HK;clear HO_7;have HI0:=n0_;have HB:=n1_;have HK:=n2_;have HO116:=n3_;clear n0_ n1_ n2_ n3_;clear ho hb hg hat))
     go_roundg k1
     case measure=>have:=HK1.out;omega
     case rel=>exact ⟨(y114),(wrap64 (x8_1 - 1)),(t113),(by first|rfl|(simp;done)|(simp [*];done)|(simp [Int.tmod_eq_emod_of_nonneg];done)),H',⟨by have:=HK1.out;omega⟩,⟨by (with_reducible repeat (first|apply yH|apply yI|apply yJ));exact HO116.out⟩,⟨by repeat (first|(with_reducible first|exact HI0.out|apply IsS48.alloc|apply IsS48.drewN|apply IsS48.drew|apply IsS48.set_1)|exact HI0.out)⟩,⟨by repeat (first|(with_reducible first|exact HK.out|apply KeepBut.set_|apply keep_drewN|apply keep_drew|apply keep_alloc)|exact HK.out)⟩,⟨by repeat (first|(with_reducible first|exact HB.out|apply yA|apply yB|apply yC|refine yD ?_ (IsS48.ge HI0.out))|exact HB.out)⟩⟩
    ·rw [if_neg c10] at H
     exact absurd H (by simp)
   ·rw [if_neg c8] at H
    have c8b0:decide (0<x8_1)=false:=decide_eq_false c8
    clear c8
    simp only [Option.some.injEq,Prod.mk.injEq] at H
    obtain ⟨rfl,rfl⟩:=H
    have hcv13:=own_string (P:=Try.prog) Try.underlying22 Try.underlying5 Try.underlying9 (Kd.own_of_R HO_7.out)
    go_wp2
    go_ret
    exact ⟨by first|rfl|(simp [errW_none,errW_some]<;>rfl)|(simp [*,errW_none,errW_some]<;>rfl)|(simp [errW_none,errW_some];exact ⟨rfl,rfl⟩),by repeat (first|(with_reducible first|exact HI0.out|apply IsS48.alloc|apply IsS48.drewN|apply IsS48.drew|apply IsS48.set_1)|exact HI0.out),by repeat (first|(with_reducible first|exact HB.out|apply yA|apply yB|apply yC|refine yD ?_ (IsS48.ge HI0.out))|exact HB.out),by repeat (first|(with_reducible first|exact HK.out|apply KeepBut.set_|apply keep_drewN|apply keep_drew|apply keep_alloc)|exact HK.out)⟩

end Go.Proofs.Ytnmkinnfbbehnaa.P

namespace Go.Proofs.Ytnmkinnfbbehnaa.P
open Go.RowKit Go.Proofs.YtnmkinnfbbehnaaW.PrintWords Go.Proofs.YtnmkinnfbbehnaaW.PrintLast Go.Proofs.YtnmkinnfbbehnaaW.PrintMore
attribute [local go_sem] max2_int min2_int max_two min_two max_three min_three max_four min_four   -- for this text's walks alone
set_option linter.unusedVariables false
set_option linter.unusedSimpArgs false

/-! ### spec_l91Set: function 9 -/
def spec_l91Set.f (k:Nat) (s0_0:List Int) (s0_1:Int):Option (ByteArray × Int):=(spec_l91Signs.f k s0_0 s0_1 0 6).bind fun bt117=>(if bt117.1.size+1≤9223372036854775807 then ((spec_l91Signs.f k s0_0 bt117.2 1 5).bind fun bt119=>(if bt117.1.size+1+bt119.1.size≤9223372036854775807 then (if bt117.1.size+1+bt119.1.size+1≤9223372036854775807 then ((spec_l6Rd_pick.f k s0_0 bt119.2 24).bind fun bt121=>(if bt121.1=0 then ((some (([(⟨#[]⟩:ByteArray),(⟨#[48]⟩:ByteArray),(⟨#[40,41]⟩:ByteArray),(⟨#[49,40]⟩:ByteArray),(⟨#[40,48,41,41]⟩:ByteArray),(⟨#[97,40,49,41]⟩:ByteArray),(⟨#[40,49,41,48]⟩:ByteArray),(⟨#[48,49,40,48,50,41]⟩:ByteArray),(⟨#[48,40,40,49,41]⟩:ByteArray)]:List ByteArray):List ByteArray)).bind fun y123=>((spec_l6Rd_pick.f k s0_0 bt121.2 9).bind fun bt126=>(if 0≤bt126.1 then (if bt126.1<(y123.length:Int) then (some (rdOf ByteArray.empty y123 bt126.1,bt126.2)) else (none)) else (none)))) else (if bt121.1=1 then ((spec_l91Signs.f k s0_0 bt121.2 0 6).bind fun bt129=>(if bt129.1.size+3≤9223372036854775807 then (some (bt129.1++(⟨#[40,48,41]⟩:ByteArray),bt129.2)) else (none))) else (if bt121.1=2 then (if 1≤((((bt117.1++(⟨#[40]⟩:ByteArray))++bt119.1)++(⟨#[41]⟩:ByteArray)).size:Int) then (if 1+((((bt117.1++(⟨#[40]⟩:ByteArray))++bt119.1)++(⟨#[41]⟩:ByteArray)).extract 1 (((bt117.1++(⟨#[40]⟩:ByteArray))++bt119.1)++(⟨#[41]⟩:ByteArray)).size).size≤9223372036854775807 then (some ((⟨#[40]⟩:ByteArray)++((((bt117.1++(⟨#[40]⟩:ByteArray))++bt119.1)++(⟨#[41]⟩:ByteArray)).extract 1 (((bt117.1++(⟨#[40]⟩:ByteArray))++bt119.1)++(⟨#[41]⟩:ByteArray)).size),bt121.2)) else (none)) else (none)) else (some (((bt117.1++(⟨#[40]⟩:ByteArray))++bt119.1)++(⟨#[41]⟩:ByteArray),bt121.2)))))) else (none)) else (none))) else (none))
theorem spec_l91Set.mono:∀ a0 a1 k,LeO (spec_l91Set.f k a0 a1) (spec_l91Set.f (k+1) a0 a1):=by
 intro a0 a1 k
 unfold spec_l91Set.f
 repeat' first
   | (with_reducible exact spec_l6Rd_pick.mono _ _ _ _)
   | (with_reducible exact spec_l91Signs.mono _ _ _ _ _)
   | (with_reducible exact LeO.refl _)
   | (with_reducible exact LeO.none _)
   | (with_reducible refine LeO.ite ?_ ?_)
   | (with_reducible refine LeO.bind ?_ (fun _=>?_))
   | exact spec_l6Rd_pick.mono _ _ _ _
   | exact spec_l91Signs.mono _ _ _ _ _
   | exact LeO.none _
   | refine LeO.ite ?_ ?_
   | refine LeO.bind ?_ (fun _=>?_)
set_option maxHeartbeats 8000000 in
set_option maxRecDepth 100000 in
theorem spec_l91Set.calls (k:Nat) (g:Nat) (s0_0:List Int) (s0_1:Int) (r1:ByteArray) (r2:Int) (w0 w:World) (hI:IsS48 w0 w g s0_0 s0_1) (hB:Below w0.heap.size w0 w) (h:spec_l91Set.f k s0_0 s0_1=some (r1,r2)) :
  Calls Try.prog 9 #[.pointer (some ⟨g,0,none⟩)] w fun e w'=>e=.returned (.string r1)∧IsS48 w0 w' g s0_0 r2∧Below w0.heap.size w0 w'∧KeepBut w w' g none:=by
 have HI0:=Aside0.mk hI
 have HK:=Aside0.mk (KeepBut.refl w g none)
 have HL:=Aside0.mk hB.size
 clear hI
 have HW0:=Aside0.mk hB.size
 have HB:=Aside0.mk hB
 clear hB
 have H:((spec_l91Signs.f k s0_0 s0_1 0 6).bind fun bt117=>(if bt117.1.size+1≤9223372036854775807 then ((spec_l91Signs.f k s0_0 bt117.2 1 5).bind fun bt119=>(if bt117.1.size+1+bt119.1.size≤9223372036854775807 then (if bt117.1.size+1+bt119.1.size+1≤9223372036854775807 then ((spec_l6Rd_pick.f k s0_0 bt119.2 24).bind fun bt121=>(if bt121.1=0 then ((some (([(⟨#[]⟩:ByteArray),(⟨#[48]⟩:ByteArray),(⟨#[40,41]⟩:ByteArray),(⟨#[49,40]⟩:ByteArray),(⟨#[40,48,41,41]⟩:ByteArray),(⟨#[97,40,49,41]⟩:ByteArray),(⟨#[40,49,41,48]⟩:ByteArray),(⟨#[48,49,40,48,50,41]⟩:ByteArray),(⟨#[48,40,40,49,41]⟩:ByteArray)]:List ByteArray):List ByteArray)).bind fun y123=>((spec_l6Rd_pick.f k s0_0 bt121.2 9).bind fun bt126=>(if 0≤bt126.1 then (if bt126.1<(y123.length:Int) then (some (rdOf ByteArray.empty y123 bt126.1,bt126.2)) else (none)) else (none)))) else (if bt121.1=1 then ((spec_l91Signs.f k s0_0 bt121.2 0 6).bind fun bt129=>(if bt129.1.size+3≤9223372036854775807 then (some (bt129.1++(⟨#[40,48,41]⟩:ByteArray),bt129.2)) else (none))) else (if bt121.1=2 then (if 1≤((((bt117.1++(⟨#[40]⟩:ByteArray))++bt119.1)++(⟨#[41]⟩:ByteArray)).size:Int) then (if 1+((((bt117.1++(⟨#[40]⟩:ByteArray))++bt119.1)++(⟨#[41]⟩:ByteArray)).extract 1 (((bt117.1++(⟨#[40]⟩:ByteArray))++bt119.1)++(⟨#[41]⟩:ByteArray)).size).size≤9223372036854775807 then (some ((⟨#[40]⟩:ByteArray)++((((bt117.1++(⟨#[40]⟩:ByteArray))++bt119.1)++(⟨#[41]⟩:ByteArray)).extract 1 (((bt117.1++(⟨#[40]⟩:ByteArray))++bt119.1)++(⟨#[41]⟩:ByteArray)).size),bt121.2)) else (none)) else (none)) else (some (((bt117.1++(⟨#[40]⟩:ByteArray))++bt119.1)++(⟨#[41]⟩:ByteArray),bt121.2)))))) else (none)) else (none))) else (none)))=some (r1,r2):=h
 clear h
 replace H:=Option.bind_eq_some_iff.mp H
 obtain ⟨⟨t117,t118⟩,A20,H⟩:=H
 replace H:(if t117.size+1≤9223372036854775807 then ((spec_l91Signs.f k s0_0 t118 1 5).bind fun bt119=>(if t117.size+1+bt119.1.size≤9223372036854775807 then (if t117.size+1+bt119.1.size+1≤9223372036854775807 then ((spec_l6Rd_pick.f k s0_0 bt119.2 24).bind fun bt121=>(if bt121.1=0 then ((some (([(⟨#[]⟩:ByteArray),(⟨#[48]⟩:ByteArray),(⟨#[40,41]⟩:ByteArray),(⟨#[49,40]⟩:ByteArray),(⟨#[40,48,41,41]⟩:ByteArray),(⟨#[97,40,49,41]⟩:ByteArray),(⟨#[40,49,41,48]⟩:ByteArray),(⟨#[48,49,40,48,50,41]⟩:ByteArray),(⟨#[48,40,40,49,41]⟩:ByteArray)]:List ByteArray):List ByteArray)).bind fun y123=>((spec_l6Rd_pick.f k s0_0 bt121.2 9).bind fun bt126=>(if 0≤bt126.1 then (if bt126.1<(y123.length:Int) then (some (rdOf ByteArray.empty y123 bt126.1,bt126.2)) else (none)) else (none)))) else (if bt121.1=1 then ((spec_l91Signs.f k s0_0 bt121.2 0 6).bind fun bt129=>(if bt129.1.size+3≤9223372036854775807 then (some (bt129.1++(⟨#[40,48,41]⟩:ByteArray),bt129.2)) else (none))) else (if bt121.1=2 then (if 1≤((((t117++(⟨#[40]⟩:ByteArray))++bt119.1)++(⟨#[41]⟩:ByteArray)).size:Int) then (if 1+((((t117++(⟨#[40]⟩:ByteArray))++bt119.1)++(⟨#[41]⟩:ByteArray)).extract 1 (((t117++(⟨#[40]⟩:ByteArray))++bt119.1)++(⟨#[41]⟩:ByteArray)).size).size≤9223372036854775807 then (some ((⟨#[40]⟩:ByteArray)++((((t117++(⟨#[40]⟩:ByteArray))++bt119.1)++(⟨#[41]⟩:ByteArray)).extract 1 (((t117++(⟨#[40]⟩:ByteArray))++bt119.1)++(⟨#[41]⟩:ByteArray)).size),bt121.2)) else (none)) else (none)) else (some (((t117++(⟨#[40]⟩:ByteArray))++bt119.1)++(⟨#[41]⟩:ByteArray),bt121.2)))))) else (none)) else (none))) else (none))=some (r1,r2):=H
 have A2:=Aside0.mk A20
 clear A20
 by_cases c3:t117.size+1≤9223372036854775807
 ·rw [if_pos c3] at H
  have c3b0:=eq_true c3
  have c3b1:decide (t117.size+1≤9223372036854775807)=true:=decide_eq_true c3
  try have c3b2:(9223372036854775807<t117.size+1)=False:=eq_false (Nat.not_lt.2 c3)
  replace H:=Option.bind_eq_some_iff.mp H
  obtain ⟨⟨t119,t120⟩,A40,H⟩:=H
  replace H:(if t117.size+1+t119.size≤9223372036854775807 then (if t117.size+1+t119.size+1≤9223372036854775807 then ((spec_l6Rd_pick.f k s0_0 t120 24).bind fun bt121=>(if bt121.1=0 then ((some (([(⟨#[]⟩:ByteArray),(⟨#[48]⟩:ByteArray),(⟨#[40,41]⟩:ByteArray),(⟨#[49,40]⟩:ByteArray),(⟨#[40,48,41,41]⟩:ByteArray),(⟨#[97,40,49,41]⟩:ByteArray),(⟨#[40,49,41,48]⟩:ByteArray),(⟨#[48,49,40,48,50,41]⟩:ByteArray),(⟨#[48,40,40,49,41]⟩:ByteArray)]:List ByteArray):List ByteArray)).bind fun y123=>((spec_l6Rd_pick.f k s0_0 bt121.2 9).bind fun bt126=>(if 0≤bt126.1 then (if bt126.1<(y123.length:Int) then (some (rdOf ByteArray.empty y123 bt126.1,bt126.2)) else (none)) else (none)))) else (if bt121.1=1 then ((spec_l91Signs.f k s0_0 bt121.2 0 6).bind fun bt129=>(if bt129.1.size+3≤9223372036854775807 then (some (bt129.1++(⟨#[40,48,41]⟩:ByteArray),bt129.2)) else (none))) else (if bt121.1=2 then (if 1≤((((t117++(⟨#[40]⟩:ByteArray))++t119)++(⟨#[41]⟩:ByteArray)).size:Int) then (if 1+((((t117++(⟨#[40]⟩:ByteArray))++t119)++(⟨#[41]⟩:ByteArray)).extract 1 (((t117++(⟨#[40]⟩:ByteArray))++t119)++(⟨#[41]⟩:ByteArray)).size).size≤9223372036854775807 then (some ((⟨#[40]⟩:ByteArray)++((((t117++(⟨#[40]⟩:ByteArray))++t119)++(⟨#[41]⟩:ByteArray)).extract 1 (((t117++(⟨#[40]⟩:ByteArray))++t119)++(⟨#[41]⟩:ByteArray)).size),bt121.2)) else (none)) else (none)) else (some (((t117++(⟨#[40]⟩:ByteArray))++t119)++(⟨#[41]⟩:ByteArray),bt121.2)))))) else (none)) else (none))=some (r1,r2):=H
  have A4:=Aside0.mk A40
  clear A40
  by_cases c5:t117.size+1+t119.size≤9223372036854775807
  ·rw [if_pos c5] at H
   have c5b0:=eq_true c5
   have c5b1:decide (t117.size+1+t119.size≤9223372036854775807)=true:=decide_eq_true c5
   try have c5b2:(9223372036854775807<t117.size+1+t119.size)=False:=eq_false (Nat.not_lt.2 c5)
   by_cases c6:t117.size+1+t119.size+1≤9223372036854775807
   ·rw [if_pos c6] at H
    have c6b0:=eq_true c6
    have c6b1:decide (t117.size+1+t119.size+1≤9223372036854775807)=true:=decide_eq_true c6
    try have c6b2:(9223372036854775807<t117.size+1+t119.size+1)=False:=eq_false (Nat.not_lt.2 c6)
    replace H:=Option.bind_eq_some_iff.mp H
    obtain ⟨⟨t121,t122⟩,A70,H⟩:=H
    replace H:(if t121=0 then ((some (([(⟨#[]⟩:ByteArray),(⟨#[48]⟩:ByteArray),(⟨#[40,41]⟩:ByteArray),(⟨#[49,40]⟩:ByteArray),(⟨#[40,48,41,41]⟩:ByteArray),(⟨#[97,40,49,41]⟩:ByteArray),(⟨#[40,49,41,48]⟩:ByteArray),(⟨#[48,49,40,48,50,41]⟩:ByteArray),(⟨#[48,40,40,49,41]⟩:ByteArray)]:List ByteArray):List ByteArray)).bind fun y123=>((spec_l6Rd_pick.f k s0_0 t122 9).bind fun bt126=>(if 0≤bt126.1 then (if bt126.1<(y123.length:Int) then (some (rdOf ByteArray.empty y123 bt126.1,bt126.2)) else (none)) else (none)))) else (if t121=1 then ((spec_l91Signs.f k s0_0 t122 0 6).bind fun bt129=>(if bt129.1.size+3≤9223372036854775807 then (some (bt129.1++(⟨#[40,48,41]⟩:ByteArray),bt129.2)) else (none))) else (if t121=2 then (if 1≤((((t117++(⟨#[40]⟩:ByteArray))++t119)++(⟨#[41]⟩:ByteArray)).size:Int) then (if 1+((((t117++(⟨#[40]⟩:ByteArray))++t119)++(⟨#[41]⟩:ByteArray)).extract 1 (((t117++(⟨#[40]⟩:ByteArray))++t119)++(⟨#[41]⟩:ByteArray)).size).size≤9223372036854775807 then (some ((⟨#[40]⟩:ByteArray)++((((t117++(⟨#[40]⟩:ByteArray))++t119)++(⟨#[41]⟩:ByteArray)).extract 1 (((t117++(⟨#[40]⟩:ByteArray))++t119)++(⟨#[41]⟩:ByteArray)).size),t122)) else (none)) else (none)) else (some (((t117++(⟨#[40]⟩:ByteArray))++t119)++(⟨#[41]⟩:ByteArray),t122)))))=some (r1,r2):=H
    have A7:=Aside0.mk A70
    clear A70
    by_cases c8:t121=0
    ·rw [if_pos c8] at H
     have c8b0:(t121 == 0)=true:=beq_iff_eq.mpr c8
     have c8b1:(t121 != 0)=false:=bne_eq_false_iff_eq.mpr c8
     clear c8
     obtain ⟨y123,hy123⟩:∃ y_:List ByteArray,y_=(([(⟨#[]⟩:ByteArray),(⟨#[48]⟩:ByteArray),(⟨#[40,41]⟩:ByteArray),(⟨#[49,40]⟩:ByteArray),(⟨#[40,48,41,41]⟩:ByteArray),(⟨#[97,40,49,41]⟩:ByteArray),(⟨#[40,49,41,48]⟩:ByteArray),(⟨#[48,49,40,48,50,41]⟩:ByteArray),(⟨#[48,40,40,49,41]⟩:ByteArray)]:List ByteArray)):=⟨_,rfl⟩
     replace H:((spec_l6Rd_pick.f k s0_0 t122 9).bind fun bt126=>(if 0≤bt126.1 then (if bt126.1<(y123.length:Int) then (some (rdOf ByteArray.empty y123 bt126.1,bt126.2)) else (none)) else (none)))=some (r1,r2):=by first|(rw [hy123];with_reducible exact H)|(have H2_:=(Option.bind_some _ _).symm.trans H;rw [hy123];with_reducible exact H2_)|(have H2_:=(Option.bind_some _ _).symm.trans H;with_reducible exact H2_)|with_reducible exact H|(rw [hy123];exact H)|exact H
     have Ny123:=Aside0.mk hy123
     clear hy123
     replace H:=Option.bind_eq_some_iff.mp H
     obtain ⟨⟨t126,t127⟩,A90,H⟩:=H
     replace H:(if 0≤t126 then (if t126<(y123.length:Int) then (some (rdOf ByteArray.empty y123 t126,t127)) else (none)) else (none))=some (r1,r2):=H
     have A9:=Aside0.mk A90
     clear A90
     by_cases c10:0≤t126
     ·rw [if_pos c10] at H
      have c10b0:decide (0≤t126)=true:=decide_eq_true c10
      clear c10
      by_cases c11:t126<(y123.length:Int)
      ·rw [if_pos c11] at H
       have c11b0:decide (t126<(y123.length:Int))=true:=decide_eq_true c11
       clear c11
       simp only [Option.some.injEq,Prod.mk.injEq] at H
       obtain ⟨rfl,rfl⟩:=H
       go_enter Try.func9,Try.ntmps9
       go_wp2_with (first|((with_reducible refine gate_callee (f:=17) rfl ?_);refine goesL_ (some 5) rfl rfl Try.func17 (by kernel_rfl) rfl #[.pointer (some ⟨g,0,none⟩),.int .i64 0,.int .i64 6] rfl (by (try simp only [List.map_toArray,List.map_cons,List.map_nil]);first|done|rfl|(simp only [List.length_drop,List.length_take];rfl)) ?_;(with_reducible refine (spec_l91Signs.calls k g s0_0 s0_1 0 6 t117 t118 w0 _ ?side1 ?side2 A2.out).mono ?_);(case side1=>repeat (first|(with_reducible first|exact HI0.out|apply IsS48.alloc|apply IsS48.drewN|apply IsS48.drew|apply IsS48.set_1)|exact HI0.out));(case side2=>repeat (first|(with_reducible first|exact HB.out|apply yA|apply yB|apply yC|refine yD ?_ (IsS48.ge HI0.out))|exact HB.out));rintro e w12 ⟨rfl,hi,hb,hk⟩;refine ⟨_,rfl,?_⟩;have n0_:=Aside0.mk (KeepBut.trans (by repeat (first|(with_reducible first|exact HK.out|apply KeepBut.set_|apply keep_drewN|apply keep_drew|apply keep_alloc)|exact HK.out)) hk (.inl rfl));have n1_:=Aside0.mk (hb);have n2_:=Aside0.mk (hi);clear HK;clear HB;clear HI0;have HK:=n0_;have HB:=n1_;have HI0:=n2_;clear n0_ n1_ n2_;(try clear hb);(try clear hb2);(try clear hk);(try clear hi))|((with_reducible refine gate_callee (f:=17) rfl ?_);refine goesL_ (some 8) rfl rfl Try.func17 (by kernel_rfl) rfl #[.pointer (some ⟨g,0,none⟩),.int .i64 1,.int .i64 5] rfl (by (try simp only [List.map_toArray,List.map_cons,List.map_nil]);first|done|rfl|(simp only [List.length_drop,List.length_take];rfl)) ?_;(with_reducible refine (spec_l91Signs.calls k g s0_0 t118 1 5 t119 t120 w0 _ ?side1 ?side2 A4.out).mono ?_);(case side1=>repeat (first|(with_reducible first|exact HI0.out|apply IsS48.alloc|apply IsS48.drewN|apply IsS48.drew|apply IsS48.set_1)|exact HI0.out));(case side2=>repeat (first|(with_reducible first|exact HB.out|apply yA|apply yB|apply yC|refine yD ?_ (IsS48.ge HI0.out))|exact HB.out));rintro e w13 ⟨rfl,hi,hb,hk⟩;refine ⟨_,rfl,?_⟩;have n0_:=Aside0.mk (KeepBut.trans (by repeat (first|(with_reducible first|exact HK.out|apply KeepBut.set_|apply keep_drewN|apply keep_drew|apply keep_alloc)|exact HK.out)) hk (.inl rfl));have n1_:=Aside0.mk (hb);have n2_:=Aside0.mk (hi);clear HK;clear HB;clear HI0;have HK:=n0_;have HB:=n1_;have HI0:=n2_;clear n0_ n1_ n2_;(try clear hb);(try clear hb2);(try clear hk);(try clear hi))|((with_reducible refine gate_callee (f:=18) rfl ?_);refine goesL_ (some 12) rfl rfl Try.func18 (by kernel_rfl) rfl #[.pointer (some ⟨g,0,none⟩),.int .i64 24] rfl (by (try simp only [List.map_toArray,List.map_cons,List.map_nil]);first|done|rfl|(simp only [List.length_drop,List.length_take];rfl)) ?_;(with_reducible refine (spec_l6Rd_pick.calls k g s0_0 t120 24 t121 t122 w0 _ ?side1 ?side2 A7.out).mono ?_);(case side1=>repeat (first|(with_reducible first|exact HI0.out|apply IsS48.alloc|apply IsS48.drewN|apply IsS48.drew|apply IsS48.set_1)|exact HI0.out));(case side2=>repeat (first|(with_reducible first|exact HB.out|apply yA|apply yB|apply yC|refine yD ?_ (IsS48.ge HI0.out))|exact HB.out));rintro e w14 ⟨rfl,hi,hb,hk⟩;refine ⟨_,rfl,?_⟩;have n0_:=Aside0.mk (KeepBut.trans (by repeat (first|(with_reducible first|exact HK.out|apply KeepBut.set_|apply keep_drewN|apply keep_drew|apply keep_alloc)|exact HK.out)) hk (.inl rfl));have n1_:=Aside0.mk (hb);have n2_:=Aside0.mk (hi);clear HK;clear HB;clear HI0;have HK:=n0_;have HB:=n1_;have HI0:=n2_;clear n0_ n1_ n2_;(try clear hb);(try clear hb2);(try clear hk);(try clear hi))|((with_reducible refine gate_dst (N:=15) rfl ?_);refine Kd.R_lit Kd.string _ 9 ?hg (N:=15) ?hd (xs:=([(⟨#[]⟩:ByteArray),(⟨#[48]⟩:ByteArray),(⟨#[40,41]⟩:ByteArray),(⟨#[49,40]⟩:ByteArray),(⟨#[40,48,41,41]⟩:ByteArray),(⟨#[97,40,49,41]⟩:ByteArray),(⟨#[40,49,41,48]⟩:ByteArray),(⟨#[48,49,40,48,50,41]⟩:ByteArray),(⟨#[48,40,40,49,41]⟩:ByteArray)]:List ByteArray)) (inner:=[.string (⟨#[]⟩:ByteArray),.string (⟨#[48]⟩:ByteArray),.string (⟨#[40,41]⟩:ByteArray),.string (⟨#[49,40]⟩:ByteArray),.string (⟨#[40,48,41,41]⟩:ByteArray),.string (⟨#[97,40,49,41]⟩:ByteArray),.string (⟨#[40,49,41,48]⟩:ByteArray),.string (⟨#[48,49,40,48,50,41]⟩:ByteArray),.string (⟨#[48,40,40,49,41]⟩:ByteArray)]) (ok:=fun _=>True) (okp:=fun _=>True) ?hr ?hp (fun _ hk=>hk) trivial (Below.refl _ _) (Nat.le_refl _) (by simp) ?_;(case hd=>rfl);(case hg=>rfl);(case hr=>first|(go_simp;done)|(go_simp;rfl));(case hp=>exact (Reps.one (show Kd.M Kd.string _ _ _ (⟨#[]⟩:ByteArray) [.string (⟨#[]⟩:ByteArray)] from rfl) (Reps.one (show Kd.M Kd.string _ _ _ (⟨#[48]⟩:ByteArray) [.string (⟨#[48]⟩:ByteArray)] from rfl) (Reps.one (show Kd.M Kd.string _ _ _ (⟨#[40,41]⟩:ByteArray) [.string (⟨#[40,41]⟩:ByteArray)] from rfl) (Reps.one (show Kd.M Kd.string _ _ _ (⟨#[49,40]⟩:ByteArray) [.string (⟨#[49,40]⟩:ByteArray)] from rfl) (Reps.one (show Kd.M Kd.string _ _ _ (⟨#[40,48,41,41]⟩:ByteArray) [.string (⟨#[40,48,41,41]⟩:ByteArray)] from rfl) (Reps.one (show Kd.M Kd.string _ _ _ (⟨#[97,40,49,41]⟩:ByteArray) [.string (⟨#[97,40,49,41]⟩:ByteArray)] from rfl) (Reps.one (show Kd.M Kd.string _ _ _ (⟨#[40,49,41,48]⟩:ByteArray) [.string (⟨#[40,49,41,48]⟩:ByteArray)] from rfl) (Reps.one (show Kd.M Kd.string _ _ _ (⟨#[48,49,40,48,50,41]⟩:ByteArray) [.string (⟨#[48,49,40,48,50,41]⟩:ByteArray)] from rfl) (Reps.one (show Kd.M Kd.string _ _ _ (⟨#[48,40,40,49,41]⟩:ByteArray) [.string (⟨#[48,40,40,49,41]⟩:ByteArray)] from rfl) (Reps.none _ _)))))))))));intro v124 w15 ho16 hb hg_ hnew_;clear hg_ hnew_;(first|rw [← Ny123.out] at ho16|(simp only [Int.reduceToNat] at ho16;rw [← Ny123.out] at ho16));have n0_:=Aside0.mk (Kd.R_lower ho16 (keep_size (w:=w) (g:=g) (row:=none) (by repeat (first|(with_reducible first|exact HK.out|apply KeepBut.set_|apply keep_drewN|apply keep_drew|apply keep_alloc)|exact HK.out))));have n1_:=Aside0.mk (IsS48.below (by repeat (first|(with_reducible first|exact HI0.out|apply IsS48.alloc|apply IsS48.drewN|apply IsS48.drew|apply IsS48.set_1)|exact HI0.out)) hb);have n2_:=Aside0.mk (KeepBut.trans (by repeat (first|(with_reducible first|exact HK.out|apply KeepBut.set_|apply keep_drewN|apply keep_drew|apply keep_alloc)|exact HK.out)) (KeepBut.of_below hb g none) (.inl rfl));have n3_:=Aside0.mk (yP (by repeat (first|(with_reducible first|exact HB.out|apply yA|apply yB|apply yC|refine yD ?_ (IsS48.ge HI0.out))|exact HB.out)) hb);clear HI0;clear HK;clear HB;have HO125:=n0_;have HI0:=n1_;have HK:=n2_;have HB:=n3_;clear n0_ n1_ n2_ n3_;clear hb ho16)|((with_reducible refine gate_callee (f:=18) rfl ?_);refine goesL_ (some 17) rfl rfl Try.func18 (by kernel_rfl) rfl #[.pointer (some ⟨g,0,none⟩),.int .i64 9] rfl (by (try simp only [List.map_toArray,List.map_cons,List.map_nil]);first|done|rfl|(simp only [List.length_drop,List.length_take];rfl)) ?_;(with_reducible refine (spec_l6Rd_pick.calls k g s0_0 t122 9 t126 t127 w0 _ ?side1 ?side2 A9.out).mono ?_);(case side1=>repeat (first|(with_reducible first|exact HI0.out|apply IsS48.alloc|apply IsS48.drewN|apply IsS48.drew|apply IsS48.set_1)|exact HI0.out));(case side2=>repeat (first|(with_reducible first|exact HB.out|apply yA|apply yB|apply yC|refine yD ?_ (IsS48.ge HI0.out))|exact HB.out));rintro e w17 ⟨rfl,hi,hb,hk⟩;refine ⟨_,rfl,?_⟩;have n0_:=Aside0.mk (Kd.R_mono (Kd.R_keep (IsS48.apart (show IsS48 w0 _ g s0_0 t122 from by repeat (first|(with_reducible first|exact HI0.out|apply IsS48.alloc|apply IsS48.drewN|apply IsS48.drew|apply IsS48.set_1)|exact HI0.out)) (by (with_reducible repeat (first|apply yH|apply yI|apply yJ));exact HO125.out) (by decide)) hk (fun _ h=>h.2)) (fun _ h=>h.1));have n1_:=Aside0.mk (KeepBut.trans (by repeat (first|(with_reducible first|exact HK.out|apply KeepBut.set_|apply keep_drewN|apply keep_drew|apply keep_alloc)|exact HK.out)) hk (.inl rfl));have n2_:=Aside0.mk (hb);have n3_:=Aside0.mk (hi);clear HO125;clear HK;clear HB;clear HI0;have HO125:=n0_;have HK:=n1_;have HB:=n2_;have HI0:=n3_;clear n0_ n1_ n2_ n3_;(try clear hb);(try clear hb2);(try clear hk);(try clear hi);obtain ⟨Ao18,co18,eo18⟩:=Kd.R_slice HO125.out;subst eo18;have p128:0≤(t126:Int):=of_decide_eq_true (by first|(with_reducible assumption)|assumption);have q128:t126<(y123.length:Int):=of_decide_eq_true (by first|(with_reducible assumption)|assumption);obtain ⟨ad128,e128,hx128_0⟩:=Kd.at_string (Kd.R_reads' HO125.out).2.2 t126 p128 q128;cases e128;replace p128:=eq_true p128;replace q128:=eq_true q128))
       go_ret
       exact ⟨by first|rfl|(simp [errW_none,errW_some]<;>rfl)|(simp [*,errW_none,errW_some]<;>rfl)|(simp [errW_none,errW_some];exact ⟨rfl,rfl⟩),by repeat (first|(with_reducible first|exact HI0.out|apply IsS48.alloc|apply IsS48.drewN|apply IsS48.drew|apply IsS48.set_1)|exact HI0.out),by repeat (first|(with_reducible first|exact HB.out|apply yA|apply yB|apply yC|refine yD ?_ (IsS48.ge HI0.out))|exact HB.out),by repeat (first|(with_reducible first|exact HK.out|apply KeepBut.set_|apply keep_drewN|apply keep_drew|apply keep_alloc)|exact HK.out)⟩
      ·rw [if_neg c11] at H
       exact absurd H (by simp)
     ·rw [if_neg c10] at H
      exact absurd H (by simp)
    ·rw [if_neg c8] at H
     have c8b0:(t121 == 0)=false:=beq_eq_false_iff_ne.mpr c8
     have c8b1:(t121 != 0)=true:=bne_iff_ne.mpr c8
     by_cases c19:t121=1
     ·rw [if_pos c19] at H
      have c19b0:(t121 == 1)=true:=beq_iff_eq.mpr c19
      have c19b1:(t121 != 1)=false:=bne_eq_false_iff_eq.mpr c19
      clear c19
      replace H:=Option.bind_eq_some_iff.mp H
      obtain ⟨⟨t129,t130⟩,A200,H⟩:=H
      replace H:(if t129.size+3≤9223372036854775807 then (some (t129++(⟨#[40,48,41]⟩:ByteArray),t130)) else (none))=some (r1,r2):=H
      have A20:=Aside0.mk A200
      clear A200
      by_cases c21:t129.size+3≤9223372036854775807
      ·rw [if_pos c21] at H
       have c21b0:=eq_true c21
       have c21b1:decide (t129.size+3≤9223372036854775807)=true:=decide_eq_true c21
       try have c21b2:(9223372036854775807<t129.size+3)=False:=eq_false (Nat.not_lt.2 c21)
       simp only [Option.some.injEq,Prod.mk.injEq] at H
       obtain ⟨rfl,rfl⟩:=H
       go_enter Try.func9,Try.ntmps9
       go_wp2_with (first|((with_reducible refine gate_callee (f:=17) rfl ?_);refine goesL_ (some 5) rfl rfl Try.func17 (by kernel_rfl) rfl #[.pointer (some ⟨g,0,none⟩),.int .i64 0,.int .i64 6] rfl (by (try simp only [List.map_toArray,List.map_cons,List.map_nil]);first|done|rfl|(simp only [List.length_drop,List.length_take];rfl)) ?_;(with_reducible refine (spec_l91Signs.calls k g s0_0 s0_1 0 6 t117 t118 w0 _ ?side1 ?side2 A2.out).mono ?_);(case side1=>repeat (first|(with_reducible first|exact HI0.out|apply IsS48.alloc|apply IsS48.drewN|apply IsS48.drew|apply IsS48.set_1)|exact HI0.out));(case side2=>repeat (first|(with_reducible first|exact HB.out|apply yA|apply yB|apply yC|refine yD ?_ (IsS48.ge HI0.out))|exact HB.out));rintro e w22 ⟨rfl,hi,hb,hk⟩;refine ⟨_,rfl,?_⟩;have n0_:=Aside0.mk (KeepBut.trans (by repeat (first|(with_reducible first|exact HK.out|apply KeepBut.set_|apply keep_drewN|apply keep_drew|apply keep_alloc)|exact HK.out)) hk (.inl rfl));have n1_:=Aside0.mk (hb);have n2_:=Aside0.mk (hi);clear HK;clear HB;clear HI0;have HK:=n0_;have HB:=n1_;have HI0:=n2_;clear n0_ n1_ n2_;(try clear hb);(try clear hb2);(try clear hk);(try clear hi))|((with_reducible refine gate_callee (f:=17) rfl ?_);refine goesL_ (some 8) rfl rfl Try.func17 (by kernel_rfl) rfl #[.pointer (some ⟨g,0,none⟩),.int .i64 1,.int .i64 5] rfl (by (try simp only [List.map_toArray,List.map_cons,List.map_nil]);first|done|rfl|(simp only [List.length_drop,List.length_take];rfl)) ?_;(with_reducible refine (spec_l91Signs.calls k g s0_0 t118 1 5 t119 t120 w0 _ ?side1 ?side2 A4.out).mono ?_);(case side1=>repeat (first|(with_reducible first|exact HI0.out|apply IsS48.alloc|apply IsS48.drewN|apply IsS48.drew|apply IsS48.set_1)|exact HI0.out));(case side2=>repeat (first|(with_reducible first|exact HB.out|apply yA|apply yB|apply yC|refine yD ?_ (IsS48.ge HI0.out))|exact HB.out));rintro e w23 ⟨rfl,hi,hb,hk⟩;refine ⟨_,rfl,?_⟩;have n0_:=Aside0.mk (KeepBut.trans (by repeat (first|(with_reducible first|exact HK.out|apply KeepBut.set_|apply keep_drewN|apply keep_drew|apply keep_alloc)|exact HK.out)) hk (.inl rfl));have n1_:=Aside0.mk (hb);have n2_:=Aside0.mk (hi);clear HK;clear HB;clear HI0;have HK:=n0_;have HB:=n1_;have HI0:=n2_;clear n0_ n1_ n2_;(try clear hb);(try clear hb2);(try clear hk);(try clear hi))|((with_reducible refine gate_callee (f:=18) rfl ?_);refine goesL_ (some 12) rfl rfl Try.func18 (by kernel_rfl) rfl #[.pointer (some ⟨g,0,none⟩),.int .i64 24] rfl (by (try simp only [List.map_toArray,List.map_cons,List.map_nil]);first|done|rfl|(simp only [List.length_drop,List.length_take];rfl)) ?_;(with_reducible refine (spec_l6Rd_pick.calls k g s0_0 t120 24 t121 t122 w0 _ ?side1 ?side2 A7.out).mono ?_);(case side1=>repeat (first|(with_reducible first|exact HI0.out|apply IsS48.alloc|apply IsS48.drewN|apply IsS48.drew|apply IsS48.set_1)|exact HI0.out));(case side2=>repeat (first|(with_reducible first|exact HB.out|apply yA|apply yB|apply yC|refine yD ?_ (IsS48.ge HI0.out))|exact HB.out));rintro e w24 ⟨rfl,hi,hb,hk⟩;refine ⟨_,rfl,?_⟩;have n0_:=Aside0.mk (KeepBut.trans (by repeat (first|(with_reducible first|exact HK.out|apply KeepBut.set_|apply keep_drewN|apply keep_drew|apply keep_alloc)|exact HK.out)) hk (.inl rfl));have n1_:=Aside0.mk (hb);have n2_:=Aside0.mk (hi);clear HK;clear HB;clear HI0;have HK:=n0_;have HB:=n1_;have HI0:=n2_;clear n0_ n1_ n2_;(try clear hb);(try clear hb2);(try clear hk);(try clear hi))|((with_reducible refine gate_callee (f:=17) rfl ?_);refine goesL_ (some 23) rfl rfl Try.func17 (by kernel_rfl) rfl #[.pointer (some ⟨g,0,none⟩),.int .i64 0,.int .i64 6] rfl (by (try simp only [List.map_toArray,List.map_cons,List.map_nil]);first|done|rfl|(simp only [List.length_drop,List.length_take];rfl)) ?_;(with_reducible refine (spec_l91Signs.calls k g s0_0 t122 0 6 t129 t130 w0 _ ?side1 ?side2 A20.out).mono ?_);(case side1=>repeat (first|(with_reducible first|exact HI0.out|apply IsS48.alloc|apply IsS48.drewN|apply IsS48.drew|apply IsS48.set_1)|exact HI0.out));(case side2=>repeat (first|(with_reducible first|exact HB.out|apply yA|apply yB|apply yC|refine yD ?_ (IsS48.ge HI0.out))|exact HB.out));rintro e w25 ⟨rfl,hi,hb,hk⟩;refine ⟨_,rfl,?_⟩;have n0_:=Aside0.mk (KeepBut.trans (by repeat (first|(with_reducible first|exact HK.out|apply KeepBut.set_|apply keep_drewN|apply keep_drew|apply keep_alloc)|exact HK.out)) hk (.inl rfl));have n1_:=Aside0.mk (hb);have n2_:=Aside0.mk (hi);clear HK;clear HB;clear HI0;have HK:=n0_;have HB:=n1_;have HI0:=n2_;clear n0_ n1_ n2_;(try clear hb);(try clear hb2);(try clear hk);(try clear hi)))
       go_ret
       exact ⟨by first|rfl|(simp [errW_none,errW_some]<;>rfl)|(simp [*,errW_none,errW_some]<;>rfl)|(simp [errW_none,errW_some];exact ⟨rfl,rfl⟩),by repeat (first|(with_reducible first|exact HI0.out|apply IsS48.alloc|apply IsS48.drewN|apply IsS48.drew|apply IsS48.set_1)|exact HI0.out),by repeat (first|(with_reducible first|exact HB.out|apply yA|apply yB|apply yC|refine yD ?_ (IsS48.ge HI0.out))|exact HB.out),by repeat (first|(with_reducible first|exact HK.out|apply KeepBut.set_|apply keep_drewN|apply keep_drew|apply keep_alloc)|exact HK.out)⟩
      ·rw [if_neg c21] at H
       exact absurd H (by simp)
     ·rw [if_neg c19] at H
      have c19b0:(t121 == 1)=false:=beq_eq_false_iff_ne.mpr c19
      have c19b1:(t121 != 1)=true:=bne_iff_ne.mpr c19
      by_cases c26:t121=2
      ·rw [if_pos c26] at H
       have c26b0:(t121 == 2)=true:=beq_iff_eq.mpr c26
       have c26b1:(t121 != 2)=false:=bne_eq_false_iff_eq.mpr c26
       clear c26
       by_cases c27:1≤((((t117++(⟨#[40]⟩:ByteArray))++t119)++(⟨#[41]⟩:ByteArray)).size:Int)
       ·rw [if_pos c27] at H
        have c27b0:=eq_true c27
        have c27b1:decide (1≤((((t117++(⟨#[40]⟩:ByteArray))++t119)++(⟨#[41]⟩:ByteArray)).size:Int))=true:=decide_eq_true c27
        by_cases c28:1+((((t117++(⟨#[40]⟩:ByteArray))++t119)++(⟨#[41]⟩:ByteArray)).extract 1 (((t117++(⟨#[40]⟩:ByteArray))++t119)++(⟨#[41]⟩:ByteArray)).size).size≤9223372036854775807
        ·rw [if_pos c28] at H
         have c28b0:=eq_true c28
         have c28b1:decide (1+((((t117++(⟨#[40]⟩:ByteArray))++t119)++(⟨#[41]⟩:ByteArray)).extract 1 (((t117++(⟨#[40]⟩:ByteArray))++t119)++(⟨#[41]⟩:ByteArray)).size).size≤9223372036854775807)=true:=decide_eq_true c28
         try have c28b2:(9223372036854775807<1+((((t117++(⟨#[40]⟩:ByteArray))++t119)++(⟨#[41]⟩:ByteArray)).extract 1 (((t117++(⟨#[40]⟩:ByteArray))++t119)++(⟨#[41]⟩:ByteArray)).size).size)=False:=eq_false (Nat.not_lt.2 c28)
         simp only [Option.some.injEq,Prod.mk.injEq] at H
         obtain ⟨rfl,rfl⟩:=H
         go_enter Try.func9,Try.ntmps9
         go_wp2_with (first|((with_reducible refine gate_callee (f:=17) rfl ?_);refine goesL_ (some 5) rfl rfl Try.func17 (by kernel_rfl) rfl #[.pointer (some ⟨g,0,none⟩),.int .i64 0,.int .i64 6] rfl (by (try simp only [List.map_toArray,List.map_cons,List.map_nil]);first|done|rfl|(simp only [List.length_drop,List.length_take];rfl)) ?_;(with_reducible refine (spec_l91Signs.calls k g s0_0 s0_1 0 6 t117 t118 w0 _ ?side1 ?side2 A2.out).mono ?_);(case side1=>repeat (first|(with_reducible first|exact HI0.out|apply IsS48.alloc|apply IsS48.drewN|apply IsS48.drew|apply IsS48.set_1)|exact HI0.out));(case side2=>repeat (first|(with_reducible first|exact HB.out|apply yA|apply yB|apply yC|refine yD ?_ (IsS48.ge HI0.out))|exact HB.out));rintro e w29 ⟨rfl,hi,hb,hk⟩;refine ⟨_,rfl,?_⟩;have n0_:=Aside0.mk (KeepBut.trans (by repeat (first|(with_reducible first|exact HK.out|apply KeepBut.set_|apply keep_drewN|apply keep_drew|apply keep_alloc)|exact HK.out)) hk (.inl rfl));have n1_:=Aside0.mk (hb);have n2_:=Aside0.mk (hi);clear HK;clear HB;clear HI0;have HK:=n0_;have HB:=n1_;have HI0:=n2_;clear n0_ n1_ n2_;(try clear hb);(try clear hb2);(try clear hk);(try clear hi))|((with_reducible refine gate_callee (f:=17) rfl ?_);refine goesL_ (some 8) rfl rfl Try.func17 (by kernel_rfl) rfl #[.pointer (some ⟨g,0,none⟩),.int .i64 1,.int .i64 5] rfl (by (try simp only [List.map_toArray,List.map_cons,List.map_nil]);first|done|rfl|(simp only [List.length_drop,List.length_take];rfl)) ?_;(with_reducible refine (spec_l91Signs.calls k g s0_0 t118 1 5 t119 t120 w0 _ ?side1 ?side2 A4.out).mono ?_);(case side1=>repeat (first|(with_reducible first|exact HI0.out|apply IsS48.alloc|apply IsS48.drewN|apply IsS48.drew|apply IsS48.set_1)|exact HI0.out));(case side2=>repeat (first|(with_reducible first|exact HB.out|apply yA|apply yB|apply yC|refine yD ?_ (IsS48.ge HI0.out))|exact HB.out));rintro e w30 ⟨rfl,hi,hb,hk⟩;refine ⟨_,rfl,?_⟩;have n0_:=Aside0.mk (KeepBut.trans (by repeat (first|(with_reducible first|exact HK.out|apply KeepBut.set_|apply keep_drewN|apply keep_drew|apply keep_alloc)|exact HK.out)) hk (.inl rfl));have n1_:=Aside0.mk (hb);have n2_:=Aside0.mk (hi);clear HK;clear HB;clear HI0;have HK:=n0_;have HB:=n1_;have HI0:=n2_;clear n0_ n1_ n2_;(try clear hb);(try clear hb2);(try clear hk);(try clear hi))|((with_reducible refine gate_callee (f:=18) rfl ?_);refine goesL_ (some 12) rfl rfl Try.func18 (by kernel_rfl) rfl #[.pointer (some ⟨g,0,none⟩),.int .i64 24] rfl (by (try simp only [List.map_toArray,List.map_cons,List.map_nil]);first|done|rfl|(simp only [List.length_drop,List.length_take];rfl)) ?_;(with_reducible refine (spec_l6Rd_pick.calls k g s0_0 t120 24 t121 t122 w0 _ ?side1 ?side2 A7.out).mono ?_);(case side1=>repeat (first|(with_reducible first|exact HI0.out|apply IsS48.alloc|apply IsS48.drewN|apply IsS48.drew|apply IsS48.set_1)|exact HI0.out));(case side2=>repeat (first|(with_reducible first|exact HB.out|apply yA|apply yB|apply yC|refine yD ?_ (IsS48.ge HI0.out))|exact HB.out));rintro e w31 ⟨rfl,hi,hb,hk⟩;refine ⟨_,rfl,?_⟩;have n0_:=Aside0.mk (KeepBut.trans (by repeat (first|(with_reducible first|exact HK.out|apply KeepBut.set_|apply keep_drewN|apply keep_drew|apply keep_alloc)|exact HK.out)) hk (.inl rfl));have n1_:=Aside0.mk (hb);have n2_:=Aside0.mk (hi);clear HK;clear HB;clear HI0;have HK:=n0_;have HB:=n1_;have HI0:=n2_;clear n0_ n1_ n2_;(try clear hb);(try clear hb2);(try clear hk);(try clear hi)))
         go_ret
         exact ⟨by first|rfl|(simp [errW_none,errW_some]<;>rfl)|(simp [*,errW_none,errW_some]<;>rfl)|(simp [errW_none,errW_some];exact ⟨rfl,rfl⟩),by repeat (first|(with_reducible first|exact HI0.out|apply IsS48.alloc|apply IsS48.drewN|apply IsS48.drew|apply IsS48.set_1)|exact HI0.out),by repeat (first|(with_reducible first|exact HB.out|apply yA|apply yB|apply yC|refine yD ?_ (IsS48.ge HI0.out))|exact HB.out),by repeat (first|(with_reducible first|exact HK.out|apply KeepBut.set_|apply keep_drewN|apply keep_drew|apply keep_alloc)|exact HK.out)⟩
        ·rw [if_neg c28] at H
         exact absurd H (by simp)
       ·rw [if_neg c27] at H
        exact absurd H (by simp)
      ·rw [if_neg c26] at H
       have c26b0:(t121 == 2)=false:=beq_eq_false_iff_ne.mpr c26
       have c26b1:(t121 != 2)=true:=bne_iff_ne.mpr c26
       simp only [Option.some.injEq,Prod.mk.injEq] at H
       obtain ⟨rfl,rfl⟩:=H
       go_enter Try.func9,Try.ntmps9
       go_wp2_with (first|((with_reducible refine gate_callee (f:=17) rfl ?_);refine goesL_ (some 5) rfl rfl Try.func17 (by kernel_rfl) rfl #[.pointer (some ⟨g,0,none⟩),.int .i64 0,.int .i64 6] rfl (by (try simp only [List.map_toArray,List.map_cons,List.map_nil]);first|done|rfl|(simp only [List.length_drop,List.length_take];rfl)) ?_;(with_reducible refine (spec_l91Signs.calls k g s0_0 s0_1 0 6 t117 t118 w0 _ ?side1 ?side2 A2.out).mono ?_);(case side1=>repeat (first|(with_reducible first|exact HI0.out|apply IsS48.alloc|apply IsS48.drewN|apply IsS48.drew|apply IsS48.set_1)|exact HI0.out));(case side2=>repeat (first|(with_reducible first|exact HB.out|apply yA|apply yB|apply yC|refine yD ?_ (IsS48.ge HI0.out))|exact HB.out));rintro e w32 ⟨rfl,hi,hb,hk⟩;refine ⟨_,rfl,?_⟩;have n0_:=Aside0.mk (KeepBut.trans (by repeat (first|(with_reducible first|exact HK.out|apply KeepBut.set_|apply keep_drewN|apply keep_drew|apply keep_alloc)|exact HK.out)) hk (.inl rfl));have n1_:=Aside0.mk (hb);have n2_:=Aside0.mk (hi);clear HK;clear HB;clear HI0;have HK:=n0_;have HB:=n1_;have HI0:=n2_;clear n0_ n1_ n2_;(try clear hb);(try clear hb2);(try clear hk);(try clear hi))|((with_reducible refine gate_callee (f:=17) rfl ?_);refine goesL_ (some 8) rfl rfl Try.func17 (by kernel_rfl) rfl #[.pointer (some ⟨g,0,none⟩),.int .i64 1,.int .i64 5] rfl (by (try simp only [List.map_toArray,List.map_cons,List.map_nil]);first|done|rfl|(simp only [List.length_drop,List.length_take];rfl)) ?_;(with_reducible refine (spec_l91Signs.calls k g s0_0 t118 1 5 t119 t120 w0 _ ?side1 ?side2 A4.out).mono ?_);(case side1=>repeat (first|(with_reducible first|exact HI0.out|apply IsS48.alloc|apply IsS48.drewN|apply IsS48.drew|apply IsS48.set_1)|exact HI0.out));(case side2=>repeat (first|(with_reducible first|exact HB.out|apply yA|apply yB|apply yC|refine yD ?_ (IsS48.ge HI0.out))|exact HB.out));rintro e w33 ⟨rfl,hi,hb,hk⟩;refine ⟨_,rfl,?_⟩;have n0_:=Aside0.mk (KeepBut.trans (by repeat (first|(with_reducible first|exact HK.out|apply KeepBut.set_|apply keep_drewN|apply keep_drew|apply keep_alloc)|exact HK.out)) hk (.inl rfl));have n1_:=Aside0.mk (hb);have n2_:=Aside0.mk (hi);clear HK;clear HB;clear HI0;have HK:=n0_;have HB:=n1_;have HI0:=n2_;clear n0_ n1_ n2_;(try clear hb);(try clear hb2);(try clear hk);(try clear hi))|((with_reducible refine gate_callee (f:=18) rfl ?_);refine goesL_ (some 12) rfl rfl Try.func18 (by kernel_rfl) rfl #[.pointer (some ⟨g,0,none⟩),.int .i64 24] rfl (by (try simp only [List.map_toArray,List.map_cons,List.map_nil]);first|done|rfl|(simp only [List.length_drop,List.length_take];rfl)) ?_;(with_reducible refine (spec_l6Rd_pick.calls k g s0_0 t120 24 t121 t122 w0 _ ?side1 ?side2 A7.out).mono ?_);(case side1=>repeat (first|(with_reducible first|exact HI0.out|apply IsS48.alloc|apply IsS48.drewN|apply IsS48.drew|apply IsS48.set_1)|exact HI0.out));(case side2=>repeat (first|(with_reducible first|exact HB.out|apply yA|apply yB|apply yC|refine yD ?_ (IsS48.ge HI0.out))|exact HB.out));rintro e w34 ⟨rfl,hi,hb,hk⟩;refine ⟨_,rfl,?_⟩;have n0_:=Aside0.mk (KeepBut.trans (by repeat (first|(with_reducible first|exact HK.out|apply KeepBut.set_|apply keep_drewN|apply keep_drew|apply keep_alloc)|exact HK.out)) hk (.inl rfl));have n1_:=Aside0.mk (hb);have n2_:=Aside0.mk (hi);clear HK;clear HB;clear HI0;have HK:=n0_;have HB:=n1_;have HI0:=n2_;clear n0_ n1_ n2_;(try clear hb);(try clear hb2);(try clear hk);(try clear hi)))
       go_ret
       exact ⟨by first|rfl|(simp [errW_none,errW_some]<;>rfl)|(simp [*,errW_none,errW_some]<;>rfl)|(simp [errW_none,errW_some];exact ⟨rfl,rfl⟩),by repeat (first|(with_reducible first|exact HI0.out|apply IsS48.alloc|apply IsS48.drewN|apply IsS48.drew|apply IsS48.set_1)|exact HI0.out),by repeat (first|(with_reducible first|exact HB.out|apply yA|apply yB|apply yC|refine yD ?_ (IsS48.ge HI0.out))|exact HB.out),by repeat (first|(with_reducible first|exact HK.out|apply KeepBut.set_|apply keep_drewN|apply keep_drew|apply keep_alloc)|exact HK.out)⟩
   ·rw [if_neg c6] at H
    exact absurd H (by simp)
  ·rw [if_neg c5] at H
   exact absurd H (by simp)
 ·rw [if_neg c3] at H
  exact absurd H (by simp)

end Go.Proofs.Ytnmkinnfbbehnaa.P

namespace Go.Proofs.Ytnmkinnfbbehnaa.P
open Go.RowKit Go.Proofs.YtnmkinnfbbehnaaW.PrintWords Go.Proofs.YtnmkinnfbbehnaaW.PrintLast Go.Proofs.YtnmkinnfbbehnaaW.PrintMore
attribute [local go_sem] max2_int min2_int max_two min_two max_three min_three max_four min_four   -- for this text's walks alone
set_option linter.unusedVariables false
set_option linter.unusedSimpArgs false

/-! ### spec_DrawStarGap: function 4 -/
def spec_DrawStarGap.f (k:Nat) (l0:List Int):Option (ByteArray):=(spec_l6Open.f l0).bind fun bt131=>((spec_l91Set.f k bt131.1 bt131.2).bind fun bt134=>(some bt134.1))
theorem spec_DrawStarGap.mono:∀ a0 k,LeO (spec_DrawStarGap.f k a0) (spec_DrawStarGap.f (k+1) a0):=by
 intro a0 k
 unfold spec_DrawStarGap.f
 repeat' first
   | (with_reducible exact spec_l91Set.mono _ _ _)
   | (with_reducible exact LeO.refl _)
   | (with_reducible exact LeO.none _)
   | (with_reducible refine LeO.ite ?_ ?_)
   | (with_reducible refine LeO.bind ?_ (fun _=>?_))
   | exact spec_l91Set.mono _ _ _
   | exact LeO.none _
   | refine LeO.ite ?_ ?_
   | refine LeO.bind ?_ (fun _=>?_)
set_option maxHeartbeats 8000000 in
set_option maxRecDepth 100000 in
theorem spec_DrawStarGap.calls (k:Nat) (A0:Option Addr) (c0:Nat) (l0:List Int) (r:ByteArray) (w:World) (hr0:Kd.C (Kd.int .u8) w A0 l0.length l0) (hc0:l0.length≤c0) (h:spec_DrawStarGap.f k l0=some r) :
  Calls Try.prog 4 #[.slice A0 l0.length c0] w fun e w'=>e=.returned (.string r)∧Below w.heap.size w w':=by
 have HR0:=Aside0.mk hr0
 have HC0:=Aside0.mk hc0
 clear hr0 hc0
 have HB:=Aside0.mk (Below.refl w.heap.size w)
 have H:((spec_l6Open.f l0).bind fun bt131=>((spec_l91Set.f k bt131.1 bt131.2).bind fun bt134=>(some bt134.1)))=some r:=h
 clear h
 replace H:=Option.bind_eq_some_iff.mp H
 obtain ⟨⟨t131,t132⟩,A20,H⟩:=H
 replace H:((spec_l91Set.f k t131 t132).bind fun bt134=>(some bt134.1))=some r:=H
 have A2:=Aside0.mk A20
 clear A20
 replace H:=Option.bind_eq_some_iff.mp H
 obtain ⟨⟨t134,t135⟩,A30,H⟩:=H
 replace H:(some t134)=some r:=H
 have A3:=Aside0.mk A30
 clear A30
 obtain rfl:=Option.some.inj H
 go_enter Try.func4,Try.ntmps4
 go_wp2_with (first|((with_reducible refine gate_callee (f:=8) rfl ?_);refine goesL_ (some 5) rfl rfl Try.func8 (by kernel_rfl) rfl #[.slice A0 l0.length c0] rfl (by (try simp only [List.map_toArray,List.map_cons,List.map_nil]);first|done|rfl|(simp only [List.length_drop,List.length_take];rfl)) ?_;(with_reducible refine (spec_l6Open.calls _ _ l0 t131 t132 w _ ?side1 ?side2 ?side3 A2.out).mono ?_);(case side1=>repeat (first|(with_reducible first|exact HB.out|apply yA|apply yB|apply yC)|exact HB.out));(case side2=>exact HR0.out);(case side3=>exact HC0.out);rintro e w4 ⟨g133,rfl,hi,hb,hb2⟩;refine ⟨_,rfl,?_⟩;have n0_:=Aside0.mk (hb);have n1_:=Aside0.mk (hi);clear HB;have HB:=n0_;have HI133:=n1_;clear n0_ n1_;(try clear hb);(try clear hb2);(try clear hk);(try clear hi))|((with_reducible refine gate_callee (f:=9) rfl ?_);refine goesL_ (some 7) rfl rfl Try.func9 (by kernel_rfl) rfl #[.pointer (some ⟨g133,0,none⟩)] rfl (by (try simp only [List.map_toArray,List.map_cons,List.map_nil]);first|done|rfl|(simp only [List.length_drop,List.length_take];rfl)) ?_;(with_reducible refine (spec_l91Set.calls k g133 t131 t132 t134 t135 w _ ?side1 ?side2 A3.out).mono ?_);(case side1=>repeat (first|(with_reducible first|exact HI133.out|apply IsS48.alloc|apply IsS48.drewN|apply IsS48.drew|apply IsS48.set_1)|exact HI133.out));(case side2=>repeat (first|(with_reducible first|exact HB.out|apply yA|apply yB|apply yC|refine yD ?_ (IsS48.ge HI133.out))|exact HB.out));rintro e w5 ⟨rfl,hi,hb,hk⟩;refine ⟨_,rfl,?_⟩;have n0_:=Aside0.mk (hb);have n1_:=Aside0.mk (hi);clear HB;clear HI133;have HB:=n0_;have HI133:=n1_;clear n0_ n1_;(try clear hb);(try clear hb2);(try clear hk);(try clear hi)))
 go_ret
 exact ⟨by first|rfl|(simp [errW_none,errW_some]<;>rfl)|(simp [*,errW_none,errW_some]<;>rfl)|(simp [errW_none,errW_some];exact ⟨rfl,rfl⟩),by repeat (first|(with_reducible first|exact HB.out|apply yA|apply yB|apply yC|refine yD ?_ (IsS48.ge HI133.out))|exact HB.out)⟩

end Go.Proofs.Ytnmkinnfbbehnaa.P

namespace Go.Proofs.Ytnmkinnfbbehnaa.P
open Go.RowKit Go.Proofs.YtnmkinnfbbehnaaW.PrintWords Go.Proofs.YtnmkinnfbbehnaaW.PrintLast Go.Proofs.YtnmkinnfbbehnaaW.PrintMore
attribute [local go_sem] max2_int min2_int max_two min_two max_three min_three max_four min_four   -- for this text's walks alone
set_option linter.unusedVariables false
set_option linter.unusedSimpArgs false

/-! ### spec_StarGap: function 6 -/
mutual
def spec_StarGap.j0:Nat→Bool→List Bool→List Bool→Option (Int × Bool)
 | 0,_,_,_=>none
 | k+1,x20,x347000,x347001=>if x20=true then (some (0,false)) else ((spec_l4Star.f k x347000 x347001 2440).bind fun t348=>(spec_StarGap.l0 k t348 2400))
def spec_StarGap.l0:Nat→List Bool→Int→Option (Int × Bool)
 | 0,_,_=>none
 | k+1,x6,x7=>if x7<2440 then (if 0≤x7 then (if x7<(x6.length:Int) then (if rdOf false x6 x7=true then (spec_StarGap.l0 k x6 (wrap64 (x7+1))) else (some (0,false))) else (none)) else (none)) else (spec_StarGap.l1 k x6 2399)
def spec_StarGap.l1:Nat→List Bool→Int→Option (Int × Bool)
 | 0,_,_=>none
 | k+1,x6,x8=>if x8 > 0 then (if 0≤x8 then (if x8<(x6.length:Int) then (if rdOf false x6 x8=true then (spec_StarGap.l1 k x6 (wrap64 (x8 - 1))) else (some (x8,true))) else (none)) else (none)) else (some (0,false))
end
def spec_StarGap.f (k:Nat) (a0:ByteArray):Option (Int × Bool):=(spec_l4Small.f k a0).bind fun bt339=>(if bt339.2.2=true then ((spec_l4Least.f k bt339.1 bt339.2.1).bind fun t347=>(spec_StarGap.j0 k (t347 == 0) bt339.1 bt339.2.1)) else (spec_StarGap.j0 k true bt339.1 bt339.2.1))
theorem spec_StarGap.mono_l:∀ k,(∀ y0 y1 y2,LeO (spec_StarGap.j0 k y0 y1 y2) (spec_StarGap.j0 (k+1) y0 y1 y2))∧(∀ y0 y1,LeO (spec_StarGap.l0 k y0 y1) (spec_StarGap.l0 (k+1) y0 y1))∧(∀ y0 y1,LeO (spec_StarGap.l1 k y0 y1) (spec_StarGap.l1 (k+1) y0 y1))
 | 0=>⟨fun _ _ _ r h=>by simp [spec_StarGap.j0] at h,fun _ _ r h=>by simp [spec_StarGap.l0] at h,fun _ _ r h=>by simp [spec_StarGap.l1] at h⟩
 | k+1=>by
  obtain ⟨ih0,ih1,ih2⟩:=spec_StarGap.mono_l k
  refine ⟨?_,?_,?_⟩
  ·intro y0 y1 y2
   unfold spec_StarGap.j0
   repeat' first
   | (with_reducible exact ih0 _ _ _)
   | (with_reducible exact ih1 _ _)
   | (with_reducible exact ih2 _ _)
   | (with_reducible exact spec_l4Least.mono _ _ _)
   | (with_reducible exact spec_l4Small.mono _ _)
   | (with_reducible exact spec_l4Star.mono _ _ _ _)
   | (with_reducible exact LeO.refl _)
   | (with_reducible exact LeO.none _)
   | (with_reducible refine LeO.ite ?_ ?_)
   | (with_reducible refine LeO.bind ?_ (fun _=>?_))
   | exact ih0 _ _ _
   | exact ih1 _ _
   | exact ih2 _ _
   | exact spec_l4Least.mono _ _ _
   | exact spec_l4Small.mono _ _
   | exact spec_l4Star.mono _ _ _ _
   | exact LeO.none _
   | refine LeO.ite ?_ ?_
   | refine LeO.bind ?_ (fun _=>?_)
  ·intro y0 y1
   unfold spec_StarGap.l0
   repeat' first
   | (with_reducible exact ih0 _ _ _)
   | (with_reducible exact ih1 _ _)
   | (with_reducible exact ih2 _ _)
   | (with_reducible exact spec_l4Least.mono _ _ _)
   | (with_reducible exact spec_l4Small.mono _ _)
   | (with_reducible exact spec_l4Star.mono _ _ _ _)
   | (with_reducible exact LeO.refl _)
   | (with_reducible exact LeO.none _)
   | (with_reducible refine LeO.ite ?_ ?_)
   | (with_reducible refine LeO.bind ?_ (fun _=>?_))
   | exact ih0 _ _ _
   | exact ih1 _ _
   | exact ih2 _ _
   | exact spec_l4Least.mono _ _ _
   | exact spec_l4Small.mono _ _
   | exact spec_l4Star.mono _ _ _ _
   | exact LeO.none _
   | refine LeO.ite ?_ ?_
   | refine LeO.bind ?_ (fun _=>?_)
  ·intro y0 y1
   unfold spec_StarGap.l1
   repeat' first
   | (with_reducible exact ih0 _ _ _)
   | (with_reducible exact ih1 _ _)
   | (with_reducible exact ih2 _ _)
   | (with_reducible exact spec_l4Least.mono _ _ _)
   | (with_reducible exact spec_l4Small.mono _ _)
   | (with_reducible exact spec_l4Star.mono _ _ _ _)
   | (with_reducible exact LeO.refl _)
   | (with_reducible exact LeO.none _)
   | (with_reducible refine LeO.ite ?_ ?_)
   | (with_reducible refine LeO.bind ?_ (fun _=>?_))
   | exact ih0 _ _ _
   | exact ih1 _ _
   | exact ih2 _ _
   | exact spec_l4Least.mono _ _ _
   | exact spec_l4Small.mono _ _
   | exact spec_l4Star.mono _ _ _ _
   | exact LeO.none _
   | refine LeO.ite ?_ ?_
   | refine LeO.bind ?_ (fun _=>?_)
theorem spec_StarGap.mono:∀ a0 k,LeO (spec_StarGap.f k a0) (spec_StarGap.f (k+1) a0):=by
 intro a0 k
 obtain ⟨ih0,ih1,ih2⟩:=spec_StarGap.mono_l k
 unfold spec_StarGap.f
 repeat' first
   | (with_reducible exact ih0 _ _ _)
   | (with_reducible exact ih1 _ _)
   | (with_reducible exact ih2 _ _)
   | (with_reducible exact spec_l4Least.mono _ _ _)
   | (with_reducible exact spec_l4Small.mono _ _)
   | (with_reducible exact spec_l4Star.mono _ _ _ _)
   | (with_reducible exact LeO.refl _)
   | (with_reducible exact LeO.none _)
   | (with_reducible refine LeO.ite ?_ ?_)
   | (with_reducible refine LeO.bind ?_ (fun _=>?_))
   | exact ih0 _ _ _
   | exact ih1 _ _
   | exact ih2 _ _
   | exact spec_l4Least.mono _ _ _
   | exact spec_l4Small.mono _ _
   | exact spec_l4Star.mono _ _ _ _
   | exact LeO.none _
   | refine LeO.ite ?_ ?_
   | refine LeO.bind ?_ (fun _=>?_)
set_option maxHeartbeats 8000000 in
set_option maxRecDepth 100000 in
theorem spec_StarGap.calls (k:Nat) (a0:ByteArray) (r1:Int) (r2:Bool) (w:World) (h:spec_StarGap.f k a0=some (r1,r2)) :
  Calls Try.prog 6 #[.string a0] w fun e w'=>e=.returned (.tuple #[.int .i64 r1,.bool r2])∧Below w.heap.size w w':=by
 have hu41:=Try.underlying41
 have HB:=Aside0.mk (Below.refl w.heap.size w)
 have H:((spec_l4Small.f k a0).bind fun bt339=>(if bt339.2.2=true then ((spec_l4Least.f k bt339.1 bt339.2.1).bind fun t347=>(spec_StarGap.j0 k (t347 == 0) bt339.1 bt339.2.1)) else (spec_StarGap.j0 k true bt339.1 bt339.2.1)))=some (r1,r2):=h
 clear h
 replace H:=Option.bind_eq_some_iff.mp H
 obtain ⟨⟨t339,t342,t345⟩,A20,H⟩:=H
 replace H:(if t345=true then ((spec_l4Least.f k t339 t342).bind fun t347=>(spec_StarGap.j0 k (t347 == 0) t339 t342)) else (spec_StarGap.j0 k true t339 t342))=some (r1,r2):=H
 have A2:=Aside0.mk A20
 clear A20
 have HC3:=Aside0.mk H
 clear H
 go_enter Try.func6,Try.ntmps6
 go_upto_region 2 with (first|((with_reducible refine gate_callee (f:=13) rfl ?_);refine goesL_ (some 11) rfl rfl Try.func13 (by kernel_rfl) rfl #[.string a0] rfl (by (try simp only [List.map_toArray,List.map_cons,List.map_nil]);first|done|rfl|(simp only [List.length_drop,List.length_take];rfl)) ?_;(with_reducible refine (spec_l4Small.calls k a0 t339 t342 t345 _ A2.out).mono ?_);rintro e w4 ⟨v340,v343,rfl,ho0,ho1,hb⟩;refine ⟨_,rfl,?_⟩;have n0_:=Aside0.mk (Kd.V_lower (Kd.V_mono (ok':=fun k_=>True) ho0 (fun k_ hk_=>trivial)) (yQ (by repeat (first|(with_reducible first|exact HB.out|apply yA|apply yB|apply yC)|exact HB.out))));have n1_:=Aside0.mk (Kd.V_lower (Kd.V_mono (ok':=fun k_=>True) ho1 (fun k_ hk_=>trivial)) (yQ (by repeat (first|(with_reducible first|exact HB.out|apply yA|apply yB|apply yC)|exact HB.out))));have n2_:=Aside0.mk (yP (by repeat (first|(with_reducible first|exact HB.out|apply yA|apply yB|apply yC)|exact HB.out)) hb);clear HB;have HO341:=n0_;have HO344:=n1_;have HB:=n2_;clear n0_ n1_ n2_;(try clear hb);(try clear hb2);(try clear hk);(try clear hi);(try clear ho0);(try clear ho1))|((with_reducible refine gate_dst (N:=4) rfl ?_);refine box_event ?hg (N:=4) ?hd (cs:=#[.slice none 0 0,.slice none 0 0]) (t:=41) ?hr ?_;(case hd=>rfl);(case hg=>rfl);(case hr=>first|(go_simp;done)|(go_simp;rfl));intro gb346 hg w5 hbox hb;have n0_:=Aside0.mk (Kd.V_below (Kd.V_elderB (by (with_reducible repeat (first|apply Kd.V_alloc|apply Kd.V_drewN|apply Kd.V_drew));exact HO341.out) gb346 (Nat.le_of_eq hg.symm)) hb);have n1_:=Aside0.mk (Kd.V_below (Kd.V_elderB (by (with_reducible repeat (first|apply Kd.V_alloc|apply Kd.V_drewN|apply Kd.V_drew));exact HO344.out) gb346 (Nat.le_of_eq hg.symm)) hb);have n2_:=Aside0.mk (yP (by repeat (first|(with_reducible first|exact HB.out|apply yA|apply yB|apply yC)|exact HB.out)) hb);have n3_:=Aside0.mk (hbox);have n4_:=Aside0.mk ((by rw [hg];exact (yQ (by repeat (first|(with_reducible first|exact HB.out|apply yA|apply yB|apply yC)|exact HB.out))):w.heap.size≤gb346));have n5_:=Aside0.mk ((by rw [hg];exact (yQ (by repeat (first|(with_reducible first|exact HB.out|apply yA|apply yB|apply yC)|exact HB.out))):w.heap.size≤gb346));clear HO341;clear HO344;clear HB;have HO341:=n0_;have HO344:=n1_;have HB:=n2_;have BK346:=n3_;have GW346:=n4_;have GE346:=n5_;clear n0_ n1_ n2_ n3_ n4_ n5_;clear hb hbox hg;obtain ⟨Ao6,co6,eo6⟩:=Kd.V_slice HO341.out;subst eo6;have hcz7_0:w5.cell? ⟨gb346,0,none⟩=some (.slice none 0 0):=(blk_cell BK346.out 0).trans rfl;have hcz7_1:w5.cell? ⟨gb346,1,none⟩=some (.slice none 0 0):=(blk_cell BK346.out 1).trans rfl;have hfz7_0:=blk_frozen BK346.out 0;have hfz7_1:=blk_frozen BK346.out 1;obtain ⟨Ao8,co8,eo8⟩:=Kd.V_slice HO344.out;subst eo8))
 (try simp only [Act.put,yK,yL,yM])
 go_cut [20] (fun v20 wc=>∃ (kq:Nat) (x20_2:Bool),v20=.bool x20_2∧Aside0 (spec_StarGap.j0 kq x20_2 t339 t342=some (r1,r2))∧Aside0 (kq≤k)∧Aside0 (Kd.V Kd.bool 4 wc w.heap.size (fun k_=>k_≠gb346) (.slice Ao6 t339.length co6) t339)∧Aside0 (Kd.V Kd.bool 4 wc w.heap.size (fun k_=>k_≠gb346) (.slice Ao8 t342.length co8) t342)∧Aside0 (wc.heap[gb346]?=some (.cells #[(.slice Ao6 t339.length co6),(.slice Ao8 t342.length co8)] 41 (0,0)))∧Aside0 (Below w.heap.size w wc))
 case first =>
  have H:=HC3.out
  clear HC3
  by_cases c9:t345=true
  ·subst c9
   have H1:((spec_l4Least.f k t339 t342).bind fun t347=>(spec_StarGap.j0 k (t347 == 0) t339 t342))=some (r1,r2):=by rw [if_pos rfl] at H;exact H
   clear H
   have H:=H1
   clear H1
   replace H:=Option.bind_eq_some_iff.mp H
   obtain ⟨t347,A100,H⟩:=H
   replace H:(spec_StarGap.j0 k (t347 == 0) t339 t342)=some (r1,r2):=H
   have A10:=Aside0.mk A100
   clear A100
   have H':=Aside0.mk H
   clear H
   have hcz11_0:w5.cell? ⟨gb346,0,none⟩=some (.slice none 0 0):=(blk_cell BK346.out 0).trans rfl
   have hcz11_1:w5.cell? ⟨gb346,1,none⟩=some (.slice none 0 0):=(blk_cell BK346.out 1).trans rfl
   have hfz11_0:=blk_frozen BK346.out 0
   have hfz11_1:=blk_frozen BK346.out 1
   go_wp2_with (first|(go_at_call 14;(with_reducible refine (spec_l4Least.calls k _ _ t339 _ _ t342 t347 _ ?side1 ?side2 ?side3 ?side4 A10.out).mono ?_);(case side1=>refine (Kd.V_reads' (e:=4) (base:=w.heap.size) (ok:=fun k_=>(True∧k_≠gb346)) (n:=t339.length) (c:=co6) ?_).2.2;exact (by (with_reducible repeat (first|apply Kd.V_alloc|apply Kd.V_drewN|apply Kd.V_drew));exact (Kd.V_mono (Kd.V_far (p:=⟨gb346,1,none⟩) (Kd.V_far (p:=⟨gb346,0,none⟩) (Kd.V_mono HO341.out (fun k_ hk=>(⟨hk,hk.2⟩:_∧k_≠gb346))) (fun _ hk=>hk.2) (.slice Ao6 t339.length co6)) (fun _ hk=>hk.2) (.slice Ao8 t342.length co8)) (fun _ h_=>h_.1))));(case side2=>exact (Kd.V_reads' HO341.out).2.1);(case side3=>refine (Kd.V_reads' (e:=4) (base:=w.heap.size) (ok:=fun k_=>(True∧k_≠gb346)) (n:=t342.length) (c:=co8) ?_).2.2;exact (by (with_reducible repeat (first|apply Kd.V_alloc|apply Kd.V_drewN|apply Kd.V_drew));exact (Kd.V_mono (Kd.V_far (p:=⟨gb346,1,none⟩) (Kd.V_far (p:=⟨gb346,0,none⟩) (Kd.V_mono HO344.out (fun k_ hk=>(⟨hk,hk.2⟩:_∧k_≠gb346))) (fun _ hk=>hk.2) (.slice Ao6 t339.length co6)) (fun _ hk=>hk.2) (.slice Ao8 t342.length co8)) (fun _ h_=>h_.1))));(case side4=>exact (Kd.V_reads' HO344.out).2.1);rintro e w12 ⟨rfl,hb⟩;have n0_:=Aside0.mk (Kd.V_below (by (with_reducible repeat (first|apply Kd.V_alloc|apply Kd.V_drewN|apply Kd.V_drew));exact (Kd.V_mono (Kd.V_far (p:=⟨gb346,1,none⟩) (Kd.V_far (p:=⟨gb346,0,none⟩) (Kd.V_mono HO341.out (fun k_ hk=>(⟨hk,hk.2⟩:_∧k_≠gb346))) (fun _ hk=>hk.2) (.slice Ao6 t339.length co6)) (fun _ hk=>hk.2) (.slice Ao8 t342.length co8)) (fun _ h_=>h_.1))) hb);have n1_:=Aside0.mk (Kd.V_below (by (with_reducible repeat (first|apply Kd.V_alloc|apply Kd.V_drewN|apply Kd.V_drew));exact (Kd.V_mono (Kd.V_far (p:=⟨gb346,1,none⟩) (Kd.V_far (p:=⟨gb346,0,none⟩) (Kd.V_mono HO344.out (fun k_ hk=>(⟨hk,hk.2⟩:_∧k_≠gb346))) (fun _ hk=>hk.2) (.slice Ao6 t339.length co6)) (fun _ hk=>hk.2) (.slice Ao8 t342.length co8)) (fun _ h_=>h_.1))) hb);have n2_:=Aside0.mk (blk_below (g:=gb346) (o:=.cells #[.slice Ao6 t339.length co6,.slice Ao8 t342.length co8] 41 (0,0)) (by (with_reducible repeat (first|refine yE ?_ _|refine yF ?_|refine yG ?_ _));refine blk_put (cs:=#[.slice Ao6 t339.length co6,.slice none 0 0]) ?_ 1 _ rfl;(with_reducible repeat (first|refine yE ?_ _|refine yF ?_|refine yG ?_ _));refine blk_put (cs:=#[.slice none 0 0,.slice none 0 0]) ?_ 0 _ rfl;(with_reducible repeat (first|refine yE ?_ _|refine yF ?_|refine yG ?_ _));exact BK346.out) hb);have n3_:=Aside0.mk (yP (by repeat (first|(with_reducible first|exact HB.out|apply yA|apply yB|apply yC|refine yD ?_ GE346.out)|exact HB.out)) hb);clear HO341;clear HO344;clear BK346;clear HB;have HO341:=n0_;have HO344:=n1_;have BK346:=n2_;have HB:=n3_;clear n0_ n1_ n2_ n3_;(try clear hb);(try clear hb2);(try clear hk);(try clear hi)))
   go_meet
   case rel=>exact ⟨_,((t347 == 0)),(by first|rfl|(simp;done)|(simp [*];done)|(simp [Int.tmod_eq_emod_of_nonneg];done)),H',⟨by first|omega|exact Nat.le_refl _⟩,⟨by (with_reducible repeat (first|apply Kd.V_alloc|apply Kd.V_drewN|apply Kd.V_drew));exact Kd.V_mono HO341.out (fun _ hk=>hk.2)⟩,⟨by (with_reducible repeat (first|apply Kd.V_alloc|apply Kd.V_drewN|apply Kd.V_drew));exact Kd.V_mono HO344.out (fun _ hk=>hk.2)⟩,⟨by (with_reducible repeat (first|refine yE ?_ _|refine yF ?_|refine yG ?_ _));exact BK346.out⟩,⟨by repeat (first|(with_reducible first|exact HB.out|apply yA|apply yB|apply yC|refine yD ?_ GE346.out)|exact HB.out)⟩⟩
  ·replace c9:=Bool.eq_false_iff.mpr c9
   subst c9
   have H1:(spec_StarGap.j0 k true t339 t342)=some (r1,r2):=by rw [if_neg (show ¬ (false=true) by decide)] at H;exact H
   clear H
   have H:=H1
   clear H1
   have H':=Aside0.mk H
   clear H
   go_wp2
   go_meet
   case rel=>exact ⟨_,(true),(by first|rfl|(simp;done)|(simp [*];done)|(simp [Int.tmod_eq_emod_of_nonneg];done)),H',⟨by first|omega|exact Nat.le_refl _⟩,⟨by (with_reducible repeat (first|apply Kd.V_alloc|apply Kd.V_drewN|apply Kd.V_drew));exact Kd.V_mono (Kd.V_far (p:=⟨gb346,1,none⟩) (Kd.V_far (p:=⟨gb346,0,none⟩) (Kd.V_mono HO341.out (fun k_ hk=>(⟨hk,hk.2⟩:_∧k_≠gb346))) (fun _ hk=>hk.2) (.slice Ao6 t339.length co6)) (fun _ hk=>hk.2) (.slice Ao8 t342.length co8)) (fun _ hk=>hk.1.2)⟩,⟨by (with_reducible repeat (first|apply Kd.V_alloc|apply Kd.V_drewN|apply Kd.V_drew));exact Kd.V_mono (Kd.V_far (p:=⟨gb346,1,none⟩) (Kd.V_far (p:=⟨gb346,0,none⟩) (Kd.V_mono HO344.out (fun k_ hk=>(⟨hk,hk.2⟩:_∧k_≠gb346))) (fun _ hk=>hk.2) (.slice Ao6 t339.length co6)) (fun _ hk=>hk.2) (.slice Ao8 t342.length co8)) (fun _ hk=>hk.1.2)⟩,⟨by (with_reducible repeat (first|refine yE ?_ _|refine yF ?_|refine yG ?_ _));refine blk_put (cs:=#[.slice Ao6 t339.length co6,.slice none 0 0]) ?_ 1 _ rfl;(with_reducible repeat (first|refine yE ?_ _|refine yF ?_|refine yG ?_ _));refine blk_put (cs:=#[.slice none 0 0,.slice none 0 0]) ?_ 0 _ rfl;(with_reducible repeat (first|refine yE ?_ _|refine yF ?_|refine yG ?_ _));exact BK346.out⟩,⟨by repeat (first|(with_reducible first|exact HB.out|apply yA|apply yB|apply yC|refine yD ?_ GE346.out)|exact HB.out)⟩⟩
 case rest =>
  clear HC3
  try clear c1
  try clear p2
  try clear c6
  try clear c9
  try clear hcz11_0
  try clear hcz11_1
  try clear hcz7_0
  try clear hcz7_1
  try clear hfz11_0
  try clear hfz11_1
  try clear hfz7_0
  try clear hfz7_1
  obtain ⟨kq,x20_2,rfl,HA,HJ2,HO_347000,HO_347001,BK346,HB⟩:=hcut
  cases kq with
  | zero=>exact absurd HA.out (by simp [spec_StarGap.j0])
  | succ kj2 =>
   have H:=HA.out
   clear HA
   simp only [spec_StarGap.j0] at H
   by_cases c13:x20_2=true
   ·subst c13
    have H1:(some (0,false))=some (r1,r2):=by rw [if_pos rfl] at H;exact H
    clear H
    have H:=H1
    clear H1
    simp only [Option.some.injEq,Prod.mk.injEq] at H
    obtain ⟨rfl,rfl⟩:=H
    go_wp2
    go_ret2
    exact ⟨by first|rfl|(simp [errW_none,errW_some]<;>rfl)|(simp [*,errW_none,errW_some]<;>rfl)|(simp [errW_none,errW_some];exact ⟨rfl,rfl⟩),by repeat (first|(with_reducible first|exact HB.out|apply yA|apply yB|apply yC|refine yD ?_ GE346.out)|exact HB.out)⟩
   ·replace c13:=Bool.eq_false_iff.mpr c13
    subst c13
    have H1:((spec_l4Star.f kj2 t339 t342 2440).bind fun t348=>(spec_StarGap.l0 kj2 t348 2400))=some (r1,r2):=by rw [if_neg (show ¬ (false=true) by decide)] at H;exact H
    clear H
    have H:=H1
    clear H1
    replace H:=Option.bind_eq_some_iff.mp H
    obtain ⟨t348,A140,H⟩:=H
    replace H:(spec_StarGap.l0 kj2 t348 2400)=some (r1,r2):=H
    have A14:=Aside0.mk A140
    clear A140
    have H':=Aside0.mk H
    clear H
    have hcz15_0:wc.cell? ⟨gb346,0,none⟩=some (.slice Ao6 t339.length co6):=(blk_cell BK346.out 0).trans rfl
    have hcz15_1:wc.cell? ⟨gb346,1,none⟩=some (.slice Ao8 t342.length co8):=(blk_cell BK346.out 1).trans rfl
    have hfz15_0:=blk_frozen BK346.out 0
    have hfz15_1:=blk_frozen BK346.out 1
    go_wp2_with (first|((with_reducible refine gate_callee (f:=15) rfl ?_);refine goesL_ (some 22) rfl rfl Try.func15 (by kernel_rfl) rfl #[.agg #[.slice Ao6 t339.length co6,.slice Ao8 t342.length co8],.int .i64 2440] rfl (by (try simp only [List.map_toArray,List.map_cons,List.map_nil]);first|done|rfl|(simp only [List.length_drop,List.length_take];rfl)) ?_;(with_reducible refine (spec_l4Star.calls kj2 _ _ t339 _ _ t342 2440 t348 _ ?side1 ?side2 ?side3 ?side4 A14.out).mono ?_);(case side1=>repeat (first|exact (Kd.V_reads' HO_347000.out).2.2|(with_reducible refine Kd.C_alloc ?_ _)|(with_reducible refine Kd.C_drewN ?_ _)|(with_reducible refine Kd.C_drew ?_)));(case side2=>exact (Kd.V_reads' HO_347000.out).2.1);(case side3=>repeat (first|exact (Kd.V_reads' HO_347001.out).2.2|(with_reducible refine Kd.C_alloc ?_ _)|(with_reducible refine Kd.C_drewN ?_ _)|(with_reducible refine Kd.C_drew ?_)));(case side4=>exact (Kd.V_reads' HO_347001.out).2.1);rintro e w16 ⟨v349,rfl,ho0,hb⟩;refine ⟨_,rfl,?_⟩;have n0_:=Aside0.mk (Kd.V_elder' (by (with_reducible repeat (first|apply Kd.V_alloc|apply Kd.V_drewN|apply Kd.V_drew));exact HO_347000.out) (Kd.R_base ho0) hb);have n1_:=Aside0.mk (Kd.V_elder' (by (with_reducible repeat (first|apply Kd.V_alloc|apply Kd.V_drewN|apply Kd.V_drew));exact HO_347001.out) (Kd.R_base ho0) hb);have n2_:=Aside0.mk (Kd.R_lower ho0 (yQ (by repeat (first|(with_reducible first|exact HB.out|apply yA|apply yB|apply yC|refine yD ?_ GE346.out)|exact HB.out))));have n3_:=Aside0.mk (blk_below (g:=gb346) (o:=.cells #[.slice Ao6 t339.length co6,.slice Ao8 t342.length co8] 41 (0,0)) (by (with_reducible repeat (first|refine yE ?_ _|refine yF ?_|refine yG ?_ _));exact BK346.out) hb);have n4_:=Aside0.mk (yP (by repeat (first|(with_reducible first|exact HB.out|apply yA|apply yB|apply yC|refine yD ?_ GE346.out)|exact HB.out)) hb);clear HO_347000;clear HO_347001;clear BK346;clear HB;have HO_347000:=n0_;have HO_347001:=n1_;have HO350:=n2_;have BK346:=n3_;have HB:=n4_;clear n0_ n1_ n2_ n3_ n4_;(try clear hb);(try clear hb2);(try clear hk);(try clear hi);(try clear ho0)))
    go_loopg [7] kj2 (fun kq v7 w'=>∃ (x7_2:Int),v7=.int .i64 x7_2∧Aside0 (spec_StarGap.l0 kq t348 x7_2=some (r1,r2))∧Aside0 (kq≤kj2)∧Aside0 (Kd.R Kd.bool 4 w' w.heap.size (fun _=>True) v349 t348)∧Aside0 (Kd.V Kd.bool 4 w' w.heap.size (fun k_=>some k_≠(v349:Value).ownBlock∧k_≠gb346) (.slice Ao6 t339.length co6) t339)∧Aside0 (Kd.V Kd.bool 4 w' w.heap.size (fun k_=>some k_≠(v349:Value).ownBlock∧k_≠gb346) (.slice Ao8 t342.length co8) t342)∧Aside0 (w'.heap[gb346]?=some (.cells #[(.slice Ao6 t339.length co6),(.slice Ao8 t342.length co8)] 41 (0,0)))∧Aside0 (Below w.heap.size w w'))
    case atStart=>exact ⟨(2400),(by first|rfl|(simp;done)|(simp [*];done)|(simp [Int.tmod_eq_emod_of_nonneg];done)),H',⟨Nat.le_refl _⟩,⟨by (with_reducible repeat (first|apply yH|apply yI|apply yJ));exact HO350.out⟩,⟨by (with_reducible repeat (first|apply Kd.V_alloc|apply Kd.V_drewN|apply Kd.V_drew));exact Kd.V_mono HO_347000.out (fun _ hk=>⟨hk.2,hk.1⟩)⟩,⟨by (with_reducible repeat (first|apply Kd.V_alloc|apply Kd.V_drewN|apply Kd.V_drew));exact Kd.V_mono HO_347001.out (fun _ hk=>⟨hk.2,hk.1⟩)⟩,⟨by (with_reducible repeat (first|refine yE ?_ _|refine yF ?_|refine yG ?_ _));exact BK346.out⟩,⟨by repeat (first|(with_reducible first|exact HB.out|apply yA|apply yB|apply yC|refine yD ?_ GE346.out)|exact HB.out)⟩⟩
    case round =>
     clear H'
     try clear c1
     try clear p2
     try clear c6
     try clear c9
     try clear c13
     try clear c15
     try clear hcz11_0
     try clear hcz11_1
     try clear hcz15_0
     try clear hcz15_1
     try clear hcz7_0
     try clear hcz7_1
     try clear hfz11_0
     try clear hfz11_1
     try clear hfz15_0
     try clear hfz15_1
     try clear hfz7_0
     try clear hfz7_1
     try clear p2
     obtain ⟨x7_2,rfl,HA,HK2,HO_6,HO_347000,HO_347001,BK346,HB⟩:=hrel
     cases gk with
     | zero=>exact absurd HA.out (by simp [spec_StarGap.l0])
     | succ k2 =>
      have H:=HA.out
      clear HA
      simp only [spec_StarGap.l0] at H
      by_cases c17:x7_2<2440
      ·rw [if_pos c17] at H
       have c17b0:decide (x7_2<2440)=true:=decide_eq_true c17
       clear c17
       by_cases c18:0≤x7_2
       ·rw [if_pos c18] at H
        have c18b0:decide (0≤x7_2)=true:=decide_eq_true c18
        clear c18
        by_cases c19:x7_2<(t348.length:Int)
        ·rw [if_pos c19] at H
         have c19b0:decide (x7_2<(t348.length:Int))=true:=decide_eq_true c19
         clear c19
         obtain ⟨bq20,hbq20⟩:∃ b_:Bool,b_=(rdOf false t348 x7_2):=⟨_,rfl⟩
         replace H:(if bq20=true then (spec_StarGap.l0 k2 t348 (wrap64 (x7_2+1))) else (some (0,false)))=some (r1,r2):=by rw [← hbq20] at H;exact H
         have Nbq20:=Aside0.mk hbq20
         clear hbq20
         by_cases c21:bq20=true
         ·subst c21
          have H1:(spec_StarGap.l0 k2 t348 (wrap64 (x7_2+1)))=some (r1,r2):=by rw [if_pos rfl] at H;exact H
          clear H
          have H:=H1
          clear H1
          have H':=Aside0.mk H
          clear H
          obtain ⟨Ao22,co22,eo22⟩:=Kd.R_slice HO_6.out
          subst eo22
          have p351:0≤(x7_2:Int):=of_decide_eq_true (by first|(with_reducible assumption)|assumption)
          have q351:x7_2<(t348.length:Int):=of_decide_eq_true (by first|(with_reducible assumption)|assumption)
          obtain ⟨ad351,e351,hx351_0⟩:=Kd.at_bool (Kd.R_reads' HO_6.out).2.2 x7_2 p351 q351
          (try rw [← Nbq20.out] at hx351_0)
          cases e351
          replace p351:=eq_true p351
          replace q351:=eq_true q351
          go_wp2
          go_roundg k2
          case measure=>have:=HJ2.out;have:=HK2.out;omega
          case rel=>exact ⟨(wrap64 (x7_2+1)),(by first|rfl|(simp;done)|(simp [*];done)|(simp [Int.tmod_eq_emod_of_nonneg];done)),H',⟨by have:=HJ2.out;have:=HK2.out;omega⟩,⟨by (with_reducible repeat (first|apply yH|apply yI|apply yJ));exact HO_6.out⟩,⟨by (with_reducible repeat (first|apply Kd.V_alloc|apply Kd.V_drewN|apply Kd.V_drew));exact HO_347000.out⟩,⟨by (with_reducible repeat (first|apply Kd.V_alloc|apply Kd.V_drewN|apply Kd.V_drew));exact HO_347001.out⟩,⟨by (with_reducible repeat (first|refine yE ?_ _|refine yF ?_|refine yG ?_ _));exact BK346.out⟩,⟨by repeat (first|(with_reducible first|exact HB.out|apply yA|apply yB|apply yC|refine yD ?_ GE346.out)|exact HB.out)⟩⟩
         ·replace c21:=Bool.eq_false_iff.mpr c21
          subst c21
          have H1:(some (0,false))=some (r1,r2):=by rw [if_neg (show ¬ (false=true) by decide)] at H;exact H
          clear H
          have H:=H1
          clear H1
          simp only [Option.some.injEq,Prod.mk.injEq] at H
          obtain ⟨rfl,rfl⟩:=H
          obtain ⟨Ao23,co23,eo23⟩:=Kd.R_slice HO_6.out
          subst eo23
          have p351:0≤(x7_2:Int):=of_decide_eq_true (by first|(with_reducible assumption)|assumption)
          have q351:x7_2<(t348.length:Int):=of_decide_eq_true (by first|(with_reducible assumption)|assumption)
          obtain ⟨ad351,e351,hx351_0⟩:=Kd.at_bool (Kd.R_reads' HO_6.out).2.2 x7_2 p351 q351
          (try rw [← Nbq20.out] at hx351_0)
          cases e351
          replace p351:=eq_true p351
          replace q351:=eq_true q351
          go_wp2
          go_ret2
          exact ⟨by first|rfl|(simp [errW_none,errW_some]<;>rfl)|(simp [*,errW_none,errW_some]<;>rfl)|(simp [errW_none,errW_some];exact ⟨rfl,rfl⟩),by repeat (first|(with_reducible first|exact HB.out|apply yA|apply yB|apply yC|refine yD ?_ GE346.out)|exact HB.out)⟩
        ·rw [if_neg c19] at H
         exact absurd H (by simp)
       ·rw [if_neg c18] at H
        exact absurd H (by simp)
      ·rw [if_neg c17] at H
       have c17b0:decide (x7_2<2440)=false:=decide_eq_false c17
       clear c17
       have H':=Aside0.mk H
       clear H
       go_wp2
       go_loopg [8] k2 (fun kq v8 w'=>∃ (x8_3:Int),v8=.int .i64 x8_3∧Aside0 (spec_StarGap.l1 kq t348 x8_3=some (r1,r2))∧Aside0 (kq≤k2)∧Aside0 (Kd.R Kd.bool 4 w' w.heap.size (fun _=>True) v349 t348)∧Aside0 (Kd.V Kd.bool 4 w' w.heap.size (fun k_=>some k_≠(v349:Value).ownBlock∧k_≠gb346) (.slice Ao6 t339.length co6) t339)∧Aside0 (Kd.V Kd.bool 4 w' w.heap.size (fun k_=>some k_≠(v349:Value).ownBlock∧k_≠gb346) (.slice Ao8 t342.length co8) t342)∧Aside0 (w'.heap[gb346]?=some (.cells #[(.slice Ao6 t339.length co6),(.slice Ao8 t342.length co8)] 41 (0,0)))∧Aside0 (Below w.heap.size w w'))
       case atStart=>exact ⟨(2399),(by first|rfl|(simp;done)|(simp [*];done)|(simp [Int.tmod_eq_emod_of_nonneg];done)),H',⟨Nat.le_refl _⟩,⟨by (with_reducible repeat (first|apply yH|apply yI|apply yJ));exact HO_6.out⟩,⟨by (with_reducible repeat (first|apply Kd.V_alloc|apply Kd.V_drewN|apply Kd.V_drew));exact HO_347000.out⟩,⟨by (with_reducible repeat (first|apply Kd.V_alloc|apply Kd.V_drewN|apply Kd.V_drew));exact HO_347001.out⟩,⟨by (with_reducible repeat (first|refine yE ?_ _|refine yF ?_|refine yG ?_ _));exact BK346.out⟩,⟨by repeat (first|(with_reducible first|exact HB.out|apply yA|apply yB|apply yC|refine yD ?_ GE346.out)|exact HB.out)⟩⟩
       case round =>
        clear H'
        try clear c1
        try clear c2
        try clear p2
        try clear q2
        try clear p3
        try clear q3
        try clear hx3
        try clear c6
        try clear p6
        try clear c9
        try clear c13
        try clear c15
        try clear c17
        try clear c17b0
        try clear c18
        try clear c18b0
        try clear c19
        try clear c19b0
        try clear q20
        try clear c21
        try clear hcz11_0
        try clear hcz11_1
        try clear hcz15_0
        try clear hcz15_1
        try clear hcz7_0
        try clear hcz7_1
        try clear hfz11_0
        try clear hfz11_1
        try clear hfz15_0
        try clear hfz15_1
        try clear hfz7_0
        try clear hfz7_1
        try clear hx351_0
        try clear p2
        try clear p351
        try clear q351
        obtain ⟨x8_3,rfl,HA,HK3,HO_6,HO_347000,HO_347001,BK346,HB⟩:=hrel
        cases gk with
        | zero=>exact absurd HA.out (by simp [spec_StarGap.l1])
        | succ k3 =>
         have H:=HA.out
         clear HA
         simp only [spec_StarGap.l1] at H
         by_cases c24:x8_3 > 0
         ·rw [if_pos c24] at H
          have c24b0:decide (0<x8_3)=true:=decide_eq_true c24
          clear c24
          by_cases c25:0≤x8_3
          ·rw [if_pos c25] at H
           have c25b0:decide (0≤x8_3)=true:=decide_eq_true c25
           clear c25
           by_cases c26:x8_3<(t348.length:Int)
           ·rw [if_pos c26] at H
            have c26b0:decide (x8_3<(t348.length:Int))=true:=decide_eq_true c26
            clear c26
            obtain ⟨bq27,hbq27⟩:∃ b_:Bool,b_=(rdOf false t348 x8_3):=⟨_,rfl⟩
            replace H:(if bq27=true then (spec_StarGap.l1 k3 t348 (wrap64 (x8_3 - 1))) else (some (x8_3,true)))=some (r1,r2):=by rw [← hbq27] at H;exact H
            have Nbq27:=Aside0.mk hbq27
            clear hbq27
            by_cases c28:bq27=true
            ·subst c28
             have H1:(spec_StarGap.l1 k3 t348 (wrap64 (x8_3 - 1)))=some (r1,r2):=by rw [if_pos rfl] at H;exact H
             clear H
             have H:=H1
             clear H1
             have H':=Aside0.mk H
             clear H
             obtain ⟨Ao29,co29,eo29⟩:=Kd.R_slice HO_6.out
             subst eo29
             have p352:0≤(x8_3:Int):=of_decide_eq_true (by first|(with_reducible assumption)|assumption)
             have q352:x8_3<(t348.length:Int):=of_decide_eq_true (by first|(with_reducible assumption)|assumption)
             obtain ⟨ad352,e352,hx352_0⟩:=Kd.at_bool (Kd.R_reads' HO_6.out).2.2 x8_3 p352 q352
             (try rw [← Nbq27.out] at hx352_0)
             cases e352
             replace p352:=eq_true p352
             replace q352:=eq_true q352
             go_wp2
             go_roundg k3
             case measure=>have:=HJ2.out;have:=HK2.out;have:=HK3.out;omega
             case rel=>exact ⟨(wrap64 (x8_3 - 1)),(by first|rfl|(simp;done)|(simp [*];done)|(simp [Int.tmod_eq_emod_of_nonneg];done)),H',⟨by have:=HJ2.out;have:=HK2.out;have:=HK3.out;omega⟩,⟨by (with_reducible repeat (first|apply yH|apply yI|apply yJ));exact HO_6.out⟩,⟨by (with_reducible repeat (first|apply Kd.V_alloc|apply Kd.V_drewN|apply Kd.V_drew));exact HO_347000.out⟩,⟨by (with_reducible repeat (first|apply Kd.V_alloc|apply Kd.V_drewN|apply Kd.V_drew));exact HO_347001.out⟩,⟨by (with_reducible repeat (first|refine yE ?_ _|refine yF ?_|refine yG ?_ _));exact BK346.out⟩,⟨by repeat (first|(with_reducible first|exact HB.out|apply yA|apply yB|apply yC|refine yD ?_ GE346.out)|exact HB.out)⟩⟩
            ·replace c28:=Bool.eq_false_iff.mpr c28
             subst c28
             have H1:(some (x8_3,true))=some (r1,r2):=by rw [if_neg (show ¬ (false=true) by decide)] at H;exact H
             clear H
             have H:=H1
             clear H1
             simp only [Option.some.injEq,Prod.mk.injEq] at H
             obtain ⟨rfl,rfl⟩:=H
             obtain ⟨Ao30,co30,eo30⟩:=Kd.R_slice HO_6.out
             subst eo30
             have p352:0≤(x8_3:Int):=of_decide_eq_true (by first|(with_reducible assumption)|assumption)
             have q352:x8_3<(t348.length:Int):=of_decide_eq_true (by first|(with_reducible assumption)|assumption)
             obtain ⟨ad352,e352,hx352_0⟩:=Kd.at_bool (Kd.R_reads' HO_6.out).2.2 x8_3 p352 q352
             (try rw [← Nbq27.out] at hx352_0)
             cases e352
             replace p352:=eq_true p352
             replace q352:=eq_true q352
             go_wp2
             go_ret2
             exact ⟨by first|rfl|(simp [errW_none,errW_some]<;>rfl)|(simp [*,errW_none,errW_some]<;>rfl)|(simp [errW_none,errW_some];exact ⟨rfl,rfl⟩),by repeat (first|(with_reducible first|exact HB.out|apply yA|apply yB|apply yC|refine yD ?_ GE346.out)|exact HB.out)⟩
           ·rw [if_neg c26] at H
            exact absurd H (by simp)
          ·rw [if_neg c25] at H
           exact absurd H (by simp)
         ·rw [if_neg c24] at H
          have c24b0:decide (0<x8_3)=false:=decide_eq_false c24
          clear c24
          simp only [Option.some.injEq,Prod.mk.injEq] at H
          obtain ⟨rfl,rfl⟩:=H
          go_wp2
          go_ret2
          exact ⟨by first|rfl|(simp [errW_none,errW_some]<;>rfl)|(simp [*,errW_none,errW_some]<;>rfl)|(simp [errW_none,errW_some];exact ⟨rfl,rfl⟩),by repeat (first|(with_reducible first|exact HB.out|apply yA|apply yB|apply yC|refine yD ?_ GE346.out)|exact HB.out)⟩

end Go.Proofs.Ytnmkinnfbbehnaa.P

namespace Go.Proofs.Ytnmkinnfbbehnaa.P
open Go.RowKit Go.Proofs.YtnmkinnfbbehnaaW.PrintWords Go.Proofs.YtnmkinnfbbehnaaW.PrintLast Go.Proofs.YtnmkinnfbbehnaaW.PrintMore
attribute [local go_sem] max2_int min2_int max_two min_two max_three min_three max_four min_four   -- for this text's walks alone
set_option linter.unusedVariables false
set_option linter.unusedSimpArgs false

/-! ### stringslite_HasSuffix: function 36 -/
def stringslite_HasSuffix.f (a0:ByteArray) (a1:ByteArray):Option (Bool):=if (a0.size:Int) ≥ (a1.size:Int) then (if 0≤(wrap64 ((a0.size:Int) - (a1.size:Int))) then (if (wrap64 ((a0.size:Int) - (a1.size:Int)))≤(a0.size:Int) then (some ((a0.extract ((wrap64 ((a0.size:Int) - (a1.size:Int))):Int).toNat a0.size).toList == a1.toList)) else (none)) else (none)) else (some false)
set_option maxHeartbeats 8000000 in
set_option maxRecDepth 100000 in
theorem stringslite_HasSuffix.calls (a0:ByteArray) (a1:ByteArray) (r:Bool) (w:World) (h:stringslite_HasSuffix.f a0 a1=some r) :
  Calls Try.prog 36 #[.string a0,.string a1] w fun e w'=>e=.returned (.bool r)∧Drawn0 w w':=by
 have H:(if (a0.size:Int) ≥ (a1.size:Int) then (if 0≤(wrap64 ((a0.size:Int) - (a1.size:Int))) then (if (wrap64 ((a0.size:Int) - (a1.size:Int)))≤(a0.size:Int) then (some ((a0.extract ((wrap64 ((a0.size:Int) - (a1.size:Int))):Int).toNat a0.size).toList == a1.toList)) else (none)) else (none)) else (some false))=some r:=h
 clear h
 by_cases c3:(a0.size:Int) ≥ (a1.size:Int)
 ·rw [if_pos c3] at H
  have c3b0:decide ((a1.size:Int)≤(a0.size:Int))=true:=decide_eq_true c3
  have c3b1:decide (a1.size≤a0.size)=true:=decide_eq_true (Int.ofNat_le.mp c3)
  clear c3
  obtain ⟨ji4,hji4⟩:∃ j_:Int,(wrap64 ((a0.size:Int) - (a1.size:Int)))=j_:=⟨_,rfl⟩
  replace H:(if 0≤(ji4) then (if (ji4)≤(a0.size:Int) then (some ((a0.extract ((ji4):Int).toNat a0.size).toList == a1.toList)) else (none)) else (none))=some r:=by first|(rw [hji4] at H;exact H)|(simp only [hji4] at H ⊢;exact H)
  have hji4w:(IntKind.i64.wrap ((a0.size:Int) - (a1.size:Int)))=ji4:=(i64_w _).trans hji4
  by_cases c5:0≤(ji4)
  ·rw [if_pos c5] at H
   have c5b0:=eq_true c5
   have c5b1:decide (0≤(ji4))=true:=decide_eq_true c5
   clear c5
   by_cases c6:(ji4)≤(a0.size:Int)
   ·rw [if_pos c6] at H
    have c6b0:=eq_true c6
    have c6b1:decide ((ji4)≤(a0.size:Int))=true:=decide_eq_true c6
    clear c6
    obtain rfl:=Option.some.inj H
    go_enter Try.func36,Try.ntmps36
    go_wp2
    go_ret
    exact ⟨by first|rfl|(simp;done)|(simp only [← hji4]<;>(first|rfl|simp))|(simp [*];done),by repeat (first|exact Drawn0.refl _|apply Drawn0.step)⟩
   ·rw [if_neg c6] at H
    exact absurd H (by simp)
  ·rw [if_neg c5] at H
   exact absurd H (by simp)
 ·rw [if_neg c3] at H
  have c3b0:decide ((a1.size:Int)≤(a0.size:Int))=false:=decide_eq_false c3
  have c3b1:decide (a1.size≤a0.size)=false:=decide_eq_false (fun h=>c3 (Int.ofNat_le.mpr h))
  clear c3
  obtain rfl:=Option.some.inj H
  go_enter Try.func36,Try.ntmps36
  go_wp2
  go_ret
  exact ⟨by first|rfl|(simp;done)|(simp [*];done),by repeat (first|exact Drawn0.refl _|apply Drawn0.step)⟩

end Go.Proofs.Ytnmkinnfbbehnaa.P
