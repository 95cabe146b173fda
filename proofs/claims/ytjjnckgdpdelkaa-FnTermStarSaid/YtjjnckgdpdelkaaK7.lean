/- What these laws reach, joined by a program of this session: contracts (written by that program over the kit's print, or by hand) and plain lemmas. -/
import Derived.Test.YtjjnckgdpdelkaaK1
import Derived.Test.YtjjnckgdpdelkaaK2
import Derived.Test.YtjjnckgdpdelkaaK3
import Derived.Test.YtjjnckgdpdelkaaK4
open Go.Proofs.YtjjnckgdpdelkaaW.PrintWords renaming below_alloc → yA, pw_below_drewN → yB, below_drew1 → yC, below_set → yD, blk_drewN → yE, blk_drew → yF, blk_alloc → yG, below_step → yP, below_size → yQ
open Go.Proofs.YtjjnckgdpdelkaaW.PrintWords.Kd renaming R_alloc → yH, R_drewN → yI, R_drew → yJ
open List renaming setIfInBounds_toArray → yK, set_cons_zero → yL, set_cons_succ → yM
namespace Go.Proofs.Ytjjnckgdpdelkaa.P
open Go.RowKit Go.Proofs.YtjjnckgdpdelkaaW.PrintWords Go.Proofs.YtjjnckgdpdelkaaW.PrintLast Go.Proofs.YtjjnckgdpdelkaaW.PrintMore
attribute [local go_sem] max2_int min2_int max_two min_two max_three min_three max_four min_four   -- for this text's walks alone
set_option linter.unusedVariables false
set_option linter.unusedSimpArgs false

/-! ### spec_DrawTermHas: function 12 -/
def spec_DrawTermHas.f (k:Nat) (l0:List Int):Option (ByteArray × Int):=(spec_l6Open.f l0).bind fun bt225=>((spec_l91Said.f k bt225.1 bt225.2).bind fun bt228=>((spec_l6Rd_pick.f k bt225.1 bt228.2 30).bind fun bt230=>((spec_l6Rd_pick.f k bt225.1 bt230.2 201).bind fun bt232=>((some (([bt230.1,bt232.1,200,201,(-1)]:List Int):List Int)).bind fun y234=>((spec_l6Rd_pick.f k bt225.1 bt232.2 5).bind fun bt237=>(if 0≤bt237.1 then (if bt237.1<(y234.length:Int) then (some (bt228.1,rd y234 bt237.1)) else (none)) else (none)))))))
theorem spec_DrawTermHas.mono:∀ a0 k,LeO (spec_DrawTermHas.f k a0) (spec_DrawTermHas.f (k+1) a0):=by
 intro a0 k
 unfold spec_DrawTermHas.f
 repeat' first
   | (with_reducible exact spec_l6Rd_pick.mono _ _ _ _)
   | (with_reducible exact spec_l91Said.mono _ _ _)
   | (with_reducible exact LeO.refl _)
   | (with_reducible exact LeO.none _)
   | (with_reducible refine LeO.ite ?_ ?_)
   | (with_reducible refine LeO.bind ?_ (fun _=>?_))
   | exact spec_l6Rd_pick.mono _ _ _ _
   | exact spec_l91Said.mono _ _ _
   | exact LeO.none _
   | refine LeO.ite ?_ ?_
   | refine LeO.bind ?_ (fun _=>?_)
def spec_DrawTermHas.T2:Bool × List (List Nat × List Nat):=(true,[([],[]),([0],[0]),([],[]),([2,1],[2]),([],[]),([4,3],[4]),([3,5],[3,5]),([],[]),([7,5],[7]),([6,8],[6,8]),([9],[9]),([1,8,0,1],[1]),([10,11,0,1,2,3,4,5,6,7,8,9,10,11],[10])])
def spec_DrawTermHas.B2:List Nat:=[0,1,0,7,0,31,63,0,191,511,1023,447,4095]
theorem spec_DrawTermHas.tab2:rtab .any (opsOf Try.f12 2)=spec_DrawTermHas.T2:=by kernel_rfl
theorem spec_DrawTermHas.bits2:waitsOk spec_DrawTermHas.T2.2 spec_DrawTermHas.B2=true:=by kernel_rfl
set_option maxHeartbeats 8000000 in
set_option maxRecDepth 100000 in
theorem spec_DrawTermHas.calls (k:Nat) (A0:Option Addr) (c0:Nat) (l0:List Int) (r1:ByteArray) (r2:Int) (w:World) (hr0:Kd.C (Kd.int .u8) w A0 l0.length l0) (hc0:l0.length≤c0) (h:spec_DrawTermHas.f k l0=some (r1,r2)) :
  Calls Try.prog 12 #[.slice A0 l0.length c0] w fun e w'=>e=.returned (.tuple #[.string r1,.int .i64 r2])∧Below w.heap.size w w':=by
 have HR0:=Aside0.mk hr0
 have HC0:=Aside0.mk hc0
 clear hr0 hc0
 have HB:=Aside0.mk (Below.refl w.heap.size w)
 have H:((spec_l6Open.f l0).bind fun bt225=>((spec_l91Said.f k bt225.1 bt225.2).bind fun bt228=>((spec_l6Rd_pick.f k bt225.1 bt228.2 30).bind fun bt230=>((spec_l6Rd_pick.f k bt225.1 bt230.2 201).bind fun bt232=>((some (([bt230.1,bt232.1,200,201,(-1)]:List Int):List Int)).bind fun y234=>((spec_l6Rd_pick.f k bt225.1 bt232.2 5).bind fun bt237=>(if 0≤bt237.1 then (if bt237.1<(y234.length:Int) then (some (bt228.1,rd y234 bt237.1)) else (none)) else (none))))))))=some (r1,r2):=h
 clear h
 replace H:=Option.bind_eq_some_iff.mp H
 obtain ⟨⟨t225,t226⟩,A20,H⟩:=H
 replace H:((spec_l91Said.f k t225 t226).bind fun bt228=>((spec_l6Rd_pick.f k t225 bt228.2 30).bind fun bt230=>((spec_l6Rd_pick.f k t225 bt230.2 201).bind fun bt232=>((some (([bt230.1,bt232.1,200,201,(-1)]:List Int):List Int)).bind fun y234=>((spec_l6Rd_pick.f k t225 bt232.2 5).bind fun bt237=>(if 0≤bt237.1 then (if bt237.1<(y234.length:Int) then (some (bt228.1,rd y234 bt237.1)) else (none)) else (none)))))))=some (r1,r2):=H
 have A2:=Aside0.mk A20
 clear A20
 replace H:=Option.bind_eq_some_iff.mp H
 obtain ⟨⟨t228,t229⟩,A30,H⟩:=H
 replace H:((spec_l6Rd_pick.f k t225 t229 30).bind fun bt230=>((spec_l6Rd_pick.f k t225 bt230.2 201).bind fun bt232=>((some (([bt230.1,bt232.1,200,201,(-1)]:List Int):List Int)).bind fun y234=>((spec_l6Rd_pick.f k t225 bt232.2 5).bind fun bt237=>(if 0≤bt237.1 then (if bt237.1<(y234.length:Int) then (some (t228,rd y234 bt237.1)) else (none)) else (none))))))=some (r1,r2):=H
 have A3:=Aside0.mk A30
 clear A30
 replace H:=Option.bind_eq_some_iff.mp H
 obtain ⟨⟨t230,t231⟩,A40,H⟩:=H
 replace H:((spec_l6Rd_pick.f k t225 t231 201).bind fun bt232=>((some (([t230,bt232.1,200,201,(-1)]:List Int):List Int)).bind fun y234=>((spec_l6Rd_pick.f k t225 bt232.2 5).bind fun bt237=>(if 0≤bt237.1 then (if bt237.1<(y234.length:Int) then (some (t228,rd y234 bt237.1)) else (none)) else (none)))))=some (r1,r2):=H
 have A4:=Aside0.mk A40
 clear A40
 replace H:=Option.bind_eq_some_iff.mp H
 obtain ⟨⟨t232,t233⟩,A50,H⟩:=H
 replace H:((some (([t230,t232,200,201,(-1)]:List Int):List Int)).bind fun y234=>((spec_l6Rd_pick.f k t225 t233 5).bind fun bt237=>(if 0≤bt237.1 then (if bt237.1<(y234.length:Int) then (some (t228,rd y234 bt237.1)) else (none)) else (none))))=some (r1,r2):=H
 have A5:=Aside0.mk A50
 clear A50
 obtain ⟨y234,hy234⟩:∃ y_:List Int,y_=(([t230,t232,200,201,(-1)]:List Int)):=⟨_,rfl⟩
 replace H:((spec_l6Rd_pick.f k t225 t233 5).bind fun bt237=>(if 0≤bt237.1 then (if bt237.1<(y234.length:Int) then (some (t228,rd y234 bt237.1)) else (none)) else (none)))=some (r1,r2):=by first|(rw [hy234];with_reducible exact H)|(have H2_:=(Option.bind_some _ _).symm.trans H;rw [hy234];with_reducible exact H2_)|(have H2_:=(Option.bind_some _ _).symm.trans H;with_reducible exact H2_)|with_reducible exact H|(rw [hy234];exact H)|exact H
 have Ny234:=Aside0.mk hy234
 clear hy234
 replace H:=Option.bind_eq_some_iff.mp H
 obtain ⟨⟨t237,t238⟩,A60,H⟩:=H
 replace H:(if 0≤t237 then (if t237<(y234.length:Int) then (some (t228,rd y234 t237)) else (none)) else (none))=some (r1,r2):=H
 have A6:=Aside0.mk A60
 clear A60
 by_cases c7:0≤t237
 ·rw [if_pos c7] at H
  have c7b0:decide (0≤t237)=true:=decide_eq_true c7
  clear c7
  by_cases c8:t237<(y234.length:Int)
  ·rw [if_pos c8] at H
   have c8b0:decide (t237<(y234.length:Int))=true:=decide_eq_true c8
   clear c8
   simp only [Option.some.injEq,Prod.mk.injEq] at H
   obtain ⟨rfl,rfl⟩:=H
   go_enter Try.func12,Try.ntmps12
   try go_wp2_with (first|((with_reducible refine gate_callee (f:=25) rfl ?_);refine goesL_ (some 6) rfl rfl Try.func25 (by kernel_rfl) rfl #[.slice A0 l0.length c0] rfl (by (try simp only [List.map_toArray,List.map_cons,List.map_nil]);first|done|rfl|(simp only [List.length_drop,List.length_take];rfl)) ?_;(with_reducible refine (spec_l6Open.calls _ _ l0 t225 t226 w _ ?side1 ?side2 ?side3 A2.out).mono ?_);(case side1=>repeat (first|(with_reducible first|exact HB.out|apply yA|apply yB|apply yC)|exact HB.out));(case side2=>exact HR0.out);(case side3=>exact HC0.out);rintro e w9 ⟨g227,rfl,hi,hb,hb2⟩;refine ⟨_,rfl,?_⟩;have n0_:=Aside0.mk (hb);have n1_:=Aside0.mk (hi);clear HB;have HB:=n0_;have HI227:=n1_;clear n0_ n1_;(try clear hb);(try clear hb2);(try clear hk);(try clear hi)))
   have pi239:(0≤(t237:Int))=True:=eq_true (of_decide_eq_true (by first|(with_reducible assumption)|assumption))
   have qi239:(t237<(y234.length:Int))=True:=eq_true (of_decide_eq_true (by first|(with_reducible assumption)|assumption))
   have n0_:=Aside0.mk (IsS60.drew HI227.out)
   have n1_:=Aside0.mk (yC HB.out)
   clear HI227
   clear HB
   have HI227:=n0_
   have HB:=n1_
   clear n0_ n1_
   refine start_ (n:=13) (S:=fun w'=>True) (ds:=[]) #[false,false,false,false,false,false,false,false,false,false,false,false,false] (by kernel_rfl) rfl rfl trivial (fun hHeld=>?_);refine with_tabW spec_DrawTermHas.tab2 spec_DrawTermHas.bits2 (fun HT_ HW_=>?_)
   generalize w9.drew=w10 at HI227 HB hHeld ⊢
   refine pure_ (i:=0) (N:=some 7) (v:=?_) (a':=?_) #[true,false,false,false,false,false,false,false,false,false,false,false,false] rfl rfl (any_of HT_.out (by kernel_rfl)) (fun _ _ _ h=>h) (Or.inl ⟨by rfl,?_⟩) ?_ ?_
   rotate_left
   ·intro w'
    go_simp
    with_reducible rfl
   rotate_left
   ·simp only [Act.put,yK,yL,yM,i64_w,i32_w]
    rfl
   refine pure_ (i:=2) (N:=some 9) (v:=?_) (a':=?_) #[true,false,true,false,false,false,false,false,false,false,false,false,false] rfl rfl (any_of HT_.out (by kernel_rfl)) (fun _ _ _ h=>h) (Or.inl ⟨by rfl,?_⟩) ?_ ?_
   rotate_left
   ·intro w'
    go_simp
    with_reducible rfl
   rotate_left
   ·simp only [Act.put,yK,yL,yM,i64_w,i32_w]
    rfl
   refine pure_ (i:=4) (N:=some 11) (v:=?_) (a':=?_) #[true,false,true,false,true,false,false,false,false,false,false,false,false] rfl rfl (any_of HT_.out (by kernel_rfl)) (fun _ _ _ h=>h) (Or.inl ⟨by rfl,?_⟩) ?_ ?_
   rotate_left
   ·intro w'
    go_simp
    with_reducible rfl
   rotate_left
   ·simp only [Act.put,yK,yL,yM,i64_w,i32_w]
    rfl
   refine pure_ (i:=7) (N:=some 14) (v:=?_) (a':=?_) #[true,false,true,false,true,false,false,true,false,false,false,false,false] rfl rfl (any_of HT_.out (by kernel_rfl)) (fun _ _ _ h=>h) (Or.inl ⟨by rfl,?_⟩) ?_ ?_
   rotate_left
   ·intro w'
    go_simp
    with_reducible rfl
   rotate_left
   ·simp only [Act.put,yK,yL,yM,i64_w,i32_w]
    rfl
   refine inv_at [1,3,5,6,8,9,10,11,12] (fun a0_ b a w'=>∃ (v235:Value) (adz_v235:Addr) (m9_:Value),a=putSel a0_ b [(1,8,.string t228),(3,10,.int .i64 t230),(5,12,.int .i64 t232),(6,13,v235),(8,15,.int .i64 t237),(9,16,m9_),(10,17,.int .i64 (rd y234 t237)),(11,2,.string t228),(12,3,.int .i64 (rd y234 t237))]∧(b 1=false→IsS60 w w' g227 t225 t226)∧(Below w.heap.size w w')∧(b 1=true→b 3=false→IsS60 w w' g227 t225 t229)∧(b 3=true→b 5=false→IsS60 w w' g227 t225 t231)∧(b 5=true→b 8=false→IsS60 w w' g227 t225 t233)∧(b 6=true→Kd.R (Kd.int .i64) 3 w' w.heap.size (fun _=>True) v235 y234)∧(b 6=true→∃ c_,(v235:Value)=.slice (some adz_v235) y234.length c_)∧(b 8=true→IsS60 w w' g227 t225 t238)∧(b 9=true→(m9_:Value)=.pointer (some (adz_v235.add (t237).toNat)))) HT_.out HW_.out (by kernel_rfl) (by kernel_rfl) ?_ ?_ ?_
   ·exact ⟨.bool false,⟨0,0,none⟩,.bool false,by simp only [putSel,Bool.false_eq_true,if_false],fun _=>HI227.out,HB.out,fun h_=>absurd h_ (by decide),fun h_=>absurd h_ (by decide),fun h_=>absurd h_ (by decide),fun h_=>absurd h_ (by decide),fun h_=>absurd h_ (by decide),fun h_=>absurd h_ (by decide),fun h_=>absurd h_ (by decide)⟩
   ·skip
    clear HB HI227
    refine steps_cons ?_ ?_
    ·rintro b a w' ⟨v235,adz_v235,m9_,ha,Q_HI227,Q_HB,Q_HI227_e1,Q_HI227_e3,Q_HI227_e5,Q_HO236,Q_HA_HO236,Q_HI227_e8,Q_X9_⟩ hb_ hon hoff
     refine ⟨_,rfl,fun K hK=>?_⟩
     have e7:a.tmps[7]?=some (.pointer (some ⟨g227,0,none⟩)):=by rw [ha];exact (putSel_off rfl).trans rfl
     replace ha:=Aside0.mk ha
     have HI227:=Aside0.mk (Q_HI227 hb_)
     have HB:=Aside0.mk Q_HB
     refine goes_ Try.func26 (by kernel_rfl) rfl #[.pointer (some ⟨g227,0,none⟩)] (by rfl) rfl rfl (by first|(simp only [List.map_toArray,List.map_cons,List.map_nil,Act.eval,Array.getD_eq_getD_getElem?,Option.getD_some,e7];done)|(simp only [List.map_toArray,List.map_cons,List.map_nil,Act.eval,Array.getD_eq_getD_getElem?,Option.getD_some,e7];rfl)) ?_
     with_reducible refine (spec_l91Said.calls k g227 t225 t226 t228 t229 w _ ?side1 ?side2 A3.out).mono ?_
     (case side1=>repeat (first|(with_reducible first|exact HI227.out|apply IsS60.alloc|apply IsS60.drewN|apply IsS60.drew|apply IsS60.set_1)|exact HI227.out))
     (case side2=>repeat (first|(with_reducible first|exact HB.out|apply yA|apply yB|apply yC|refine yD ?_ (IsS60.ge HI227.out))|exact HB.out))
     rintro e w11 ⟨rfl,hi,hb,hk⟩
     refine ⟨_,rfl,?_⟩
     have n0_:=Aside0.mk (hb)
     have n1_:=Aside0.mk (hi)
     clear HB
     clear HI227
     have HB:=n0_
     have HI227:=n1_
     clear n0_ n1_
     (try clear hb)
     (try clear hb2)
     (try clear hk)
     (try clear hi)
     refine hK.out _ _ ⟨v235,adz_v235,m9_,(by rw [ha.out];exact putSel_upk 0 hb_ rfl rfl rfl),fun h0_=>absurd ((up_self b 1).symm.trans h0_) (by decide),(by repeat (first|(with_reducible first|exact HB.out|apply yA|apply yB|apply yC|refine yD ?_ (IsS60.ge HI227.out))|exact HB.out)),fun _ _=>(by repeat (first|(with_reducible first|exact HI227.out|apply IsS60.alloc|apply IsS60.drewN|apply IsS60.drew|apply IsS60.set_1)|exact HI227.out)),fun h0_ _=>absurd ((hoff 3 (by kernel_rfl)).symm.trans h0_) (by decide),fun h0_ _=>absurd ((hoff 5 (by kernel_rfl)).symm.trans h0_) (by decide),fun h0_=>absurd ((hoff 6 (by kernel_rfl)).symm.trans h0_) (by decide),fun h0_=>absurd ((hoff 6 (by kernel_rfl)).symm.trans h0_) (by decide),fun h0_=>absurd ((hoff 8 (by kernel_rfl)).symm.trans h0_) (by decide),fun h0_=>absurd ((hoff 9 (by kernel_rfl)).symm.trans h0_) (by decide)⟩
    refine steps_cons ?_ ?_
    ·rintro b a w' ⟨v235,adz_v235,m9_,ha,Q_HI227,Q_HB,Q_HI227_e1,Q_HI227_e3,Q_HI227_e5,Q_HO236,Q_HA_HO236,Q_HI227_e8,Q_X9_⟩ hb_ hon hoff
     refine ⟨_,rfl,fun K hK=>?_⟩
     have e9:a.tmps[9]?=some (.pointer (some ⟨g227,0,none⟩)):=by rw [ha];exact (putSel_off rfl).trans rfl
     replace ha:=Aside0.mk ha
     have HB:=Aside0.mk Q_HB
     have HI227:=Aside0.mk (Q_HI227_e1 (hon 1 (by kernel_rfl)) hb_)
     refine goes_ Try.func32 (by kernel_rfl) rfl #[.pointer (some ⟨g227,0,none⟩),.int .i64 30] (by rfl) rfl rfl (by first|(simp only [List.map_toArray,List.map_cons,List.map_nil,Act.eval,Array.getD_eq_getD_getElem?,Option.getD_some,e9];done)|(simp only [List.map_toArray,List.map_cons,List.map_nil,Act.eval,Array.getD_eq_getD_getElem?,Option.getD_some,e9];rfl)) ?_
     with_reducible refine (spec_l6Rd_pick.calls k g227 t225 t229 30 t230 t231 w _ ?side1 ?side2 A4.out).mono ?_
     (case side1=>repeat (first|(with_reducible first|exact HI227.out|apply IsS60.alloc|apply IsS60.drewN|apply IsS60.drew|apply IsS60.set_1)|exact HI227.out))
     (case side2=>repeat (first|(with_reducible first|exact HB.out|apply yA|apply yB|apply yC|refine yD ?_ (IsS60.ge HI227.out))|exact HB.out))
     rintro e w13 ⟨rfl,hi,hb,hk⟩
     refine ⟨_,rfl,?_⟩
     have n0_:=Aside0.mk (hb)
     have n1_:=Aside0.mk (hi)
     clear HB
     clear HI227
     have HB:=n0_
     have HI227:=n1_
     clear n0_ n1_
     (try clear hb)
     (try clear hb2)
     (try clear hk)
     (try clear hi)
     refine hK.out _ _ ⟨v235,adz_v235,m9_,(by rw [ha.out];exact putSel_upk 1 hb_ rfl rfl rfl),fun h0_=>absurd ((hon 1 (by kernel_rfl)).symm.trans h0_) (by decide),(by repeat (first|(with_reducible first|exact HB.out|apply yA|apply yB|apply yC|refine yD ?_ (IsS60.ge HI227.out))|exact HB.out)),fun _ h1_=>absurd ((up_self b 3).symm.trans h1_) (by decide),fun _ _=>(by repeat (first|(with_reducible first|exact HI227.out|apply IsS60.alloc|apply IsS60.drewN|apply IsS60.drew|apply IsS60.set_1)|exact HI227.out)),fun h0_ _=>absurd ((hoff 5 (by kernel_rfl)).symm.trans h0_) (by decide),fun h0_=>absurd ((hoff 6 (by kernel_rfl)).symm.trans h0_) (by decide),fun h0_=>absurd ((hoff 6 (by kernel_rfl)).symm.trans h0_) (by decide),fun h0_=>absurd ((hoff 8 (by kernel_rfl)).symm.trans h0_) (by decide),fun h0_=>absurd ((hoff 9 (by kernel_rfl)).symm.trans h0_) (by decide)⟩
    refine steps_cons ?_ ?_
    ·rintro b a w' ⟨v235,adz_v235,m9_,ha,Q_HI227,Q_HB,Q_HI227_e1,Q_HI227_e3,Q_HI227_e5,Q_HO236,Q_HA_HO236,Q_HI227_e8,Q_X9_⟩ hb_ hon hoff
     refine ⟨_,rfl,fun K hK=>?_⟩
     have e11:a.tmps[11]?=some (.pointer (some ⟨g227,0,none⟩)):=by rw [ha];exact (putSel_off rfl).trans rfl
     replace ha:=Aside0.mk ha
     have HB:=Aside0.mk Q_HB
     have HI227:=Aside0.mk (Q_HI227_e3 (hon 3 (by kernel_rfl)) hb_)
     refine goes_ Try.func32 (by kernel_rfl) rfl #[.pointer (some ⟨g227,0,none⟩),.int .i64 201] (by rfl) rfl rfl (by first|(simp only [List.map_toArray,List.map_cons,List.map_nil,Act.eval,Array.getD_eq_getD_getElem?,Option.getD_some,e11];done)|(simp only [List.map_toArray,List.map_cons,List.map_nil,Act.eval,Array.getD_eq_getD_getElem?,Option.getD_some,e11];rfl)) ?_
     with_reducible refine (spec_l6Rd_pick.calls k g227 t225 t231 201 t232 t233 w _ ?side1 ?side2 A5.out).mono ?_
     (case side1=>repeat (first|(with_reducible first|exact HI227.out|apply IsS60.alloc|apply IsS60.drewN|apply IsS60.drew|apply IsS60.set_1)|exact HI227.out))
     (case side2=>repeat (first|(with_reducible first|exact HB.out|apply yA|apply yB|apply yC|refine yD ?_ (IsS60.ge HI227.out))|exact HB.out))
     rintro e w14 ⟨rfl,hi,hb,hk⟩
     refine ⟨_,rfl,?_⟩
     have n0_:=Aside0.mk (hb)
     have n1_:=Aside0.mk (hi)
     clear HB
     clear HI227
     have HB:=n0_
     have HI227:=n1_
     clear n0_ n1_
     (try clear hb)
     (try clear hb2)
     (try clear hk)
     (try clear hi)
     refine hK.out _ _ ⟨v235,adz_v235,m9_,(by rw [ha.out];exact putSel_upk 2 hb_ rfl rfl rfl),fun h0_=>absurd ((hon 1 (by kernel_rfl)).symm.trans h0_) (by decide),(by repeat (first|(with_reducible first|exact HB.out|apply yA|apply yB|apply yC|refine yD ?_ (IsS60.ge HI227.out))|exact HB.out)),fun _ h1_=>absurd ((hon 3 (by kernel_rfl)).symm.trans h1_) (by decide),fun _ h1_=>absurd ((up_self b 5).symm.trans h1_) (by decide),fun _ _=>(by repeat (first|(with_reducible first|exact HI227.out|apply IsS60.alloc|apply IsS60.drewN|apply IsS60.drew|apply IsS60.set_1)|exact HI227.out)),fun h0_=>absurd ((hoff 6 (by kernel_rfl)).symm.trans h0_) (by decide),fun h0_=>absurd ((hoff 6 (by kernel_rfl)).symm.trans h0_) (by decide),fun h0_=>absurd ((hoff 8 (by kernel_rfl)).symm.trans h0_) (by decide),fun h0_=>absurd ((hoff 9 (by kernel_rfl)).symm.trans h0_) (by decide)⟩
    refine steps_cons ?_ ?_
    ·rintro b a w' ⟨v235,adz_v235,m9_,ha,Q_HI227,Q_HB,Q_HI227_e1,Q_HI227_e3,Q_HI227_e5,Q_HO236,Q_HA_HO236,Q_HI227_e8,Q_X9_⟩ hb_ hon hoff
     refine ⟨_,rfl,fun K hK=>?_⟩
     have e10:a.tmps[10]?=some (.int .i64 t230):=by rw [ha];exact putSel_on (e:=(3,10,.int .i64 t230)) 1 rfl rfl (hon 3 (by kernel_rfl)) rfl
     have e12:a.tmps[12]?=some (.int .i64 t232):=by rw [ha];exact putSel_on (e:=(5,12,.int .i64 t232)) 2 rfl rfl (hon 5 (by kernel_rfl)) rfl
     replace ha:=Aside0.mk ha
     have HB:=Aside0.mk Q_HB
     refine Kd.R_lit_step (Kd.int .i64) _ 3 ?hg (N:=13) ?hd (xs:=([t230,t232,200,201,(-1)]:List Int)) (inner:=[.int .i64 t230,.int .i64 t232,.int .i64 200,.int .i64 201,.int .i64 (-1)]) (ok:=fun _=>True) (okp:=fun _=>True) ?hr ?hp (fun _ hk=>hk) trivial (Below.refl _ _) (Nat.le_refl _) (by simp) ?_;(case hd=>rfl);(case hg=>rfl);(case hr=>first|(go_simp;done)|(go_simp;rfl));(case hp=>exact (Reps.one (show Kd.M (Kd.int .i64) _ _ _ t230 [.int .i64 t230] from rfl) (Reps.one (show Kd.M (Kd.int .i64) _ _ _ t232 [.int .i64 t232] from rfl) (Reps.one (show Kd.M (Kd.int .i64) _ _ _ 200 [.int .i64 200] from rfl) (Reps.one (show Kd.M (Kd.int .i64) _ _ _ 201 [.int .i64 201] from rfl) (Reps.one (show Kd.M (Kd.int .i64) _ _ _ (-1) [.int .i64 (-1)] from rfl) (Reps.none _ _)))))))
     intro v235 w15 ho16 hb hg_ hnew_
     clear hg_ hnew_
     (first|rw [← Ny234.out] at ho16|(simp only [Int.reduceToNat] at ho16;rw [← Ny234.out] at ho16))
     have n0_:=Aside0.mk (Kd.R_lower ho16 (yQ (by repeat (first|(with_reducible first|exact HB.out|apply yA|apply yB|apply yC)|exact HB.out))))
     have n2_:=Aside0.mk (yP (by repeat (first|(with_reducible first|exact HB.out|apply yA|apply yB|apply yC)|exact HB.out)) hb)
     have z_HI227_e5:=fun (h0_:b 5=true) (h1_:b 8=false)=>(show IsS60 w w15 g227 t225 t233 from by first|exact (IsS60.below (by repeat (first|(with_reducible first|exact (Q_HI227_e5 h0_ h1_)|apply IsS60.alloc|apply IsS60.drewN|apply IsS60.drew|apply IsS60.set_1)|exact (Q_HI227_e5 h0_ h1_))) hb))
     have z_HI227_e8:=fun (h0_:b 8=true)=>(show IsS60 w w15 g227 t225 t238 from by first|exact (IsS60.below (by repeat (first|(with_reducible first|exact (Q_HI227_e8 h0_)|apply IsS60.alloc|apply IsS60.drewN|apply IsS60.drew|apply IsS60.set_1)|exact (Q_HI227_e8 h0_))) hb))
     clear HB
     have HO236:=n0_
     have HB:=n2_
     clear n0_ n2_
     clear hb ho16
     obtain ⟨Ao17,co17,eo17⟩:=Kd.R_slice HO236.out
     subst eo17
     obtain ⟨ado17,fo17,_⟩:=Kd.at_int (Kd.R_reads' HO236.out).2.2 0 (by decide) (by rw [Ny234.out];simp)
     cases fo17
     refine hK.out _ _ ⟨.slice (some ado17) y234.length co17,ado17,m9_,(by rw [ha.out];exact putSel_upk 3 hb_ rfl rfl rfl),fun h0_=>absurd ((hon 1 (by kernel_rfl)).symm.trans h0_) (by decide),(by repeat (first|(with_reducible first|exact HB.out|apply yA|apply yB|apply yC)|exact HB.out)),fun _ h1_=>absurd ((hon 3 (by kernel_rfl)).symm.trans h1_) (by decide),fun _ h1_=>absurd ((hon 5 (by kernel_rfl)).symm.trans h1_) (by decide),z_HI227_e5,fun _=>(by (with_reducible repeat (first|apply yH|apply yI|apply yJ));exact HO236.out),fun _=>⟨_,rfl⟩,z_HI227_e8,fun h0_=>absurd ((hoff 9 (by kernel_rfl)).symm.trans h0_) (by decide)⟩
    refine steps_cons ?_ ?_
    ·rintro b a w' ⟨v235,adz_v235,m9_,ha,Q_HI227,Q_HB,Q_HI227_e1,Q_HI227_e3,Q_HI227_e5,Q_HO236,Q_HA_HO236,Q_HI227_e8,Q_X9_⟩ hb_ hon hoff
     refine ⟨_,rfl,fun K hK=>?_⟩
     have e14:a.tmps[14]?=some (.pointer (some ⟨g227,0,none⟩)):=by rw [ha];exact (putSel_off rfl).trans rfl
     replace ha:=Aside0.mk ha
     have HB:=Aside0.mk Q_HB
     have HI227:=Aside0.mk (Q_HI227_e5 (hon 5 (by kernel_rfl)) hb_)
     refine goes_ Try.func32 (by kernel_rfl) rfl #[.pointer (some ⟨g227,0,none⟩),.int .i64 5] (by rfl) rfl rfl (by first|(simp only [List.map_toArray,List.map_cons,List.map_nil,Act.eval,Array.getD_eq_getD_getElem?,Option.getD_some,e14];done)|(simp only [List.map_toArray,List.map_cons,List.map_nil,Act.eval,Array.getD_eq_getD_getElem?,Option.getD_some,e14];rfl)) ?_
     with_reducible refine (spec_l6Rd_pick.calls k g227 t225 t233 5 t237 t238 w _ ?side1 ?side2 A6.out).mono ?_
     (case side1=>repeat (first|(with_reducible first|exact HI227.out|apply IsS60.alloc|apply IsS60.drewN|apply IsS60.drew|apply IsS60.set_1)|exact HI227.out))
     (case side2=>repeat (first|(with_reducible first|exact HB.out|apply yA|apply yB|apply yC|refine yD ?_ (IsS60.ge HI227.out))|exact HB.out))
     rintro e w15 ⟨rfl,hi,hb,hk⟩
     refine ⟨_,rfl,?_⟩
     have n0_:=Aside0.mk (hb)
     have n1_:=Aside0.mk (hi)
     have z_HO236:=fun (h0_:b 6=true)=>(show Kd.R (Kd.int .i64) 3 w15 w.heap.size (fun _=>True) v235 y234 from by first|exact (Kd.R_mono (Kd.R_keep (IsS60.apart (show IsS60 w _ g227 t225 t233 from by repeat (first|(with_reducible first|exact HI227.out|apply IsS60.alloc|apply IsS60.drewN|apply IsS60.drew|apply IsS60.set_1)|exact HI227.out)) (by (with_reducible repeat (first|apply yH|apply yI|apply yJ));exact (Q_HO236 h0_)) (by decide)) hk (fun _ h=>h.2)) (fun _ h=>h.1))|exact Kd.R_mono (Kd.R_mono (Kd.R_keep (IsS60.apart (show IsS60 w _ g227 t225 t233 from by repeat (first|(with_reducible first|exact HI227.out|apply IsS60.alloc|apply IsS60.drewN|apply IsS60.drew|apply IsS60.set_1)|exact HI227.out)) (by (with_reducible repeat (first|apply yH|apply yI|apply yJ));exact (Q_HO236 h0_)) (by decide)) hk (fun _ h=>h.2)) (fun _ h=>h.1)) (fun _ h_=>by first|trivial|exact h_|exact h_.1))
     clear HB
     clear HI227
     have HB:=n0_
     have HI227:=n1_
     clear n0_ n1_
     (try clear hb)
     (try clear hb2)
     (try clear hk)
     (try clear hi)
     refine hK.out _ _ ⟨v235,adz_v235,m9_,(by rw [ha.out];exact putSel_upk 4 hb_ rfl rfl rfl),fun h0_=>absurd ((hon 1 (by kernel_rfl)).symm.trans h0_) (by decide),(by repeat (first|(with_reducible first|exact HB.out|apply yA|apply yB|apply yC|refine yD ?_ (IsS60.ge HI227.out))|exact HB.out)),fun _ h1_=>absurd ((hon 3 (by kernel_rfl)).symm.trans h1_) (by decide),fun _ h1_=>absurd ((hon 5 (by kernel_rfl)).symm.trans h1_) (by decide),fun _ h1_=>absurd ((up_self b 8).symm.trans h1_) (by decide),z_HO236,Q_HA_HO236,fun _=>(by repeat (first|(with_reducible first|exact HI227.out|apply IsS60.alloc|apply IsS60.drewN|apply IsS60.drew|apply IsS60.set_1)|exact HI227.out)),fun h0_=>absurd ((hoff 9 (by kernel_rfl)).symm.trans h0_) (by decide)⟩
    refine steps_cons ?_ ?_
    ·rintro b a w' ⟨v235,adz_v235,m9_,ha,Q_HI227,Q_HB,Q_HI227_e1,Q_HI227_e3,Q_HI227_e5,Q_HO236,Q_HA_HO236,Q_HI227_e8,Q_X9_⟩ hb_ hon hoff
     refine ⟨_,rfl,fun K hK=>?_⟩
     have e13:a.tmps[13]?=some (v235):=by rw [ha];exact putSel_on (e:=(6,13,v235)) 3 rfl rfl (hon 6 (by kernel_rfl)) rfl
     have e15:a.tmps[15]?=some (.int .i64 t237):=by rw [ha];exact putSel_on (e:=(8,15,.int .i64 t237)) 4 rfl rfl (hon 8 (by kernel_rfl)) rfl
     replace ha:=Aside0.mk ha
     have HB:=Aside0.mk Q_HB
     have HO236:=Aside0.mk (Q_HO236 (hon 6 (by kernel_rfl)))
     have HA_HO236:=Aside0.mk (Q_HA_HO236 (hon 6 (by kernel_rfl)))
     have HI227:=Aside0.mk (Q_HI227_e8 (hon 8 (by kernel_rfl)))
     obtain ⟨c_,hv_⟩:=HA_HO236.out
     rw [hv_] at e13
     refine value_ (w1:=w') (v:=.pointer (some (adz_v235.add (t237).toNat))) (by rfl) rfl ?_ ?_
     ·go_simp
      (try simp only [i64_w])
      try rfl
     refine hK.out _ _ ⟨v235,adz_v235,(.pointer (some (adz_v235.add (t237).toNat))),(by rw [ha.out];exact putSel_upk 5 hb_ rfl rfl rfl),fun h0_=>absurd ((hon 1 (by kernel_rfl)).symm.trans h0_) (by decide),Q_HB,fun _ h1_=>absurd ((hon 3 (by kernel_rfl)).symm.trans h1_) (by decide),fun _ h1_=>absurd ((hon 5 (by kernel_rfl)).symm.trans h1_) (by decide),fun _ h1_=>absurd ((hon 8 (by kernel_rfl)).symm.trans h1_) (by decide),Q_HO236,Q_HA_HO236,Q_HI227_e8,fun _=>rfl⟩
    refine steps_cons ?_ ?_
    ·rintro b a w' ⟨v235,adz_v235,m9_,ha,Q_HI227,Q_HB,Q_HI227_e1,Q_HI227_e3,Q_HI227_e5,Q_HO236,Q_HA_HO236,Q_HI227_e8,Q_X9_⟩ hb_ hon hoff
     refine ⟨_,rfl,fun K hK=>?_⟩
     have e16:a.tmps[16]?=some (m9_):=by rw [ha];exact putSel_on (e:=(9,16,m9_)) 5 rfl rfl (hon 9 (by kernel_rfl)) rfl
     rw [Q_X9_ (hon 9 (by kernel_rfl))] at e16
     replace ha:=Aside0.mk ha
     have HB:=Aside0.mk Q_HB
     have HO236:=Aside0.mk (Q_HO236 (hon 6 (by kernel_rfl)))
     have HA_HO236:=Aside0.mk (Q_HA_HO236 (hon 6 (by kernel_rfl)))
     have HI227:=Aside0.mk (Q_HI227_e8 (hon 8 (by kernel_rfl)))
     obtain ⟨c_,hv_⟩:=HA_HO236.out
     have hF_:=HO236.out
     rw [hv_] at hF_
     obtain ⟨ad_,ea_,hx_⟩:=Kd.at_int (Kd.R_reads' hF_).2.2 t237 (of_eq_true pi239) (of_eq_true qi239)
     cases ea_
     refine value_ (w1:=w') (v:=.int .i64 (rd y234 t237)) (by rfl) rfl ?_ ?_
     ·go_simp
      (try simp only [i64_w])
      try rfl
     refine hK.out _ _ ⟨v235,adz_v235,m9_,(by rw [ha.out];exact putSel_upk 6 hb_ rfl rfl rfl),fun h0_=>absurd ((hon 1 (by kernel_rfl)).symm.trans h0_) (by decide),Q_HB,fun _ h1_=>absurd ((hon 3 (by kernel_rfl)).symm.trans h1_) (by decide),fun _ h1_=>absurd ((hon 5 (by kernel_rfl)).symm.trans h1_) (by decide),fun _ h1_=>absurd ((hon 8 (by kernel_rfl)).symm.trans h1_) (by decide),Q_HO236,Q_HA_HO236,Q_HI227_e8,Q_X9_⟩
    refine steps_cons ?_ ?_
    ·rintro b a w' ⟨v235,adz_v235,m9_,ha,Q_HI227,Q_HB,Q_HI227_e1,Q_HI227_e3,Q_HI227_e5,Q_HO236,Q_HA_HO236,Q_HI227_e8,Q_X9_⟩ hb_ hon hoff
     refine ⟨_,rfl,fun K hK=>?_⟩
     have e8:a.tmps[8]?=some (.string t228):=by rw [ha];exact putSel_on (e:=(1,8,.string t228)) 0 rfl rfl (hon 1 (by kernel_rfl)) rfl
     replace ha:=Aside0.mk ha
     have HB:=Aside0.mk Q_HB
     have HI227:=Aside0.mk (Q_HI227_e8 (hon 8 (by kernel_rfl)))
     refine value_ (w1:=w') (v:=.string t228) (by rfl) rfl ?_ ?_
     ·go_simp
      (try simp only [i64_w])
      try rfl
     refine hK.out _ _ ⟨v235,adz_v235,m9_,(by rw [ha.out];exact putSel_upk 7 hb_ rfl rfl rfl),fun h0_=>absurd ((hon 1 (by kernel_rfl)).symm.trans h0_) (by decide),Q_HB,fun _ h1_=>absurd ((hon 3 (by kernel_rfl)).symm.trans h1_) (by decide),fun _ h1_=>absurd ((hon 5 (by kernel_rfl)).symm.trans h1_) (by decide),fun _ h1_=>absurd ((hon 8 (by kernel_rfl)).symm.trans h1_) (by decide),Q_HO236,Q_HA_HO236,Q_HI227_e8,Q_X9_⟩
    refine steps_cons ?_ ?_
    ·rintro b a w' ⟨v235,adz_v235,m9_,ha,Q_HI227,Q_HB,Q_HI227_e1,Q_HI227_e3,Q_HI227_e5,Q_HO236,Q_HA_HO236,Q_HI227_e8,Q_X9_⟩ hb_ hon hoff
     refine ⟨_,rfl,fun K hK=>?_⟩
     have e17:a.tmps[17]?=some (.int .i64 (rd y234 t237)):=by rw [ha];exact putSel_on (e:=(10,17,.int .i64 (rd y234 t237))) 6 rfl rfl (hon 10 (by kernel_rfl)) rfl
     replace ha:=Aside0.mk ha
     have HB:=Aside0.mk Q_HB
     have HO236:=Aside0.mk (Q_HO236 (hon 6 (by kernel_rfl)))
     have HA_HO236:=Aside0.mk (Q_HA_HO236 (hon 6 (by kernel_rfl)))
     have HI227:=Aside0.mk (Q_HI227_e8 (hon 8 (by kernel_rfl)))
     refine value_ (w1:=w') (v:=.int .i64 (rd y234 t237)) (by rfl) rfl ?_ ?_
     ·go_simp
      (try simp only [i64_w])
      try rfl
     refine hK.out _ _ ⟨v235,adz_v235,m9_,(by rw [ha.out];exact putSel_upk 8 hb_ rfl rfl rfl),fun h0_=>absurd ((hon 1 (by kernel_rfl)).symm.trans h0_) (by decide),Q_HB,fun _ h1_=>absurd ((hon 3 (by kernel_rfl)).symm.trans h1_) (by decide),fun _ h1_=>absurd ((hon 5 (by kernel_rfl)).symm.trans h1_) (by decide),fun _ h1_=>absurd ((hon 8 (by kernel_rfl)).symm.trans h1_) (by decide),Q_HO236,Q_HA_HO236,Q_HI227_e8,Q_X9_⟩
    exact steps_nil
   rintro b a w18 hall ⟨v235,adz_v235,m9_,ha,Q_HI227,Q_HB,Q_HI227_e1,Q_HI227_e3,Q_HI227_e5,Q_HO236,Q_HA_HO236,Q_HI227_e8,Q_X9_⟩
   clear HB HI227
   have hb1_:=hall 1 (by kernel_rfl)
   have hb3_:=hall 3 (by kernel_rfl)
   have hb5_:=hall 5 (by kernel_rfl)
   have hb6_:=hall 6 (by kernel_rfl)
   have hb8_:=hall 8 (by kernel_rfl)
   have hb9_:=hall 9 (by kernel_rfl)
   have hb10_:=hall 10 (by kernel_rfl)
   have hb11_:=hall 11 (by kernel_rfl)
   have hb12_:=hall 12 (by kernel_rfl)
   subst ha
   obtain rfl:=Q_X9_ hb9_
   simp only [putSel,hb1_,hb3_,hb5_,hb6_,hb8_,hb9_,hb10_,hb11_,hb12_,if_true,Act.put,yK,yL,yM]
   clear Q_HI227
   have HB:=Aside0.mk Q_HB
   clear Q_HB
   clear Q_HI227_e1
   clear Q_HI227_e3
   clear Q_HI227_e5
   have HO236:=Aside0.mk (Q_HO236 hb6_)
   clear Q_HO236
   have HA_HO236:=Aside0.mk (Q_HA_HO236 hb6_)
   clear Q_HA_HO236
   have HI227:=Aside0.mk (Q_HI227_e8 hb8_)
   clear Q_HI227_e8
   clear hall hb1_ hb3_ hb5_ hb6_ hb8_ hb9_ hb10_ hb11_ hb12_
   obtain ⟨co19,eo19⟩:=HA_HO236.out
   clear HA_HO236
   subst eo19
   try go_wp2
   go_ret2
   exact ⟨by first|rfl|(simp [errW_none,errW_some]<;>rfl)|(simp [*,errW_none,errW_some]<;>rfl)|(simp [errW_none,errW_some];exact ⟨rfl,rfl⟩),by repeat (first|(with_reducible first|exact HB.out|apply yA|apply yB|apply yC|refine yD ?_ (IsS60.ge HI227.out))|exact HB.out)⟩
  ·rw [if_neg c8] at H
   exact absurd H (by simp)
 ·rw [if_neg c7] at H
  exact absurd H (by simp)

end Go.Proofs.Ytjjnckgdpdelkaa.P

namespace Go.Proofs.Ytjjnckgdpdelkaa.P
open Go.RowKit Go.Proofs.YtjjnckgdpdelkaaW.PrintWords Go.Proofs.YtjjnckgdpdelkaaW.PrintLast Go.Proofs.YtjjnckgdpdelkaaW.PrintMore
attribute [local go_sem] max2_int min2_int max_two min_two max_three min_three max_four min_four   -- for this text's walks alone
set_option linter.unusedVariables false
set_option linter.unusedSimpArgs false

/-! ### laws_FnTermStar: function 4 -/
noncomputable def laws_FnTermStar.j0:Nat→List Int→List Int→Bool→Option (Bool)
 | 0,_,_,_=>none
 | k+1,x0,x1,x19=>if x19=true then (some true) else ((spec_DrawTermHas.f k x0).bind fun bt251=>((spec_DrawTermHas.f k x1).bind fun bt253=>(if 1+bt251.1.size≤9223372036854775807 then ((impl_TermHas.f ((⟨#[42]⟩:ByteArray)++bt251.1) bt251.2).bind fun t255=>((spec_TermHas.f k ((⟨#[42]⟩:ByteArray)++bt251.1) bt251.2).bind fun t256=>(if (t255 != t256)=true then (some false) else ((impl_TermHas.f ((⟨#[42]⟩:ByteArray)++bt251.1) bt253.2).bind fun t257=>(if t255=true then (if t257=true then (if (wrap64 (bt251.2+bt253.2)) > 200 then ((impl_TermHas.f bt251.1 bt251.2).bind fun t258=>(if t258=true then (some true) else (some true))) else ((impl_TermHas.f ((⟨#[42]⟩:ByteArray)++bt251.1) (wrap64 (bt251.2+bt253.2))).bind fun t259=>(if t259=true then ((impl_TermHas.f bt251.1 bt251.2).bind fun t260=>(if t260=true then (some true) else (some true))) else (some false)))) else ((impl_TermHas.f bt251.1 bt251.2).bind fun t261=>(if t261=true then (some true) else (some true)))) else ((impl_TermHas.f bt251.1 bt251.2).bind fun t262=>(if t262=true then (some (decide ((((⟨#[42]⟩:ByteArray)++bt251.1).size:Int) > 60))) else (some true)))))))) else (none))))
noncomputable def laws_FnTermStar.f (k:Nat) (l0:List Int) (l1:List Int):Option (Bool):=if (l0.length:Int) > 1048576 then (laws_FnTermStar.j0 k l0 l1 true) else (laws_FnTermStar.j0 k l0 l1 (decide ((l1.length:Int) > 1048576)))
theorem laws_FnTermStar.mono_l:∀ k,(∀ y0 y1 y2,LeO (laws_FnTermStar.j0 k y0 y1 y2) (laws_FnTermStar.j0 (k+1) y0 y1 y2))
 | 0=>fun _ _ _ r h=>by simp [laws_FnTermStar.j0] at h
 | k+1=>by
  have ih0:=laws_FnTermStar.mono_l k
  ·intro y0 y1 y2
   unfold laws_FnTermStar.j0
   repeat' first
   | (with_reducible exact ih0 _ _ _)
   | (with_reducible exact spec_DrawTermHas.mono _ _)
   | (with_reducible exact spec_TermHas.mono _ _ _)
   | (with_reducible exact LeO.refl _)
   | (with_reducible exact LeO.none _)
   | (with_reducible refine LeO.ite ?_ ?_)
   | (with_reducible refine LeO.bind ?_ (fun _=>?_))
   | exact ih0 _ _ _
   | exact spec_DrawTermHas.mono _ _
   | exact spec_TermHas.mono _ _ _
   | exact LeO.none _
   | refine LeO.ite ?_ ?_
   | refine LeO.bind ?_ (fun _=>?_)
theorem laws_FnTermStar.mono:∀ a0 a1 k,LeO (laws_FnTermStar.f k a0 a1) (laws_FnTermStar.f (k+1) a0 a1):=by
 intro a0 a1 k
 have ih0:=laws_FnTermStar.mono_l k
 unfold laws_FnTermStar.f
 repeat' first
   | (with_reducible exact ih0 _ _ _)
   | (with_reducible exact spec_DrawTermHas.mono _ _)
   | (with_reducible exact spec_TermHas.mono _ _ _)
   | (with_reducible exact LeO.refl _)
   | (with_reducible exact LeO.none _)
   | (with_reducible refine LeO.ite ?_ ?_)
   | (with_reducible refine LeO.bind ?_ (fun _=>?_))
   | exact ih0 _ _ _
   | exact spec_DrawTermHas.mono _ _
   | exact spec_TermHas.mono _ _ _
   | exact LeO.none _
   | refine LeO.ite ?_ ?_
   | refine LeO.bind ?_ (fun _=>?_)
set_option maxHeartbeats 8000000 in
set_option maxRecDepth 100000 in
theorem laws_FnTermStar.calls (k:Nat) (A0:Option Addr) (c0:Nat) (l0:List Int) (A1:Option Addr) (c1:Nat) (l1:List Int) (r:Bool) (w:World) (hr0:Kd.C (Kd.int .u8) w A0 l0.length l0) (hc0:l0.length≤c0) (hr1:Kd.C (Kd.int .u8) w A1 l1.length l1) (hc1:l1.length≤c1) (h:laws_FnTermStar.f k l0 l1=some r) :
  Calls Try.prog 4 #[.slice A0 l0.length c0,.slice A1 l1.length c1] w fun e w'=>e=.returned (.bool r)∧Below w.heap.size w w':=by
 have HR0:=Aside0.mk hr0
 have HC0:=Aside0.mk hc0
 clear hr0 hc0
 have HR1:=Aside0.mk hr1
 have HC1:=Aside0.mk hc1
 clear hr1 hc1
 have HB:=Aside0.mk (Below.refl w.heap.size w)
 have H:(if (l0.length:Int) > 1048576 then (laws_FnTermStar.j0 k l0 l1 true) else (laws_FnTermStar.j0 k l0 l1 (decide ((l1.length:Int) > 1048576))))=some r:=h
 clear h
 have HC3:=Aside0.mk H
 clear H
 go_enter Try.func4,Try.ntmps4
 go_upto_region 1 with (fail)
 go_cut [19] (fun v19 wc=>∃ (kq:Nat) (x19_2:Bool),v19=.bool x19_2∧Aside0 (laws_FnTermStar.j0 kq l0 l1 x19_2=some r)∧Aside0 (kq≤k)∧Aside0 (Below w.heap.size w wc))
 case first =>
  have H:=HC3.out
  clear HC3
  by_cases c4:(l0.length:Int) > 1048576
  ·rw [if_pos c4] at H
   have c4b0:decide (1048576<(l0.length:Int))=true:=decide_eq_true c4
   have c4b1:decide (1048576<l0.length)=true:=decide_eq_true (by omega)
   clear c4
   (first|rw [c4b0]|(simp only [i64_w,i32_w];rw [c4b0])|skip)
   have H':=Aside0.mk H
   clear H
   go_wp2
   go_meet
   case rel=>exact ⟨_,(true),(by first|rfl|(simp;done)|(simp [*];done)|(simp [Int.tmod_eq_emod_of_nonneg];done)),H',⟨by first|omega|exact Nat.le_refl _⟩,⟨by repeat (first|(with_reducible first|exact HB.out|apply yA|apply yB|apply yC)|exact HB.out)⟩⟩
  ·rw [if_neg c4] at H
   have c4b0:decide (1048576<(l0.length:Int))=false:=decide_eq_false c4
   have c4b1:decide (1048576<l0.length)=false:=decide_eq_false (by omega)
   clear c4
   (first|rw [c4b0]|(simp only [i64_w,i32_w];rw [c4b0])|skip)
   have H':=Aside0.mk H
   clear H
   go_wp2
   go_meet
   case rel=>exact ⟨_,(decide ((l1.length:Int) > 1048576)),(by first|rfl|(simp;done)|(simp [*];done)|(simp [Int.tmod_eq_emod_of_nonneg];done)),H',⟨by first|omega|exact Nat.le_refl _⟩,⟨by repeat (first|(with_reducible first|exact HB.out|apply yA|apply yB|apply yC)|exact HB.out)⟩⟩
 case rest =>
  clear HC3
  try clear c1
  try clear p2
  try clear c4
  try clear c4b0
  try clear c4b1
  obtain ⟨kq,x19_2,rfl,HA,HJ2,HB⟩:=hcut
  cases kq with
  | zero=>exact absurd HA.out (by simp [laws_FnTermStar.j0])
  | succ kj2 =>
   have H:=HA.out
   clear HA
   simp only [laws_FnTermStar.j0] at H
   by_cases c5:x19_2=true
   ·subst c5
    have H1:(some true)=some r:=by rw [if_pos rfl] at H;exact H
    clear H
    have H:=H1
    clear H1
    obtain rfl:=Option.some.inj H
    go_wp2
    go_ret
    exact ⟨by first|rfl|(simp [errW_none,errW_some]<;>rfl)|(simp [*,errW_none,errW_some]<;>rfl)|(simp [errW_none,errW_some];exact ⟨rfl,rfl⟩),by repeat (first|(with_reducible first|exact HB.out|apply yA|apply yB|apply yC)|exact HB.out)⟩
   ·replace c5:=Bool.eq_false_iff.mpr c5
    subst c5
    have H1:((spec_DrawTermHas.f kj2 l0).bind fun bt251=>((spec_DrawTermHas.f kj2 l1).bind fun bt253=>(if 1+bt251.1.size≤9223372036854775807 then ((impl_TermHas.f ((⟨#[42]⟩:ByteArray)++bt251.1) bt251.2).bind fun t255=>((spec_TermHas.f kj2 ((⟨#[42]⟩:ByteArray)++bt251.1) bt251.2).bind fun t256=>(if (t255 != t256)=true then (some false) else ((impl_TermHas.f ((⟨#[42]⟩:ByteArray)++bt251.1) bt253.2).bind fun t257=>(if t255=true then (if t257=true then (if (wrap64 (bt251.2+bt253.2)) > 200 then ((impl_TermHas.f bt251.1 bt251.2).bind fun t258=>(if t258=true then (some true) else (some true))) else ((impl_TermHas.f ((⟨#[42]⟩:ByteArray)++bt251.1) (wrap64 (bt251.2+bt253.2))).bind fun t259=>(if t259=true then ((impl_TermHas.f bt251.1 bt251.2).bind fun t260=>(if t260=true then (some true) else (some true))) else (some false)))) else ((impl_TermHas.f bt251.1 bt251.2).bind fun t261=>(if t261=true then (some true) else (some true)))) else ((impl_TermHas.f bt251.1 bt251.2).bind fun t262=>(if t262=true then (some (decide ((((⟨#[42]⟩:ByteArray)++bt251.1).size:Int) > 60))) else (some true)))))))) else (none))))=some r:=by rw [if_neg (show ¬ (false=true) by decide)] at H;exact H
    clear H
    have H:=H1
    clear H1
    replace H:=Option.bind_eq_some_iff.mp H
    obtain ⟨⟨t251,t252⟩,A60,H⟩:=H
    replace H:((spec_DrawTermHas.f kj2 l1).bind fun bt253=>(if 1+t251.size≤9223372036854775807 then ((impl_TermHas.f ((⟨#[42]⟩:ByteArray)++t251) t252).bind fun t255=>((spec_TermHas.f kj2 ((⟨#[42]⟩:ByteArray)++t251) t252).bind fun t256=>(if (t255 != t256)=true then (some false) else ((impl_TermHas.f ((⟨#[42]⟩:ByteArray)++t251) bt253.2).bind fun t257=>(if t255=true then (if t257=true then (if (wrap64 (t252+bt253.2)) > 200 then ((impl_TermHas.f t251 t252).bind fun t258=>(if t258=true then (some true) else (some true))) else ((impl_TermHas.f ((⟨#[42]⟩:ByteArray)++t251) (wrap64 (t252+bt253.2))).bind fun t259=>(if t259=true then ((impl_TermHas.f t251 t252).bind fun t260=>(if t260=true then (some true) else (some true))) else (some false)))) else ((impl_TermHas.f t251 t252).bind fun t261=>(if t261=true then (some true) else (some true)))) else ((impl_TermHas.f t251 t252).bind fun t262=>(if t262=true then (some (decide ((((⟨#[42]⟩:ByteArray)++t251).size:Int) > 60))) else (some true)))))))) else (none)))=some r:=H
    have A6:=Aside0.mk A60
    clear A60
    replace H:=Option.bind_eq_some_iff.mp H
    obtain ⟨⟨t253,t254⟩,A70,H⟩:=H
    replace H:(if 1+t251.size≤9223372036854775807 then ((impl_TermHas.f ((⟨#[42]⟩:ByteArray)++t251) t252).bind fun t255=>((spec_TermHas.f kj2 ((⟨#[42]⟩:ByteArray)++t251) t252).bind fun t256=>(if (t255 != t256)=true then (some false) else ((impl_TermHas.f ((⟨#[42]⟩:ByteArray)++t251) t254).bind fun t257=>(if t255=true then (if t257=true then (if (wrap64 (t252+t254)) > 200 then ((impl_TermHas.f t251 t252).bind fun t258=>(if t258=true then (some true) else (some true))) else ((impl_TermHas.f ((⟨#[42]⟩:ByteArray)++t251) (wrap64 (t252+t254))).bind fun t259=>(if t259=true then ((impl_TermHas.f t251 t252).bind fun t260=>(if t260=true then (some true) else (some true))) else (some false)))) else ((impl_TermHas.f t251 t252).bind fun t261=>(if t261=true then (some true) else (some true)))) else ((impl_TermHas.f t251 t252).bind fun t262=>(if t262=true then (some (decide ((((⟨#[42]⟩:ByteArray)++t251).size:Int) > 60))) else (some true)))))))) else (none))=some r:=H
    have A7:=Aside0.mk A70
    clear A70
    by_cases c8:1+t251.size≤9223372036854775807
    ·rw [if_pos c8] at H
     have c8b0:=eq_true c8
     have c8b1:decide (1+t251.size≤9223372036854775807)=true:=decide_eq_true c8
     try have c8b2:(9223372036854775807<1+t251.size)=False:=eq_false (Nat.not_lt.2 c8)
     replace H:=Option.bind_eq_some_iff.mp H
     obtain ⟨t255,A90,H⟩:=H
     replace H:((spec_TermHas.f kj2 ((⟨#[42]⟩:ByteArray)++t251) t252).bind fun t256=>(if (t255 != t256)=true then (some false) else ((impl_TermHas.f ((⟨#[42]⟩:ByteArray)++t251) t254).bind fun t257=>(if t255=true then (if t257=true then (if (wrap64 (t252+t254)) > 200 then ((impl_TermHas.f t251 t252).bind fun t258=>(if t258=true then (some true) else (some true))) else ((impl_TermHas.f ((⟨#[42]⟩:ByteArray)++t251) (wrap64 (t252+t254))).bind fun t259=>(if t259=true then ((impl_TermHas.f t251 t252).bind fun t260=>(if t260=true then (some true) else (some true))) else (some false)))) else ((impl_TermHas.f t251 t252).bind fun t261=>(if t261=true then (some true) else (some true)))) else ((impl_TermHas.f t251 t252).bind fun t262=>(if t262=true then (some (decide ((((⟨#[42]⟩:ByteArray)++t251).size:Int) > 60))) else (some true)))))))=some r:=H
     have A9:=Aside0.mk A90
     clear A90
     replace H:=Option.bind_eq_some_iff.mp H
     obtain ⟨t256,A100,H⟩:=H
     replace H:(if (t255 != t256)=true then (some false) else ((impl_TermHas.f ((⟨#[42]⟩:ByteArray)++t251) t254).bind fun t257=>(if t255=true then (if t257=true then (if (wrap64 (t252+t254)) > 200 then ((impl_TermHas.f t251 t252).bind fun t258=>(if t258=true then (some true) else (some true))) else ((impl_TermHas.f ((⟨#[42]⟩:ByteArray)++t251) (wrap64 (t252+t254))).bind fun t259=>(if t259=true then ((impl_TermHas.f t251 t252).bind fun t260=>(if t260=true then (some true) else (some true))) else (some false)))) else ((impl_TermHas.f t251 t252).bind fun t261=>(if t261=true then (some true) else (some true)))) else ((impl_TermHas.f t251 t252).bind fun t262=>(if t262=true then (some (decide ((((⟨#[42]⟩:ByteArray)++t251).size:Int) > 60))) else (some true))))))=some r:=H
     have A10:=Aside0.mk A100
     clear A100
     by_cases c11:(t255 != t256)=true
     ·rw [if_pos c11] at H
      have c11b0:(t255 != t256)=true:=c11
      (try (have c11b1:decide (t255=t256)=false:=by simpa using c11))
      (try (have c11b2:(t255 == t256)=false:=by simpa using c11))
      (try (have c11b3:¬ (t255=t256):=by simpa using c11))
      clear c11
      obtain rfl:=Option.some.inj H
      go_wp2_with (first|((with_reducible refine gate_callee (f:=12) rfl ?_);refine goesL_ (some 22) rfl rfl Try.func12 (by kernel_rfl) rfl #[.slice A0 l0.length c0] rfl (by (try simp only [List.map_toArray,List.map_cons,List.map_nil]);first|done|rfl|(simp only [List.length_drop,List.length_take];rfl)) ?_;(with_reducible refine (spec_DrawTermHas.calls kj2 _ _ l0 t251 t252 _ ?side1 ?side2 A6.out).mono ?_);(case side1=>repeat (first|exact (Kd.C_below HR0.out HB.out)|(with_reducible refine Kd.C_alloc ?_ _)|(with_reducible refine Kd.C_drewN ?_ _)|(with_reducible refine Kd.C_drew ?_)));(case side2=>exact HC0.out);rintro e w12 ⟨rfl,hb⟩;refine ⟨_,rfl,?_⟩;have n0_:=Aside0.mk (yP (by repeat (first|(with_reducible first|exact HB.out|apply yA|apply yB|apply yC)|exact HB.out)) hb);clear HB;have HB:=n0_;clear n0_;(try clear hb);(try clear hb2);(try clear hk);(try clear hi))|((with_reducible refine gate_callee (f:=12) rfl ?_);refine goesL_ (some 27) rfl rfl Try.func12 (by kernel_rfl) rfl #[.slice A1 l1.length c1] rfl (by (try simp only [List.map_toArray,List.map_cons,List.map_nil]);first|done|rfl|(simp only [List.length_drop,List.length_take];rfl)) ?_;(with_reducible refine (spec_DrawTermHas.calls kj2 _ _ l1 t253 t254 _ ?side1 ?side2 A7.out).mono ?_);(case side1=>repeat (first|exact (Kd.C_below HR1.out HB.out)|(with_reducible refine Kd.C_alloc ?_ _)|(with_reducible refine Kd.C_drewN ?_ _)|(with_reducible refine Kd.C_drew ?_)));(case side2=>exact HC1.out);rintro e w13 ⟨rfl,hb⟩;refine ⟨_,rfl,?_⟩;have n0_:=Aside0.mk (yP (by repeat (first|(with_reducible first|exact HB.out|apply yA|apply yB|apply yC)|exact HB.out)) hb);clear HB;have HB:=n0_;clear n0_;(try clear hb);(try clear hb2);(try clear hk);(try clear hi))|((with_reducible refine gate_callee (f:=11) rfl ?_);refine goesL_ (some 34) rfl rfl Try.func11 (by kernel_rfl) rfl #[.string ((⟨#[42]⟩:ByteArray)++t251),.int .i64 t252] rfl (by (try simp only [List.map_toArray,List.map_cons,List.map_nil]);first|done|rfl|(simp only [List.length_drop,List.length_take];rfl)) ?_;(with_reducible refine (impl_TermHas.calls ((⟨#[42]⟩:ByteArray)++t251) t252 t255 _ A9.out).mono ?_);rintro e w14 ⟨rfl,hb⟩;refine ⟨_,rfl,?_⟩;have n0_:=Aside0.mk (yP (by repeat (first|(with_reducible first|exact HB.out|apply yA|apply yB|apply yC)|exact HB.out)) hb);clear HB;have HB:=n0_;clear n0_;(try clear hb);(try clear hb2);(try clear hk);(try clear hi))|((with_reducible refine gate_callee (f:=13) rfl ?_);refine goesL_ (some 38) rfl rfl Try.func13 (by kernel_rfl) rfl #[.string ((⟨#[42]⟩:ByteArray)++t251),.int .i64 t252] rfl (by (try simp only [List.map_toArray,List.map_cons,List.map_nil]);first|done|rfl|(simp only [List.length_drop,List.length_take];rfl)) ?_;(with_reducible refine (spec_TermHas.calls kj2 ((⟨#[42]⟩:ByteArray)++t251) t252 t256 _ A10.out).mono ?_);rintro e w15 ⟨rfl,hb⟩;refine ⟨_,rfl,?_⟩;have n0_:=Aside0.mk (yP (by repeat (first|(with_reducible first|exact HB.out|apply yA|apply yB|apply yC)|exact HB.out)) hb);clear HB;have HB:=n0_;clear n0_;(try clear hb);(try clear hb2);(try clear hk);(try clear hi)))
      go_ret
      exact ⟨by first|rfl|(simp [errW_none,errW_some]<;>rfl)|(simp [*,errW_none,errW_some]<;>rfl)|(simp [errW_none,errW_some];exact ⟨rfl,rfl⟩),by repeat (first|(with_reducible first|exact HB.out|apply yA|apply yB|apply yC)|exact HB.out)⟩
     ·rw [if_neg c11] at H
      have c11b0:(t255 != t256)=false:=by simpa using c11
      (try (have c11b1:decide (t255=t256)=true:=by simpa using c11))
      (try (have c11b2:(t255 == t256)=true:=by simpa using c11))
      clear c11
      replace H:=Option.bind_eq_some_iff.mp H
      obtain ⟨t257,A160,H⟩:=H
      replace H:(if t255=true then (if t257=true then (if (wrap64 (t252+t254)) > 200 then ((impl_TermHas.f t251 t252).bind fun t258=>(if t258=true then (some true) else (some true))) else ((impl_TermHas.f ((⟨#[42]⟩:ByteArray)++t251) (wrap64 (t252+t254))).bind fun t259=>(if t259=true then ((impl_TermHas.f t251 t252).bind fun t260=>(if t260=true then (some true) else (some true))) else (some false)))) else ((impl_TermHas.f t251 t252).bind fun t261=>(if t261=true then (some true) else (some true)))) else ((impl_TermHas.f t251 t252).bind fun t262=>(if t262=true then (some (decide ((((⟨#[42]⟩:ByteArray)++t251).size:Int) > 60))) else (some true))))=some r:=H
      have A16:=Aside0.mk A160
      clear A160
      by_cases c17:t255=true
      ·subst c17
       have H1:(if t257=true then (if (wrap64 (t252+t254)) > 200 then ((impl_TermHas.f t251 t252).bind fun t258=>(if t258=true then (some true) else (some true))) else ((impl_TermHas.f ((⟨#[42]⟩:ByteArray)++t251) (wrap64 (t252+t254))).bind fun t259=>(if t259=true then ((impl_TermHas.f t251 t252).bind fun t260=>(if t260=true then (some true) else (some true))) else (some false)))) else ((impl_TermHas.f t251 t252).bind fun t261=>(if t261=true then (some true) else (some true))))=some r:=by rw [if_pos rfl] at H;exact H
       clear H
       have H:=H1
       clear H1
       by_cases c18:t257=true
       ·subst c18
        have H1:(if (wrap64 (t252+t254)) > 200 then ((impl_TermHas.f t251 t252).bind fun t258=>(if t258=true then (some true) else (some true))) else ((impl_TermHas.f ((⟨#[42]⟩:ByteArray)++t251) (wrap64 (t252+t254))).bind fun t259=>(if t259=true then ((impl_TermHas.f t251 t252).bind fun t260=>(if t260=true then (some true) else (some true))) else (some false))))=some r:=by rw [if_pos rfl] at H;exact H
        clear H
        have H:=H1
        clear H1
        by_cases c19:(wrap64 (t252+t254)) > 200
        ·rw [if_pos c19] at H
         have c19b0:decide (200<(wrap64 (t252+t254)))=true:=decide_eq_true c19
         clear c19
         replace H:=Option.bind_eq_some_iff.mp H
         obtain ⟨t258,A200,H⟩:=H
         replace H:(if t258=true then (some true) else (some true))=some r:=H
         have A20:=Aside0.mk A200
         clear A200
         by_cases c21:t258=true
         ·subst c21
          have H1:(some true)=some r:=by rw [if_pos rfl] at H;exact H
          clear H
          have H:=H1
          clear H1
          obtain rfl:=Option.some.inj H
          go_wp2_with (first|((with_reducible refine gate_callee (f:=12) rfl ?_);refine goesL_ (some 22) rfl rfl Try.func12 (by kernel_rfl) rfl #[.slice A0 l0.length c0] rfl (by (try simp only [List.map_toArray,List.map_cons,List.map_nil]);first|done|rfl|(simp only [List.length_drop,List.length_take];rfl)) ?_;(with_reducible refine (spec_DrawTermHas.calls kj2 _ _ l0 t251 t252 _ ?side1 ?side2 A6.out).mono ?_);(case side1=>repeat (first|exact (Kd.C_below HR0.out HB.out)|(with_reducible refine Kd.C_alloc ?_ _)|(with_reducible refine Kd.C_drewN ?_ _)|(with_reducible refine Kd.C_drew ?_)));(case side2=>exact HC0.out);rintro e w22 ⟨rfl,hb⟩;refine ⟨_,rfl,?_⟩;have n0_:=Aside0.mk (yP (by repeat (first|(with_reducible first|exact HB.out|apply yA|apply yB|apply yC)|exact HB.out)) hb);clear HB;have HB:=n0_;clear n0_;(try clear hb);(try clear hb2);(try clear hk);(try clear hi))|((with_reducible refine gate_callee (f:=12) rfl ?_);refine goesL_ (some 27) rfl rfl Try.func12 (by kernel_rfl) rfl #[.slice A1 l1.length c1] rfl (by (try simp only [List.map_toArray,List.map_cons,List.map_nil]);first|done|rfl|(simp only [List.length_drop,List.length_take];rfl)) ?_;(with_reducible refine (spec_DrawTermHas.calls kj2 _ _ l1 t253 t254 _ ?side1 ?side2 A7.out).mono ?_);(case side1=>repeat (first|exact (Kd.C_below HR1.out HB.out)|(with_reducible refine Kd.C_alloc ?_ _)|(with_reducible refine Kd.C_drewN ?_ _)|(with_reducible refine Kd.C_drew ?_)));(case side2=>exact HC1.out);rintro e w23 ⟨rfl,hb⟩;refine ⟨_,rfl,?_⟩;have n0_:=Aside0.mk (yP (by repeat (first|(with_reducible first|exact HB.out|apply yA|apply yB|apply yC)|exact HB.out)) hb);clear HB;have HB:=n0_;clear n0_;(try clear hb);(try clear hb2);(try clear hk);(try clear hi))|((with_reducible refine gate_callee (f:=11) rfl ?_);refine goesL_ (some 34) rfl rfl Try.func11 (by kernel_rfl) rfl #[.string ((⟨#[42]⟩:ByteArray)++t251),.int .i64 t252] rfl (by (try simp only [List.map_toArray,List.map_cons,List.map_nil]);first|done|rfl|(simp only [List.length_drop,List.length_take];rfl)) ?_;(with_reducible refine (impl_TermHas.calls ((⟨#[42]⟩:ByteArray)++t251) t252 true _ A9.out).mono ?_);rintro e w24 ⟨rfl,hb⟩;refine ⟨_,rfl,?_⟩;have n0_:=Aside0.mk (yP (by repeat (first|(with_reducible first|exact HB.out|apply yA|apply yB|apply yC)|exact HB.out)) hb);clear HB;have HB:=n0_;clear n0_;(try clear hb);(try clear hb2);(try clear hk);(try clear hi))|((with_reducible refine gate_callee (f:=13) rfl ?_);refine goesL_ (some 38) rfl rfl Try.func13 (by kernel_rfl) rfl #[.string ((⟨#[42]⟩:ByteArray)++t251),.int .i64 t252] rfl (by (try simp only [List.map_toArray,List.map_cons,List.map_nil]);first|done|rfl|(simp only [List.length_drop,List.length_take];rfl)) ?_;(with_reducible refine (spec_TermHas.calls kj2 ((⟨#[42]⟩:ByteArray)++t251) t252 t256 _ A10.out).mono ?_);rintro e w25 ⟨rfl,hb⟩;refine ⟨_,rfl,?_⟩;have n0_:=Aside0.mk (yP (by repeat (first|(with_reducible first|exact HB.out|apply yA|apply yB|apply yC)|exact HB.out)) hb);clear HB;have HB:=n0_;clear n0_;(try clear hb);(try clear hb2);(try clear hk);(try clear hi))|((with_reducible refine gate_callee (f:=11) rfl ?_);refine goesL_ (some 42) rfl rfl Try.func11 (by kernel_rfl) rfl #[.string ((⟨#[42]⟩:ByteArray)++t251),.int .i64 t254] rfl (by (try simp only [List.map_toArray,List.map_cons,List.map_nil]);first|done|rfl|(simp only [List.length_drop,List.length_take];rfl)) ?_;(with_reducible refine (impl_TermHas.calls ((⟨#[42]⟩:ByteArray)++t251) t254 true _ A16.out).mono ?_);rintro e w26 ⟨rfl,hb⟩;refine ⟨_,rfl,?_⟩;have n0_:=Aside0.mk (yP (by repeat (first|(with_reducible first|exact HB.out|apply yA|apply yB|apply yC)|exact HB.out)) hb);clear HB;have HB:=n0_;clear n0_;(try clear hb);(try clear hb2);(try clear hk);(try clear hi))|(go_at_call 11;(with_reducible refine (impl_TermHas.calls t251 t252 true _ A20.out).mono ?_);rintro e w27 ⟨rfl,hb⟩;have n0_:=Aside0.mk (yP (by repeat (first|(with_reducible first|exact HB.out|apply yA|apply yB|apply yC)|exact HB.out)) hb);clear HB;have HB:=n0_;clear n0_;(try clear hb);(try clear hb2);(try clear hk);(try clear hi)))
          go_ret
          exact ⟨by first|rfl|(simp [errW_none,errW_some]<;>rfl)|(simp [*,errW_none,errW_some]<;>rfl)|(simp [errW_none,errW_some];exact ⟨rfl,rfl⟩),by repeat (first|(with_reducible first|exact HB.out|apply yA|apply yB|apply yC)|exact HB.out)⟩
         ·replace c21:=Bool.eq_false_iff.mpr c21
          subst c21
          have H1:(some true)=some r:=by rw [if_neg (show ¬ (false=true) by decide)] at H;exact H
          clear H
          have H:=H1
          clear H1
          obtain rfl:=Option.some.inj H
          go_wp2_with (first|((with_reducible refine gate_callee (f:=12) rfl ?_);refine goesL_ (some 22) rfl rfl Try.func12 (by kernel_rfl) rfl #[.slice A0 l0.length c0] rfl (by (try simp only [List.map_toArray,List.map_cons,List.map_nil]);first|done|rfl|(simp only [List.length_drop,List.length_take];rfl)) ?_;(with_reducible refine (spec_DrawTermHas.calls kj2 _ _ l0 t251 t252 _ ?side1 ?side2 A6.out).mono ?_);(case side1=>repeat (first|exact (Kd.C_below HR0.out HB.out)|(with_reducible refine Kd.C_alloc ?_ _)|(with_reducible refine Kd.C_drewN ?_ _)|(with_reducible refine Kd.C_drew ?_)));(case side2=>exact HC0.out);rintro e w28 ⟨rfl,hb⟩;refine ⟨_,rfl,?_⟩;have n0_:=Aside0.mk (yP (by repeat (first|(with_reducible first|exact HB.out|apply yA|apply yB|apply yC)|exact HB.out)) hb);clear HB;have HB:=n0_;clear n0_;(try clear hb);(try clear hb2);(try clear hk);(try clear hi))|((with_reducible refine gate_callee (f:=12) rfl ?_);refine goesL_ (some 27) rfl rfl Try.func12 (by kernel_rfl) rfl #[.slice A1 l1.length c1] rfl (by (try simp only [List.map_toArray,List.map_cons,List.map_nil]);first|done|rfl|(simp only [List.length_drop,List.length_take];rfl)) ?_;(with_reducible refine (spec_DrawTermHas.calls kj2 _ _ l1 t253 t254 _ ?side1 ?side2 A7.out).mono ?_);(case side1=>repeat (first|exact (Kd.C_below HR1.out HB.out)|(with_reducible refine Kd.C_alloc ?_ _)|(with_reducible refine Kd.C_drewN ?_ _)|(with_reducible refine Kd.C_drew ?_)));(case side2=>exact HC1.out);rintro e w29 ⟨rfl,hb⟩;refine ⟨_,rfl,?_⟩;have n0_:=Aside0.mk (yP (by repeat (first|(with_reducible first|exact HB.out|apply yA|apply yB|apply yC)|exact HB.out)) hb);clear HB;have HB:=n0_;clear n0_;(try clear hb);(try clear hb2);(try clear hk);(try clear hi))|((with_reducible refine gate_callee (f:=11) rfl ?_);refine goesL_ (some 34) rfl rfl Try.func11 (by kernel_rfl) rfl #[.string ((⟨#[42]⟩:ByteArray)++t251),.int .i64 t252] rfl (by (try simp only [List.map_toArray,List.map_cons,List.map_nil]);first|done|rfl|(simp only [List.length_drop,List.length_take];rfl)) ?_;(with_reducible refine (impl_TermHas.calls ((⟨#[42]⟩:ByteArray)++t251) t252 true _ A9.out).mono ?_);rintro e w30 ⟨rfl,hb⟩;refine ⟨_,rfl,?_⟩;have n0_:=Aside0.mk (yP (by repeat (first|(with_reducible first|exact HB.out|apply yA|apply yB|apply yC)|exact HB.out)) hb);clear HB;have HB:=n0_;clear n0_;(try clear hb);(try clear hb2);(try clear hk);(try clear hi))|((with_reducible refine gate_callee (f:=13) rfl ?_);refine goesL_ (some 38) rfl rfl Try.func13 (by kernel_rfl) rfl #[.string ((⟨#[42]⟩:ByteArray)++t251),.int .i64 t252] rfl (by (try simp only [List.map_toArray,List.map_cons,List.map_nil]);first|done|rfl|(simp only [List.length_drop,List.length_take];rfl)) ?_;(with_reducible refine (spec_TermHas.calls kj2 ((⟨#[42]⟩:ByteArray)++t251) t252 t256 _ A10.out).mono ?_);rintro e w31 ⟨rfl,hb⟩;refine ⟨_,rfl,?_⟩;have n0_:=Aside0.mk (yP (by repeat (first|(with_reducible first|exact HB.out|apply yA|apply yB|apply yC)|exact HB.out)) hb);clear HB;have HB:=n0_;clear n0_;(try clear hb);(try clear hb2);(try clear hk);(try clear hi))|((with_reducible refine gate_callee (f:=11) rfl ?_);refine goesL_ (some 42) rfl rfl Try.func11 (by kernel_rfl) rfl #[.string ((⟨#[42]⟩:ByteArray)++t251),.int .i64 t254] rfl (by (try simp only [List.map_toArray,List.map_cons,List.map_nil]);first|done|rfl|(simp only [List.length_drop,List.length_take];rfl)) ?_;(with_reducible refine (impl_TermHas.calls ((⟨#[42]⟩:ByteArray)++t251) t254 true _ A16.out).mono ?_);rintro e w32 ⟨rfl,hb⟩;refine ⟨_,rfl,?_⟩;have n0_:=Aside0.mk (yP (by repeat (first|(with_reducible first|exact HB.out|apply yA|apply yB|apply yC)|exact HB.out)) hb);clear HB;have HB:=n0_;clear n0_;(try clear hb);(try clear hb2);(try clear hk);(try clear hi))|(go_at_call 11;(with_reducible refine (impl_TermHas.calls t251 t252 false _ A20.out).mono ?_);rintro e w33 ⟨rfl,hb⟩;have n0_:=Aside0.mk (yP (by repeat (first|(with_reducible first|exact HB.out|apply yA|apply yB|apply yC)|exact HB.out)) hb);clear HB;have HB:=n0_;clear n0_;(try clear hb);(try clear hb2);(try clear hk);(try clear hi)))
          go_ret
          exact ⟨by first|rfl|(simp [errW_none,errW_some]<;>rfl)|(simp [*,errW_none,errW_some]<;>rfl)|(simp [errW_none,errW_some];exact ⟨rfl,rfl⟩),by repeat (first|(with_reducible first|exact HB.out|apply yA|apply yB|apply yC)|exact HB.out)⟩
        ·rw [if_neg c19] at H
         have c19b0:decide (200<(wrap64 (t252+t254)))=false:=decide_eq_false c19
         clear c19
         replace H:=Option.bind_eq_some_iff.mp H
         obtain ⟨t259,A340,H⟩:=H
         replace H:(if t259=true then ((impl_TermHas.f t251 t252).bind fun t260=>(if t260=true then (some true) else (some true))) else (some false))=some r:=H
         have A34:=Aside0.mk A340
         clear A340
         by_cases c35:t259=true
         ·subst c35
          have H1:((impl_TermHas.f t251 t252).bind fun t260=>(if t260=true then (some true) else (some true)))=some r:=by rw [if_pos rfl] at H;exact H
          clear H
          have H:=H1
          clear H1
          replace H:=Option.bind_eq_some_iff.mp H
          obtain ⟨t260,A360,H⟩:=H
          replace H:(if t260=true then (some true) else (some true))=some r:=H
          have A36:=Aside0.mk A360
          clear A360
          by_cases c37:t260=true
          ·subst c37
           have H1:(some true)=some r:=by rw [if_pos rfl] at H;exact H
           clear H
           have H:=H1
           clear H1
           obtain rfl:=Option.some.inj H
           go_wp2_with (first|((with_reducible refine gate_callee (f:=12) rfl ?_);refine goesL_ (some 22) rfl rfl Try.func12 (by kernel_rfl) rfl #[.slice A0 l0.length c0] rfl (by (try simp only [List.map_toArray,List.map_cons,List.map_nil]);first|done|rfl|(simp only [List.length_drop,List.length_take];rfl)) ?_;(with_reducible refine (spec_DrawTermHas.calls kj2 _ _ l0 t251 t252 _ ?side1 ?side2 A6.out).mono ?_);(case side1=>repeat (first|exact (Kd.C_below HR0.out HB.out)|(with_reducible refine Kd.C_alloc ?_ _)|(with_reducible refine Kd.C_drewN ?_ _)|(with_reducible refine Kd.C_drew ?_)));(case side2=>exact HC0.out);rintro e w38 ⟨rfl,hb⟩;refine ⟨_,rfl,?_⟩;have n0_:=Aside0.mk (yP (by repeat (first|(with_reducible first|exact HB.out|apply yA|apply yB|apply yC)|exact HB.out)) hb);clear HB;have HB:=n0_;clear n0_;(try clear hb);(try clear hb2);(try clear hk);(try clear hi))|((with_reducible refine gate_callee (f:=12) rfl ?_);refine goesL_ (some 27) rfl rfl Try.func12 (by kernel_rfl) rfl #[.slice A1 l1.length c1] rfl (by (try simp only [List.map_toArray,List.map_cons,List.map_nil]);first|done|rfl|(simp only [List.length_drop,List.length_take];rfl)) ?_;(with_reducible refine (spec_DrawTermHas.calls kj2 _ _ l1 t253 t254 _ ?side1 ?side2 A7.out).mono ?_);(case side1=>repeat (first|exact (Kd.C_below HR1.out HB.out)|(with_reducible refine Kd.C_alloc ?_ _)|(with_reducible refine Kd.C_drewN ?_ _)|(with_reducible refine Kd.C_drew ?_)));(case side2=>exact HC1.out);rintro e w39 ⟨rfl,hb⟩;refine ⟨_,rfl,?_⟩;have n0_:=Aside0.mk (yP (by repeat (first|(with_reducible first|exact HB.out|apply yA|apply yB|apply yC)|exact HB.out)) hb);clear HB;have HB:=n0_;clear n0_;(try clear hb);(try clear hb2);(try clear hk);(try clear hi))|((with_reducible refine gate_callee (f:=11) rfl ?_);refine goesL_ (some 34) rfl rfl Try.func11 (by kernel_rfl) rfl #[.string ((⟨#[42]⟩:ByteArray)++t251),.int .i64 t252] rfl (by (try simp only [List.map_toArray,List.map_cons,List.map_nil]);first|done|rfl|(simp only [List.length_drop,List.length_take];rfl)) ?_;(with_reducible refine (impl_TermHas.calls ((⟨#[42]⟩:ByteArray)++t251) t252 true _ A9.out).mono ?_);rintro e w40 ⟨rfl,hb⟩;refine ⟨_,rfl,?_⟩;have n0_:=Aside0.mk (yP (by repeat (first|(with_reducible first|exact HB.out|apply yA|apply yB|apply yC)|exact HB.out)) hb);clear HB;have HB:=n0_;clear n0_;(try clear hb);(try clear hb2);(try clear hk);(try clear hi))|((with_reducible refine gate_callee (f:=13) rfl ?_);refine goesL_ (some 38) rfl rfl Try.func13 (by kernel_rfl) rfl #[.string ((⟨#[42]⟩:ByteArray)++t251),.int .i64 t252] rfl (by (try simp only [List.map_toArray,List.map_cons,List.map_nil]);first|done|rfl|(simp only [List.length_drop,List.length_take];rfl)) ?_;(with_reducible refine (spec_TermHas.calls kj2 ((⟨#[42]⟩:ByteArray)++t251) t252 t256 _ A10.out).mono ?_);rintro e w41 ⟨rfl,hb⟩;refine ⟨_,rfl,?_⟩;have n0_:=Aside0.mk (yP (by repeat (first|(with_reducible first|exact HB.out|apply yA|apply yB|apply yC)|exact HB.out)) hb);clear HB;have HB:=n0_;clear n0_;(try clear hb);(try clear hb2);(try clear hk);(try clear hi))|((with_reducible refine gate_callee (f:=11) rfl ?_);refine goesL_ (some 42) rfl rfl Try.func11 (by kernel_rfl) rfl #[.string ((⟨#[42]⟩:ByteArray)++t251),.int .i64 t254] rfl (by (try simp only [List.map_toArray,List.map_cons,List.map_nil]);first|done|rfl|(simp only [List.length_drop,List.length_take];rfl)) ?_;(with_reducible refine (impl_TermHas.calls ((⟨#[42]⟩:ByteArray)++t251) t254 true _ A16.out).mono ?_);rintro e w42 ⟨rfl,hb⟩;refine ⟨_,rfl,?_⟩;have n0_:=Aside0.mk (yP (by repeat (first|(with_reducible first|exact HB.out|apply yA|apply yB|apply yC)|exact HB.out)) hb);clear HB;have HB:=n0_;clear n0_;(try clear hb);(try clear hb2);(try clear hk);(try clear hi))|(go_at_call 11;(with_reducible refine (impl_TermHas.calls ((⟨#[42]⟩:ByteArray)++t251) (wrap64 (t252+t254)) true _ A34.out).mono ?_);rintro e w43 ⟨rfl,hb⟩;have n0_:=Aside0.mk (yP (by repeat (first|(with_reducible first|exact HB.out|apply yA|apply yB|apply yC)|exact HB.out)) hb);clear HB;have HB:=n0_;clear n0_;(try clear hb);(try clear hb2);(try clear hk);(try clear hi))|(go_at_call 11;(with_reducible refine (impl_TermHas.calls t251 t252 true _ A36.out).mono ?_);rintro e w44 ⟨rfl,hb⟩;have n0_:=Aside0.mk (yP (by repeat (first|(with_reducible first|exact HB.out|apply yA|apply yB|apply yC)|exact HB.out)) hb);clear HB;have HB:=n0_;clear n0_;(try clear hb);(try clear hb2);(try clear hk);(try clear hi)))
           go_ret
           exact ⟨by first|rfl|(simp [errW_none,errW_some]<;>rfl)|(simp [*,errW_none,errW_some]<;>rfl)|(simp [errW_none,errW_some];exact ⟨rfl,rfl⟩),by repeat (first|(with_reducible first|exact HB.out|apply yA|apply yB|apply yC)|exact HB.out)⟩
          ·replace c37:=Bool.eq_false_iff.mpr c37
           subst c37
           have H1:(some true)=some r:=by rw [if_neg (show ¬ (false=true) by decide)] at H;exact H
           clear H
           have H:=H1
           clear H1
           obtain rfl:=Option.some.inj H
           go_wp2_with (first|((with_reducible refine gate_callee (f:=12) rfl ?_);refine goesL_ (some 22) rfl rfl Try.func12 (by kernel_rfl) rfl #[.slice A0 l0.length c0] rfl (by (try simp only [List.map_toArray,List.map_cons,List.map_nil]);first|done|rfl|(simp only [List.length_drop,List.length_take];rfl)) ?_;(with_reducible refine (spec_DrawTermHas.calls kj2 _ _ l0 t251 t252 _ ?side1 ?side2 A6.out).mono ?_);(case side1=>repeat (first|exact (Kd.C_below HR0.out HB.out)|(with_reducible refine Kd.C_alloc ?_ _)|(with_reducible refine Kd.C_drewN ?_ _)|(with_reducible refine Kd.C_drew ?_)));(case side2=>exact HC0.out);rintro e w45 ⟨rfl,hb⟩;refine ⟨_,rfl,?_⟩;have n0_:=Aside0.mk (yP (by repeat (first|(with_reducible first|exact HB.out|apply yA|apply yB|apply yC)|exact HB.out)) hb);clear HB;have HB:=n0_;clear n0_;(try clear hb);(try clear hb2);(try clear hk);(try clear hi))|((with_reducible refine gate_callee (f:=12) rfl ?_);refine goesL_ (some 27) rfl rfl Try.func12 (by kernel_rfl) rfl #[.slice A1 l1.length c1] rfl (by (try simp only [List.map_toArray,List.map_cons,List.map_nil]);first|done|rfl|(simp only [List.length_drop,List.length_take];rfl)) ?_;(with_reducible refine (spec_DrawTermHas.calls kj2 _ _ l1 t253 t254 _ ?side1 ?side2 A7.out).mono ?_);(case side1=>repeat (first|exact (Kd.C_below HR1.out HB.out)|(with_reducible refine Kd.C_alloc ?_ _)|(with_reducible refine Kd.C_drewN ?_ _)|(with_reducible refine Kd.C_drew ?_)));(case side2=>exact HC1.out);rintro e w46 ⟨rfl,hb⟩;refine ⟨_,rfl,?_⟩;have n0_:=Aside0.mk (yP (by repeat (first|(with_reducible first|exact HB.out|apply yA|apply yB|apply yC)|exact HB.out)) hb);clear HB;have HB:=n0_;clear n0_;(try clear hb);(try clear hb2);(try clear hk);(try clear hi))|((with_reducible refine gate_callee (f:=11) rfl ?_);refine goesL_ (some 34) rfl rfl Try.func11 (by kernel_rfl) rfl #[.string ((⟨#[42]⟩:ByteArray)++t251),.int .i64 t252] rfl (by (try simp only [List.map_toArray,List.map_cons,List.map_nil]);first|done|rfl|(simp only [List.length_drop,List.length_take];rfl)) ?_;(with_reducible refine (impl_TermHas.calls ((⟨#[42]⟩:ByteArray)++t251) t252 true _ A9.out).mono ?_);rintro e w47 ⟨rfl,hb⟩;refine ⟨_,rfl,?_⟩;have n0_:=Aside0.mk (yP (by repeat (first|(with_reducible first|exact HB.out|apply yA|apply yB|apply yC)|exact HB.out)) hb);clear HB;have HB:=n0_;clear n0_;(try clear hb);(try clear hb2);(try clear hk);(try clear hi))|((with_reducible refine gate_callee (f:=13) rfl ?_);refine goesL_ (some 38) rfl rfl Try.func13 (by kernel_rfl) rfl #[.string ((⟨#[42]⟩:ByteArray)++t251),.int .i64 t252] rfl (by (try simp only [List.map_toArray,List.map_cons,List.map_nil]);first|done|rfl|(simp only [List.length_drop,List.length_take];rfl)) ?_;(with_reducible refine (spec_TermHas.calls kj2 ((⟨#[42]⟩:ByteArray)++t251) t252 t256 _ A10.out).mono ?_);rintro e w48 ⟨rfl,hb⟩;refine ⟨_,rfl,?_⟩;have n0_:=Aside0.mk (yP (by repeat (first|(with_reducible first|exact HB.out|apply yA|apply yB|apply yC)|exact HB.out)) hb);clear HB;have HB:=n0_;clear n0_;(try clear hb);(try clear hb2);(try clear hk);(try clear hi))|((with_reducible refine gate_callee (f:=11) rfl ?_);refine goesL_ (some 42) rfl rfl Try.func11 (by kernel_rfl) rfl #[.string ((⟨#[42]⟩:ByteArray)++t251),.int .i64 t254] rfl (by (try simp only [List.map_toArray,List.map_cons,List.map_nil]);first|done|rfl|(simp only [List.length_drop,List.length_take];rfl)) ?_;(with_reducible refine (impl_TermHas.calls ((⟨#[42]⟩:ByteArray)++t251) t254 true _ A16.out).mono ?_);rintro e w49 ⟨rfl,hb⟩;refine ⟨_,rfl,?_⟩;have n0_:=Aside0.mk (yP (by repeat (first|(with_reducible first|exact HB.out|apply yA|apply yB|apply yC)|exact HB.out)) hb);clear HB;have HB:=n0_;clear n0_;(try clear hb);(try clear hb2);(try clear hk);(try clear hi))|(go_at_call 11;(with_reducible refine (impl_TermHas.calls ((⟨#[42]⟩:ByteArray)++t251) (wrap64 (t252+t254)) true _ A34.out).mono ?_);rintro e w50 ⟨rfl,hb⟩;have n0_:=Aside0.mk (yP (by repeat (first|(with_reducible first|exact HB.out|apply yA|apply yB|apply yC)|exact HB.out)) hb);clear HB;have HB:=n0_;clear n0_;(try clear hb);(try clear hb2);(try clear hk);(try clear hi))|(go_at_call 11;(with_reducible refine (impl_TermHas.calls t251 t252 false _ A36.out).mono ?_);rintro e w51 ⟨rfl,hb⟩;have n0_:=Aside0.mk (yP (by repeat (first|(with_reducible first|exact HB.out|apply yA|apply yB|apply yC)|exact HB.out)) hb);clear HB;have HB:=n0_;clear n0_;(try clear hb);(try clear hb2);(try clear hk);(try clear hi)))
           go_ret
           exact ⟨by first|rfl|(simp [errW_none,errW_some]<;>rfl)|(simp [*,errW_none,errW_some]<;>rfl)|(simp [errW_none,errW_some];exact ⟨rfl,rfl⟩),by repeat (first|(with_reducible first|exact HB.out|apply yA|apply yB|apply yC)|exact HB.out)⟩
         ·replace c35:=Bool.eq_false_iff.mpr c35
          subst c35
          have H1:(some false)=some r:=by rw [if_neg (show ¬ (false=true) by decide)] at H;exact H
          clear H
          have H:=H1
          clear H1
          obtain rfl:=Option.some.inj H
          go_wp2_with (first|((with_reducible refine gate_callee (f:=12) rfl ?_);refine goesL_ (some 22) rfl rfl Try.func12 (by kernel_rfl) rfl #[.slice A0 l0.length c0] rfl (by (try simp only [List.map_toArray,List.map_cons,List.map_nil]);first|done|rfl|(simp only [List.length_drop,List.length_take];rfl)) ?_;(with_reducible refine (spec_DrawTermHas.calls kj2 _ _ l0 t251 t252 _ ?side1 ?side2 A6.out).mono ?_);(case side1=>repeat (first|exact (Kd.C_below HR0.out HB.out)|(with_reducible refine Kd.C_alloc ?_ _)|(with_reducible refine Kd.C_drewN ?_ _)|(with_reducible refine Kd.C_drew ?_)));(case side2=>exact HC0.out);rintro e w52 ⟨rfl,hb⟩;refine ⟨_,rfl,?_⟩;have n0_:=Aside0.mk (yP (by repeat (first|(with_reducible first|exact HB.out|apply yA|apply yB|apply yC)|exact HB.out)) hb);clear HB;have HB:=n0_;clear n0_;(try clear hb);(try clear hb2);(try clear hk);(try clear hi))|((with_reducible refine gate_callee (f:=12) rfl ?_);refine goesL_ (some 27) rfl rfl Try.func12 (by kernel_rfl) rfl #[.slice A1 l1.length c1] rfl (by (try simp only [List.map_toArray,List.map_cons,List.map_nil]);first|done|rfl|(simp only [List.length_drop,List.length_take];rfl)) ?_;(with_reducible refine (spec_DrawTermHas.calls kj2 _ _ l1 t253 t254 _ ?side1 ?side2 A7.out).mono ?_);(case side1=>repeat (first|exact (Kd.C_below HR1.out HB.out)|(with_reducible refine Kd.C_alloc ?_ _)|(with_reducible refine Kd.C_drewN ?_ _)|(with_reducible refine Kd.C_drew ?_)));(case side2=>exact HC1.out);rintro e w53 ⟨rfl,hb⟩;refine ⟨_,rfl,?_⟩;have n0_:=Aside0.mk (yP (by repeat (first|(with_reducible first|exact HB.out|apply yA|apply yB|apply yC)|exact HB.out)) hb);clear HB;have HB:=n0_;clear n0_;(try clear hb);(try clear hb2);(try clear hk);(try clear hi))|((with_reducible refine gate_callee (f:=11) rfl ?_);refine goesL_ (some 34) rfl rfl Try.func11 (by kernel_rfl) rfl #[.string ((⟨#[42]⟩:ByteArray)++t251),.int .i64 t252] rfl (by (try simp only [List.map_toArray,List.map_cons,List.map_nil]);first|done|rfl|(simp only [List.length_drop,List.length_take];rfl)) ?_;(with_reducible refine (impl_TermHas.calls ((⟨#[42]⟩:ByteArray)++t251) t252 true _ A9.out).mono ?_);rintro e w54 ⟨rfl,hb⟩;refine ⟨_,rfl,?_⟩;have n0_:=Aside0.mk (yP (by repeat (first|(with_reducible first|exact HB.out|apply yA|apply yB|apply yC)|exact HB.out)) hb);clear HB;have HB:=n0_;clear n0_;(try clear hb);(try clear hb2);(try clear hk);(try clear hi))|((with_reducible refine gate_callee (f:=13) rfl ?_);refine goesL_ (some 38) rfl rfl Try.func13 (by kernel_rfl) rfl #[.string ((⟨#[42]⟩:ByteArray)++t251),.int .i64 t252] rfl (by (try simp only [List.map_toArray,List.map_cons,List.map_nil]);first|done|rfl|(simp only [List.length_drop,List.length_take];rfl)) ?_;(with_reducible refine (spec_TermHas.calls kj2 ((⟨#[42]⟩:ByteArray)++t251) t252 t256 _ A10.out).mono ?_);rintro e w55 ⟨rfl,hb⟩;refine ⟨_,rfl,?_⟩;have n0_:=Aside0.mk (yP (by repeat (first|(with_reducible first|exact HB.out|apply yA|apply yB|apply yC)|exact HB.out)) hb);clear HB;have HB:=n0_;clear n0_;(try clear hb);(try clear hb2);(try clear hk);(try clear hi))|((with_reducible refine gate_callee (f:=11) rfl ?_);refine goesL_ (some 42) rfl rfl Try.func11 (by kernel_rfl) rfl #[.string ((⟨#[42]⟩:ByteArray)++t251),.int .i64 t254] rfl (by (try simp only [List.map_toArray,List.map_cons,List.map_nil]);first|done|rfl|(simp only [List.length_drop,List.length_take];rfl)) ?_;(with_reducible refine (impl_TermHas.calls ((⟨#[42]⟩:ByteArray)++t251) t254 true _ A16.out).mono ?_);rintro e w56 ⟨rfl,hb⟩;refine ⟨_,rfl,?_⟩;have n0_:=Aside0.mk (yP (by repeat (first|(with_reducible first|exact HB.out|apply yA|apply yB|apply yC)|exact HB.out)) hb);clear HB;have HB:=n0_;clear n0_;(try clear hb);(try clear hb2);(try clear hk);(try clear hi))|(go_at_call 11;(with_reducible refine (impl_TermHas.calls ((⟨#[42]⟩:ByteArray)++t251) (wrap64 (t252+t254)) false _ A34.out).mono ?_);rintro e w57 ⟨rfl,hb⟩;have n0_:=Aside0.mk (yP (by repeat (first|(with_reducible first|exact HB.out|apply yA|apply yB|apply yC)|exact HB.out)) hb);clear HB;have HB:=n0_;clear n0_;(try clear hb);(try clear hb2);(try clear hk);(try clear hi)))
          go_ret
          exact ⟨by first|rfl|(simp [errW_none,errW_some]<;>rfl)|(simp [*,errW_none,errW_some]<;>rfl)|(simp [errW_none,errW_some];exact ⟨rfl,rfl⟩),by repeat (first|(with_reducible first|exact HB.out|apply yA|apply yB|apply yC)|exact HB.out)⟩
       ·replace c18:=Bool.eq_false_iff.mpr c18
        subst c18
        have H1:((impl_TermHas.f t251 t252).bind fun t261=>(if t261=true then (some true) else (some true)))=some r:=by rw [if_neg (show ¬ (false=true) by decide)] at H;exact H
        clear H
        have H:=H1
        clear H1
        replace H:=Option.bind_eq_some_iff.mp H
        obtain ⟨t261,A580,H⟩:=H
        replace H:(if t261=true then (some true) else (some true))=some r:=H
        have A58:=Aside0.mk A580
        clear A580
        by_cases c59:t261=true
        ·subst c59
         have H1:(some true)=some r:=by rw [if_pos rfl] at H;exact H
         clear H
         have H:=H1
         clear H1
         obtain rfl:=Option.some.inj H
         go_wp2_with (first|((with_reducible refine gate_callee (f:=12) rfl ?_);refine goesL_ (some 22) rfl rfl Try.func12 (by kernel_rfl) rfl #[.slice A0 l0.length c0] rfl (by (try simp only [List.map_toArray,List.map_cons,List.map_nil]);first|done|rfl|(simp only [List.length_drop,List.length_take];rfl)) ?_;(with_reducible refine (spec_DrawTermHas.calls kj2 _ _ l0 t251 t252 _ ?side1 ?side2 A6.out).mono ?_);(case side1=>repeat (first|exact (Kd.C_below HR0.out HB.out)|(with_reducible refine Kd.C_alloc ?_ _)|(with_reducible refine Kd.C_drewN ?_ _)|(with_reducible refine Kd.C_drew ?_)));(case side2=>exact HC0.out);rintro e w60 ⟨rfl,hb⟩;refine ⟨_,rfl,?_⟩;have n0_:=Aside0.mk (yP (by repeat (first|(with_reducible first|exact HB.out|apply yA|apply yB|apply yC)|exact HB.out)) hb);clear HB;have HB:=n0_;clear n0_;(try clear hb);(try clear hb2);(try clear hk);(try clear hi))|((with_reducible refine gate_callee (f:=12) rfl ?_);refine goesL_ (some 27) rfl rfl Try.func12 (by kernel_rfl) rfl #[.slice A1 l1.length c1] rfl (by (try simp only [List.map_toArray,List.map_cons,List.map_nil]);first|done|rfl|(simp only [List.length_drop,List.length_take];rfl)) ?_;(with_reducible refine (spec_DrawTermHas.calls kj2 _ _ l1 t253 t254 _ ?side1 ?side2 A7.out).mono ?_);(case side1=>repeat (first|exact (Kd.C_below HR1.out HB.out)|(with_reducible refine Kd.C_alloc ?_ _)|(with_reducible refine Kd.C_drewN ?_ _)|(with_reducible refine Kd.C_drew ?_)));(case side2=>exact HC1.out);rintro e w61 ⟨rfl,hb⟩;refine ⟨_,rfl,?_⟩;have n0_:=Aside0.mk (yP (by repeat (first|(with_reducible first|exact HB.out|apply yA|apply yB|apply yC)|exact HB.out)) hb);clear HB;have HB:=n0_;clear n0_;(try clear hb);(try clear hb2);(try clear hk);(try clear hi))|((with_reducible refine gate_callee (f:=11) rfl ?_);refine goesL_ (some 34) rfl rfl Try.func11 (by kernel_rfl) rfl #[.string ((⟨#[42]⟩:ByteArray)++t251),.int .i64 t252] rfl (by (try simp only [List.map_toArray,List.map_cons,List.map_nil]);first|done|rfl|(simp only [List.length_drop,List.length_take];rfl)) ?_;(with_reducible refine (impl_TermHas.calls ((⟨#[42]⟩:ByteArray)++t251) t252 true _ A9.out).mono ?_);rintro e w62 ⟨rfl,hb⟩;refine ⟨_,rfl,?_⟩;have n0_:=Aside0.mk (yP (by repeat (first|(with_reducible first|exact HB.out|apply yA|apply yB|apply yC)|exact HB.out)) hb);clear HB;have HB:=n0_;clear n0_;(try clear hb);(try clear hb2);(try clear hk);(try clear hi))|((with_reducible refine gate_callee (f:=13) rfl ?_);refine goesL_ (some 38) rfl rfl Try.func13 (by kernel_rfl) rfl #[.string ((⟨#[42]⟩:ByteArray)++t251),.int .i64 t252] rfl (by (try simp only [List.map_toArray,List.map_cons,List.map_nil]);first|done|rfl|(simp only [List.length_drop,List.length_take];rfl)) ?_;(with_reducible refine (spec_TermHas.calls kj2 ((⟨#[42]⟩:ByteArray)++t251) t252 t256 _ A10.out).mono ?_);rintro e w63 ⟨rfl,hb⟩;refine ⟨_,rfl,?_⟩;have n0_:=Aside0.mk (yP (by repeat (first|(with_reducible first|exact HB.out|apply yA|apply yB|apply yC)|exact HB.out)) hb);clear HB;have HB:=n0_;clear n0_;(try clear hb);(try clear hb2);(try clear hk);(try clear hi))|((with_reducible refine gate_callee (f:=11) rfl ?_);refine goesL_ (some 42) rfl rfl Try.func11 (by kernel_rfl) rfl #[.string ((⟨#[42]⟩:ByteArray)++t251),.int .i64 t254] rfl (by (try simp only [List.map_toArray,List.map_cons,List.map_nil]);first|done|rfl|(simp only [List.length_drop,List.length_take];rfl)) ?_;(with_reducible refine (impl_TermHas.calls ((⟨#[42]⟩:ByteArray)++t251) t254 false _ A16.out).mono ?_);rintro e w64 ⟨rfl,hb⟩;refine ⟨_,rfl,?_⟩;have n0_:=Aside0.mk (yP (by repeat (first|(with_reducible first|exact HB.out|apply yA|apply yB|apply yC)|exact HB.out)) hb);clear HB;have HB:=n0_;clear n0_;(try clear hb);(try clear hb2);(try clear hk);(try clear hi))|(go_at_call 11;(with_reducible refine (impl_TermHas.calls t251 t252 true _ A58.out).mono ?_);rintro e w65 ⟨rfl,hb⟩;have n0_:=Aside0.mk (yP (by repeat (first|(with_reducible first|exact HB.out|apply yA|apply yB|apply yC)|exact HB.out)) hb);clear HB;have HB:=n0_;clear n0_;(try clear hb);(try clear hb2);(try clear hk);(try clear hi)))
         go_ret
         exact ⟨by first|rfl|(simp [errW_none,errW_some]<;>rfl)|(simp [*,errW_none,errW_some]<;>rfl)|(simp [errW_none,errW_some];exact ⟨rfl,rfl⟩),by repeat (first|(with_reducible first|exact HB.out|apply yA|apply yB|apply yC)|exact HB.out)⟩
        ·replace c59:=Bool.eq_false_iff.mpr c59
         subst c59
         have H1:(some true)=some r:=by rw [if_neg (show ¬ (false=true) by decide)] at H;exact H
         clear H
         have H:=H1
         clear H1
         obtain rfl:=Option.some.inj H
         go_wp2_with (first|((with_reducible refine gate_callee (f:=12) rfl ?_);refine goesL_ (some 22) rfl rfl Try.func12 (by kernel_rfl) rfl #[.slice A0 l0.length c0] rfl (by (try simp only [List.map_toArray,List.map_cons,List.map_nil]);first|done|rfl|(simp only [List.length_drop,List.length_take];rfl)) ?_;(with_reducible refine (spec_DrawTermHas.calls kj2 _ _ l0 t251 t252 _ ?side1 ?side2 A6.out).mono ?_);(case side1=>repeat (first|exact (Kd.C_below HR0.out HB.out)|(with_reducible refine Kd.C_alloc ?_ _)|(with_reducible refine Kd.C_drewN ?_ _)|(with_reducible refine Kd.C_drew ?_)));(case side2=>exact HC0.out);rintro e w66 ⟨rfl,hb⟩;refine ⟨_,rfl,?_⟩;have n0_:=Aside0.mk (yP (by repeat (first|(with_reducible first|exact HB.out|apply yA|apply yB|apply yC)|exact HB.out)) hb);clear HB;have HB:=n0_;clear n0_;(try clear hb);(try clear hb2);(try clear hk);(try clear hi))|((with_reducible refine gate_callee (f:=12) rfl ?_);refine goesL_ (some 27) rfl rfl Try.func12 (by kernel_rfl) rfl #[.slice A1 l1.length c1] rfl (by (try simp only [List.map_toArray,List.map_cons,List.map_nil]);first|done|rfl|(simp only [List.length_drop,List.length_take];rfl)) ?_;(with_reducible refine (spec_DrawTermHas.calls kj2 _ _ l1 t253 t254 _ ?side1 ?side2 A7.out).mono ?_);(case side1=>repeat (first|exact (Kd.C_below HR1.out HB.out)|(with_reducible refine Kd.C_alloc ?_ _)|(with_reducible refine Kd.C_drewN ?_ _)|(with_reducible refine Kd.C_drew ?_)));(case side2=>exact HC1.out);rintro e w67 ⟨rfl,hb⟩;refine ⟨_,rfl,?_⟩;have n0_:=Aside0.mk (yP (by repeat (first|(with_reducible first|exact HB.out|apply yA|apply yB|apply yC)|exact HB.out)) hb);clear HB;have HB:=n0_;clear n0_;(try clear hb);(try clear hb2);(try clear hk);(try clear hi))|((with_reducible refine gate_callee (f:=11) rfl ?_);refine goesL_ (some 34) rfl rfl Try.func11 (by kernel_rfl) rfl #[.string ((⟨#[42]⟩:ByteArray)++t251),.int .i64 t252] rfl (by (try simp only [List.map_toArray,List.map_cons,List.map_nil]);first|done|rfl|(simp only [List.length_drop,List.length_take];rfl)) ?_;(with_reducible refine (impl_TermHas.calls ((⟨#[42]⟩:ByteArray)++t251) t252 true _ A9.out).mono ?_);rintro e w68 ⟨rfl,hb⟩;refine ⟨_,rfl,?_⟩;have n0_:=Aside0.mk (yP (by repeat (first|(with_reducible first|exact HB.out|apply yA|apply yB|apply yC)|exact HB.out)) hb);clear HB;have HB:=n0_;clear n0_;(try clear hb);(try clear hb2);(try clear hk);(try clear hi))|((with_reducible refine gate_callee (f:=13) rfl ?_);refine goesL_ (some 38) rfl rfl Try.func13 (by kernel_rfl) rfl #[.string ((⟨#[42]⟩:ByteArray)++t251),.int .i64 t252] rfl (by (try simp only [List.map_toArray,List.map_cons,List.map_nil]);first|done|rfl|(simp only [List.length_drop,List.length_take];rfl)) ?_;(with_reducible refine (spec_TermHas.calls kj2 ((⟨#[42]⟩:ByteArray)++t251) t252 t256 _ A10.out).mono ?_);rintro e w69 ⟨rfl,hb⟩;refine ⟨_,rfl,?_⟩;have n0_:=Aside0.mk (yP (by repeat (first|(with_reducible first|exact HB.out|apply yA|apply yB|apply yC)|exact HB.out)) hb);clear HB;have HB:=n0_;clear n0_;(try clear hb);(try clear hb2);(try clear hk);(try clear hi))|((with_reducible refine gate_callee (f:=11) rfl ?_);refine goesL_ (some 42) rfl rfl Try.func11 (by kernel_rfl) rfl #[.string ((⟨#[42]⟩:ByteArray)++t251),.int .i64 t254] rfl (by (try simp only [List.map_toArray,List.map_cons,List.map_nil]);first|done|rfl|(simp only [List.length_drop,List.length_take];rfl)) ?_;(with_reducible refine (impl_TermHas.calls ((⟨#[42]⟩:ByteArray)++t251) t254 false _ A16.out).mono ?_);rintro e w70 ⟨rfl,hb⟩;refine ⟨_,rfl,?_⟩;have n0_:=Aside0.mk (yP (by repeat (first|(with_reducible first|exact HB.out|apply yA|apply yB|apply yC)|exact HB.out)) hb);clear HB;have HB:=n0_;clear n0_;(try clear hb);(try clear hb2);(try clear hk);(try clear hi))|(go_at_call 11;(with_reducible refine (impl_TermHas.calls t251 t252 false _ A58.out).mono ?_);rintro e w71 ⟨rfl,hb⟩;have n0_:=Aside0.mk (yP (by repeat (first|(with_reducible first|exact HB.out|apply yA|apply yB|apply yC)|exact HB.out)) hb);clear HB;have HB:=n0_;clear n0_;(try clear hb);(try clear hb2);(try clear hk);(try clear hi)))
         go_ret
         exact ⟨by first|rfl|(simp [errW_none,errW_some]<;>rfl)|(simp [*,errW_none,errW_some]<;>rfl)|(simp [errW_none,errW_some];exact ⟨rfl,rfl⟩),by repeat (first|(with_reducible first|exact HB.out|apply yA|apply yB|apply yC)|exact HB.out)⟩
      ·replace c17:=Bool.eq_false_iff.mpr c17
       subst c17
       have H1:((impl_TermHas.f t251 t252).bind fun t262=>(if t262=true then (some (decide ((((⟨#[42]⟩:ByteArray)++t251).size:Int) > 60))) else (some true)))=some r:=by rw [if_neg (show ¬ (false=true) by decide)] at H;exact H
       clear H
       have H:=H1
       clear H1
       replace H:=Option.bind_eq_some_iff.mp H
       obtain ⟨t262,A720,H⟩:=H
       replace H:(if t262=true then (some (decide ((((⟨#[42]⟩:ByteArray)++t251).size:Int) > 60))) else (some true))=some r:=H
       have A72:=Aside0.mk A720
       clear A720
       by_cases c73:t262=true
       ·subst c73
        have H1:(some (decide ((((⟨#[42]⟩:ByteArray)++t251).size:Int) > 60)))=some r:=by rw [if_pos rfl] at H;exact H
        clear H
        have H:=H1
        clear H1
        obtain rfl:=Option.some.inj H
        go_wp2_with (first|((with_reducible refine gate_callee (f:=12) rfl ?_);refine goesL_ (some 22) rfl rfl Try.func12 (by kernel_rfl) rfl #[.slice A0 l0.length c0] rfl (by (try simp only [List.map_toArray,List.map_cons,List.map_nil]);first|done|rfl|(simp only [List.length_drop,List.length_take];rfl)) ?_;(with_reducible refine (spec_DrawTermHas.calls kj2 _ _ l0 t251 t252 _ ?side1 ?side2 A6.out).mono ?_);(case side1=>repeat (first|exact (Kd.C_below HR0.out HB.out)|(with_reducible refine Kd.C_alloc ?_ _)|(with_reducible refine Kd.C_drewN ?_ _)|(with_reducible refine Kd.C_drew ?_)));(case side2=>exact HC0.out);rintro e w74 ⟨rfl,hb⟩;refine ⟨_,rfl,?_⟩;have n0_:=Aside0.mk (yP (by repeat (first|(with_reducible first|exact HB.out|apply yA|apply yB|apply yC)|exact HB.out)) hb);clear HB;have HB:=n0_;clear n0_;(try clear hb);(try clear hb2);(try clear hk);(try clear hi))|((with_reducible refine gate_callee (f:=12) rfl ?_);refine goesL_ (some 27) rfl rfl Try.func12 (by kernel_rfl) rfl #[.slice A1 l1.length c1] rfl (by (try simp only [List.map_toArray,List.map_cons,List.map_nil]);first|done|rfl|(simp only [List.length_drop,List.length_take];rfl)) ?_;(with_reducible refine (spec_DrawTermHas.calls kj2 _ _ l1 t253 t254 _ ?side1 ?side2 A7.out).mono ?_);(case side1=>repeat (first|exact (Kd.C_below HR1.out HB.out)|(with_reducible refine Kd.C_alloc ?_ _)|(with_reducible refine Kd.C_drewN ?_ _)|(with_reducible refine Kd.C_drew ?_)));(case side2=>exact HC1.out);rintro e w75 ⟨rfl,hb⟩;refine ⟨_,rfl,?_⟩;have n0_:=Aside0.mk (yP (by repeat (first|(with_reducible first|exact HB.out|apply yA|apply yB|apply yC)|exact HB.out)) hb);clear HB;have HB:=n0_;clear n0_;(try clear hb);(try clear hb2);(try clear hk);(try clear hi))|((with_reducible refine gate_callee (f:=11) rfl ?_);refine goesL_ (some 34) rfl rfl Try.func11 (by kernel_rfl) rfl #[.string ((⟨#[42]⟩:ByteArray)++t251),.int .i64 t252] rfl (by (try simp only [List.map_toArray,List.map_cons,List.map_nil]);first|done|rfl|(simp only [List.length_drop,List.length_take];rfl)) ?_;(with_reducible refine (impl_TermHas.calls ((⟨#[42]⟩:ByteArray)++t251) t252 false _ A9.out).mono ?_);rintro e w76 ⟨rfl,hb⟩;refine ⟨_,rfl,?_⟩;have n0_:=Aside0.mk (yP (by repeat (first|(with_reducible first|exact HB.out|apply yA|apply yB|apply yC)|exact HB.out)) hb);clear HB;have HB:=n0_;clear n0_;(try clear hb);(try clear hb2);(try clear hk);(try clear hi))|((with_reducible refine gate_callee (f:=13) rfl ?_);refine goesL_ (some 38) rfl rfl Try.func13 (by kernel_rfl) rfl #[.string ((⟨#[42]⟩:ByteArray)++t251),.int .i64 t252] rfl (by (try simp only [List.map_toArray,List.map_cons,List.map_nil]);first|done|rfl|(simp only [List.length_drop,List.length_take];rfl)) ?_;(with_reducible refine (spec_TermHas.calls kj2 ((⟨#[42]⟩:ByteArray)++t251) t252 t256 _ A10.out).mono ?_);rintro e w77 ⟨rfl,hb⟩;refine ⟨_,rfl,?_⟩;have n0_:=Aside0.mk (yP (by repeat (first|(with_reducible first|exact HB.out|apply yA|apply yB|apply yC)|exact HB.out)) hb);clear HB;have HB:=n0_;clear n0_;(try clear hb);(try clear hb2);(try clear hk);(try clear hi))|((with_reducible refine gate_callee (f:=11) rfl ?_);refine goesL_ (some 42) rfl rfl Try.func11 (by kernel_rfl) rfl #[.string ((⟨#[42]⟩:ByteArray)++t251),.int .i64 t254] rfl (by (try simp only [List.map_toArray,List.map_cons,List.map_nil]);first|done|rfl|(simp only [List.length_drop,List.length_take];rfl)) ?_;(with_reducible refine (impl_TermHas.calls ((⟨#[42]⟩:ByteArray)++t251) t254 t257 _ A16.out).mono ?_);rintro e w78 ⟨rfl,hb⟩;refine ⟨_,rfl,?_⟩;have n0_:=Aside0.mk (yP (by repeat (first|(with_reducible first|exact HB.out|apply yA|apply yB|apply yC)|exact HB.out)) hb);clear HB;have HB:=n0_;clear n0_;(try clear hb);(try clear hb2);(try clear hk);(try clear hi))|(go_at_call 11;(with_reducible refine (impl_TermHas.calls t251 t252 true _ A72.out).mono ?_);rintro e w79 ⟨rfl,hb⟩;have n0_:=Aside0.mk (yP (by repeat (first|(with_reducible first|exact HB.out|apply yA|apply yB|apply yC)|exact HB.out)) hb);clear HB;have HB:=n0_;clear n0_;(try clear hb);(try clear hb2);(try clear hk);(try clear hi)))
        go_ret
        exact ⟨by first|rfl|(simp [errW_none,errW_some]<;>rfl)|(simp [*,errW_none,errW_some]<;>rfl)|(simp [errW_none,errW_some];exact ⟨rfl,rfl⟩),by repeat (first|(with_reducible first|exact HB.out|apply yA|apply yB|apply yC)|exact HB.out)⟩
       ·replace c73:=Bool.eq_false_iff.mpr c73
        subst c73
        have H1:(some true)=some r:=by rw [if_neg (show ¬ (false=true) by decide)] at H;exact H
        clear H
        have H:=H1
        clear H1
        obtain rfl:=Option.some.inj H
        go_wp2_with (first|((with_reducible refine gate_callee (f:=12) rfl ?_);refine goesL_ (some 22) rfl rfl Try.func12 (by kernel_rfl) rfl #[.slice A0 l0.length c0] rfl (by (try simp only [List.map_toArray,List.map_cons,List.map_nil]);first|done|rfl|(simp only [List.length_drop,List.length_take];rfl)) ?_;(with_reducible refine (spec_DrawTermHas.calls kj2 _ _ l0 t251 t252 _ ?side1 ?side2 A6.out).mono ?_);(case side1=>repeat (first|exact (Kd.C_below HR0.out HB.out)|(with_reducible refine Kd.C_alloc ?_ _)|(with_reducible refine Kd.C_drewN ?_ _)|(with_reducible refine Kd.C_drew ?_)));(case side2=>exact HC0.out);rintro e w80 ⟨rfl,hb⟩;refine ⟨_,rfl,?_⟩;have n0_:=Aside0.mk (yP (by repeat (first|(with_reducible first|exact HB.out|apply yA|apply yB|apply yC)|exact HB.out)) hb);clear HB;have HB:=n0_;clear n0_;(try clear hb);(try clear hb2);(try clear hk);(try clear hi))|((with_reducible refine gate_callee (f:=12) rfl ?_);refine goesL_ (some 27) rfl rfl Try.func12 (by kernel_rfl) rfl #[.slice A1 l1.length c1] rfl (by (try simp only [List.map_toArray,List.map_cons,List.map_nil]);first|done|rfl|(simp only [List.length_drop,List.length_take];rfl)) ?_;(with_reducible refine (spec_DrawTermHas.calls kj2 _ _ l1 t253 t254 _ ?side1 ?side2 A7.out).mono ?_);(case side1=>repeat (first|exact (Kd.C_below HR1.out HB.out)|(with_reducible refine Kd.C_alloc ?_ _)|(with_reducible refine Kd.C_drewN ?_ _)|(with_reducible refine Kd.C_drew ?_)));(case side2=>exact HC1.out);rintro e w81 ⟨rfl,hb⟩;refine ⟨_,rfl,?_⟩;have n0_:=Aside0.mk (yP (by repeat (first|(with_reducible first|exact HB.out|apply yA|apply yB|apply yC)|exact HB.out)) hb);clear HB;have HB:=n0_;clear n0_;(try clear hb);(try clear hb2);(try clear hk);(try clear hi))|((with_reducible refine gate_callee (f:=11) rfl ?_);refine goesL_ (some 34) rfl rfl Try.func11 (by kernel_rfl) rfl #[.string ((⟨#[42]⟩:ByteArray)++t251),.int .i64 t252] rfl (by (try simp only [List.map_toArray,List.map_cons,List.map_nil]);first|done|rfl|(simp only [List.length_drop,List.length_take];rfl)) ?_;(with_reducible refine (impl_TermHas.calls ((⟨#[42]⟩:ByteArray)++t251) t252 false _ A9.out).mono ?_);rintro e w82 ⟨rfl,hb⟩;refine ⟨_,rfl,?_⟩;have n0_:=Aside0.mk (yP (by repeat (first|(with_reducible first|exact HB.out|apply yA|apply yB|apply yC)|exact HB.out)) hb);clear HB;have HB:=n0_;clear n0_;(try clear hb);(try clear hb2);(try clear hk);(try clear hi))|((with_reducible refine gate_callee (f:=13) rfl ?_);refine goesL_ (some 38) rfl rfl Try.func13 (by kernel_rfl) rfl #[.string ((⟨#[42]⟩:ByteArray)++t251),.int .i64 t252] rfl (by (try simp only [List.map_toArray,List.map_cons,List.map_nil]);first|done|rfl|(simp only [List.length_drop,List.length_take];rfl)) ?_;(with_reducible refine (spec_TermHas.calls kj2 ((⟨#[42]⟩:ByteArray)++t251) t252 t256 _ A10.out).mono ?_);rintro e w83 ⟨rfl,hb⟩;refine ⟨_,rfl,?_⟩;have n0_:=Aside0.mk (yP (by repeat (first|(with_reducible first|exact HB.out|apply yA|apply yB|apply yC)|exact HB.out)) hb);clear HB;have HB:=n0_;clear n0_;(try clear hb);(try clear hb2);(try clear hk);(try clear hi))|((with_reducible refine gate_callee (f:=11) rfl ?_);refine goesL_ (some 42) rfl rfl Try.func11 (by kernel_rfl) rfl #[.string ((⟨#[42]⟩:ByteArray)++t251),.int .i64 t254] rfl (by (try simp only [List.map_toArray,List.map_cons,List.map_nil]);first|done|rfl|(simp only [List.length_drop,List.length_take];rfl)) ?_;(with_reducible refine (impl_TermHas.calls ((⟨#[42]⟩:ByteArray)++t251) t254 t257 _ A16.out).mono ?_);rintro e w84 ⟨rfl,hb⟩;refine ⟨_,rfl,?_⟩;have n0_:=Aside0.mk (yP (by repeat (first|(with_reducible first|exact HB.out|apply yA|apply yB|apply yC)|exact HB.out)) hb);clear HB;have HB:=n0_;clear n0_;(try clear hb);(try clear hb2);(try clear hk);(try clear hi))|(go_at_call 11;(with_reducible refine (impl_TermHas.calls t251 t252 false _ A72.out).mono ?_);rintro e w85 ⟨rfl,hb⟩;have n0_:=Aside0.mk (yP (by repeat (first|(with_reducible first|exact HB.out|apply yA|apply yB|apply yC)|exact HB.out)) hb);clear HB;have HB:=n0_;clear n0_;(try clear hb);(try clear hb2);(try clear hk);(try clear hi)))
        go_ret
        exact ⟨by first|rfl|(simp [errW_none,errW_some]<;>rfl)|(simp [*,errW_none,errW_some]<;>rfl)|(simp [errW_none,errW_some];exact ⟨rfl,rfl⟩),by repeat (first|(with_reducible first|exact HB.out|apply yA|apply yB|apply yC)|exact HB.out)⟩
    ·rw [if_neg c8] at H
     exact absurd H (by simp)

/-- THE ONE PURE STATEMENT of laws_FnTermStar: yours. -/
noncomputable def laws_FnTermStar.Pure:Prop:=∀ (l0:List Int) (l1:List Int),l0.length≤maxLen→l0.length * 1≤140737488351232→(∀ x ∈ l0,(Lit.int .u8 x).wf=true)→l1.length≤maxLen→l1.length * 1≤140737488351232→(∀ x ∈ l1,(Lit.int .u8 x).wf=true)→∃ k,laws_FnTermStar.f k l0 l1=some true
theorem laws_FnTermStar.walk (P:laws_FnTermStar.Pure) (a0:Option Addr) (len0 cap0:Nat) (z0:List Int) (a1:Option Addr) (len1 cap1:Nat) (z1:List Int) (w:World) (w0:(a0=none∧len0=0∧cap0=0∧z0=[]) ∨ ∃ x,a0=some x∧len0≤cap0∧cap0≤maxLen∧z0.length=cap0∧(∀ i,i<z0.length→w.cell? (x.add i)=some (.int .u8 (z0.getD i 0)))∧∀ n ∈ z0,(Lit.int .u8 n).wf=true) (y0:len0 * 1≤140737488351232) (w1:(a1=none∧len1=0∧cap1=0∧z1=[]) ∨ ∃ x,a1=some x∧len1≤cap1∧cap1≤maxLen∧z1.length=cap1∧(∀ i,i<z1.length→w.cell? (x.add i)=some (.int .u8 (z1.getD i 0)))∧∀ n ∈ z1,(Lit.int .u8 n).wf=true) (y1:len1 * 1≤140737488351232) :
  Calls Try.prog 4 #[.slice a0 len0 cap0,.slice a1 len1 cap1] w fun e w'=>e=.returned (.bool true)∧Below w.heap.size w w':=by
 obtain ⟨l0,rfl,hr0,hm0,hw0,hc0⟩:=ReadsInt.ofRowC w0
 obtain ⟨l1,rfl,hr1,hm1,hw1,hc1⟩:=ReadsInt.ofRowC w1
 obtain ⟨k,h⟩:=P l0 l1 hm0 y0 hw0 hm1 y1 hw1
 refine (laws_FnTermStar.calls k _ _ l0 _ _ l1 true w (Kd.C_of_reads (d:=(0:Int)) (h1:=fun _=>rfl) hr0) hc0 (Kd.C_of_reads (d:=(0:Int)) (h1:=fun _=>rfl) hr1) hc1 h).mono ?_
 rintro e w' ⟨rfl,hd⟩
 exact ⟨rfl,hd⟩

end Go.Proofs.Ytjjnckgdpdelkaa.P

-- spec.DrawTermHas draws a text of few signs.
namespace Go.Proofs.Ytjjnckgdpdelkaa.P
open Go.RowKit Go.Proofs.YtjjnckgdpdelkaaW.PrintWords Go.Proofs.YtjjnckgdpdelkaaW.PrintLast Go.Proofs.YtjjnckgdpdelkaaW.PrintMore
set_option linter.unusedVariables false
set_option linter.unusedSimpArgs false

theorem drawTermHas_f (l : List Int) (h : ∀ x ∈ l, (Lit.int .u8 x).wf = true) : ∃ (s : ByteArray) (n : Int), s.size ≤ 30 ∧ Ev (fun k => spec_DrawTermHas.f k l) (s, n) := by
  obtain ⟨s, q, hf, hq, K0, h0⟩ := said91_f (code_of h)
  dsimp only at h0
  obtain ⟨v1, hv1, K1, h1⟩ := pick_f (code_of h) q 30 (by omega) (by omega) (by omega)
  dsimp only at h1
  have g1 : ∀ k, K1 ≤ k → spec_l6Rd_pick.f k (l.take 2000) (q : Int) 30 = some ((v1 : Int), ((q + 1 : Nat) : Int)) := h1
  obtain ⟨v2, hv2, K2, h2⟩ := pick_f (code_of h) (q + 1) 201 (by omega) (by omega) (by omega)
  dsimp only at h2
  have g2 : ∀ k, K2 ≤ k → spec_l6Rd_pick.f k (l.take 2000) ((q + 1 : Nat) : Int) 201 = some ((v2 : Int), ((q + 1 + 1 : Nat) : Int)) := h2
  obtain ⟨v3, hv3, K3, h3⟩ := pick_f (code_of h) (q + 1 + 1) 5 (by omega) (by omega) (by omega)
  dsimp only at h3
  have g3 : ∀ k, K3 ≤ k → spec_l6Rd_pick.f k (l.take 2000) ((q + 1 + 1 : Nat) : Int) 5 = some ((v3 : Int), ((q + 1 + 1 + 1 : Nat) : Int)) := h3
  refine ⟨s, rd [(v1 : Int), (v2 : Int), 200, 201, (-1)] (v3 : Int), hf, K0 + K1 + K2 + K3, fun k hk => ?_⟩
  try dsimp only
  unfold spec_DrawTermHas.f
  rw [open_f, Option.bind_some, h0 k (by omega), Option.bind_some, g1 k (by omega), Option.bind_some, g2 k (by omega), Option.bind_some, Option.bind_some, g3 k (by omega), Option.bind_some, if_pos (by omega), if_pos (by simp; omega)]
end Go.Proofs.Ytjjnckgdpdelkaa.P

-- For all codes the law FnTermStar holds.
namespace Go.Proofs.Ytjjnckgdpdelkaa.P
open Go.RowKit Go.Proofs.YtjjnckgdpdelkaaW.PrintWords Go.Proofs.YtjjnckgdpdelkaaW.PrintLast Go.Proofs.YtjjnckgdpdelkaaW.PrintMore
set_option linter.unusedVariables false
set_option linter.unusedSimpArgs false

theorem stq_add {f : Nat → Bool} {n m : Nat} (h : stq f n = true) (h2 : stq f m = true) : stq f (n + m) = true := stq_iff.2 ((stq_iff.1 h).add (stq_iff.1 h2))
theorem stq_one {f : Nat → Bool} {n : Nat} (h : f n = true) : stq f n = true := by
  cases n with
  | zero => exact stq_iff.2 (St.zero f)
  | succ n => exact stq_iff.2 (St.of (by omega) h)
theorem tsem_star (t : Tm) : tsem (.one 42 t) = stq (tsem t) := by
  show (if (42 : UInt8) = 42 then stq (tsem t) else mulq (tsem t) ((42 : UInt8).toNat - 48)) = _
  exact if_pos rfl
theorem trm_star {s : List UInt8} (h : s.length ≤ 59) : trm (42 :: s) = (trm s).map (Tm.one 42) := by
  unfold trm
  rw [if_pos (by simp; omega), if_pos (by omega)]
  show trmO (prs (s.length + 1 + 1) (42 :: s)) = _
  have e : prs (s.length + 1 + 1) (42 :: s) = match prs (s.length + 1) s with | none => none | some (t, r) => some (.one 42 t, r) := rfl
  rw [e]
  cases hp : prs (s.length + 1) s with
  | none => rfl
  | some x =>
    obtain ⟨t, r⟩ := x
    cases r with
    | nil => rfl
    | cons c r => rfl
theorem chrs_star (s : ByteArray) : chrs ((⟨#[42]⟩ : ByteArray) ++ s) = 42 :: chrs s := by
  unfold chrs
  simp
theorem trh_range {s : List UInt8} {n : Int} (h : trh s n = true) : 0 ≤ n ∧ n ≤ 200 := by
  unfold trh at h
  split at h
  · cases h
  · simp only [Bool.and_eq_true, decide_eq_true_eq] at h; exact h.1
theorem trh_star {s : List UInt8} (hs : s.length ≤ 59) {n m : Int} (h : trh (42 :: s) n = true) (h2 : trh (42 :: s) m = true) (hl : n + m ≤ 200) : trh (42 :: s) (n + m) = true := by
  have r1 := trh_range h
  have r2 := trh_range h2
  unfold trh at h h2 ⊢
  rw [trm_star hs] at h h2 ⊢
  cases hT : trm s with
  | none => rw [hT] at h; cases h
  | some t =>
    rw [hT] at h h2
    simp only [Option.map_some, Bool.and_eq_true, decide_eq_true_eq] at h h2 ⊢
    refine ⟨by omega, ?_⟩
    rw [show (n + m).toNat = n.toNat + m.toNat by omega]
    rw [tsem_star] at h h2 ⊢
    exact stq_add h.2 h2.2
theorem trh_one {s : List UInt8} (hs : s.length ≤ 59) {n : Int} (h : trh s n = true) : trh (42 :: s) n = true := by
  unfold trh at h ⊢
  rw [trm_star hs]
  cases hT : trm s with
  | none => rw [hT] at h; cases h
  | some t =>
    rw [hT] at h
    simp only [Option.map_some, Bool.and_eq_true, decide_eq_true_eq] at h ⊢
    rw [tsem_star]
    exact ⟨h.1, stq_one h.2⟩
theorem lawTermStar_j0 (l l2 : List Int) (h : ∀ x ∈ l, (Lit.int .u8 x).wf = true) (h2 : ∀ x ∈ l2, (Lit.int .u8 x).wf = true) (b : Bool) : Ev (fun k => laws_FnTermStar.j0 k l l2 b) true := by
  cases b with
  | true =>
    refine ⟨1, fun k hk => ?_⟩
    obtain ⟨k, rfl⟩ : ∃ j, k = j + 1 := ⟨k - 1, by omega⟩
    simp only [laws_FnTermStar.j0]
    rw [if_pos (by trivial)]
  | false =>
    obtain ⟨s, n, hz, K1, h1⟩ := drawTermHas_f l h
    dsimp only at h1
    obtain ⟨s2, m, hz2, K2, h2⟩ := drawTermHas_f l2 h2
    dsimp only at h2
    obtain ⟨K3, h3⟩ := stermHas_f ((⟨#[42]⟩ : ByteArray) ++ s) n
    dsimp only at h3
    have hsz : ((⟨#[42]⟩ : ByteArray) ++ s).size = 1 + s.size := by rw [ByteArray.size_append]; rfl
    have i1 := fun x => termHas_f ((⟨#[42]⟩ : ByteArray) ++ s) x (by omega)
    have i2 := fun x => termHas_f s x (by omega)
    rw [chrs_star] at h3
    simp only [chrs_star] at i1
    have hlen : (chrs s).length ≤ 59 := by rw [chrs_length]; omega
    refine ⟨K1 + K2 + K3 + 1, fun k hk => ?_⟩
    obtain ⟨k, rfl⟩ : ∃ j, k = j + 1 := ⟨k - 1, by omega⟩
    simp only [laws_FnTermStar.j0]
    rw [if_neg (by decide), h1 k (by omega), Option.bind_some, h2 k (by omega), Option.bind_some]
    dsimp only
    rw [if_pos (by omega), i1, Option.bind_some, h3 k (by omega), Option.bind_some, if_neg (by simp), i1, Option.bind_some, i2, Option.bind_some, Option.bind_some]
    cases c1 : trh (42 :: chrs s) n with
    | false =>
      rw [if_neg (by decide)]
      cases c2 : trh (chrs s) n with
      | true => rw [trh_one hlen c2] at c1; cases c1
      | false => rw [if_neg (by decide)]
    | true =>
      rw [if_pos (by trivial)]
      have r1 := trh_range c1
      cases c2 : trh (42 :: chrs s) m with
      | false =>
        rw [if_neg (by decide)]
        split <;> rfl
      | true =>
        have r2 := trh_range c2
        rw [if_pos (by trivial), w64 (by omega) (by omega)]
        by_cases c3 : n + m > 200
        · rw [if_pos c3]
          split <;> rfl
        · rw [if_neg c3, i1, Option.bind_some, trh_star hlen c1 c2 (by omega), if_pos (by trivial)]
          split <;> rfl
theorem lawTermStar_ev (l l2 : List Int) (h : ∀ x ∈ l, (Lit.int .u8 x).wf = true) (h2 : ∀ x ∈ l2, (Lit.int .u8 x).wf = true) : Ev (fun k => laws_FnTermStar.f k l l2) true := by
  by_cases hl : (l.length : Int) > 1048576
  · exact Ev.congr (fun k => by unfold laws_FnTermStar.f; rw [if_pos hl]) (lawTermStar_j0 l l2 h h2 _)
  · exact Ev.congr (fun k => by unfold laws_FnTermStar.f; rw [if_neg hl]) (lawTermStar_j0 l l2 h h2 _)
theorem lawTermStar_pure : laws_FnTermStar.Pure := fun l l2 _ _ h _ _ h2 => (lawTermStar_ev l l2 h h2).rounds
end Go.Proofs.Ytjjnckgdpdelkaa.P

-- For every code the law FnTermStar holds.
namespace Go.Proofs.Ytjjnckgdpdelkaa.Pure
theorem FnTermStar : Go.Proofs.Ytjjnckgdpdelkaa.P.laws_FnTermStar.Pure := Go.Proofs.Ytjjnckgdpdelkaa.P.lawTermStar_pure
end Go.Proofs.Ytjjnckgdpdelkaa.Pure
