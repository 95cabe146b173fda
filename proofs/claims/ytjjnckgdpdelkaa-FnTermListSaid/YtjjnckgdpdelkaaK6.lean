/- What these laws reach, joined by a program of this session: contracts (written by that program over the kit's print, or by hand) and plain lemmas. -/
import Derived.Test.YtjjnckgdpdelkaaK1
import Derived.Test.YtjjnckgdpdelkaaK2
import Derived.Test.YtjjnckgdpdelkaaK3
import Derived.Test.YtjjnckgdpdelkaaK4
open Go.Proofs.YtjjnckgdpdelkaaW.PrintWords renaming below_alloc → yA, pw_below_drewN → yB, below_drew1 → yC, below_set → yD, blk_drewN → yE, blk_drew → yF, blk_alloc → yG, below_step → yP, below_size → yQ
open Go.Proofs.YtjjnckgdpdelkaaW.PrintWords.Kd renaming R_alloc → yH, R_drewN → yI, R_drew → yJ
open List renaming setIfInBounds_toArray → yK, set_cons_zero → yL, set_cons_succ → yM
namespace Go.Proofs.Ytjjnckgdpdelkaa.P
open Go.RowKit Go.Proofs.YtjjnckgdpdelkaaW.PrintWords Go.Proofs.YtjjnckgdpdelkaaW.PrintLast Go.Proofs.YtjjnckgdpdelkaaW.PrintMore
attribute [local go_sem] max2_int min2_int max_two min_two max_three min_three max_four min_four   -- for this text's walks alone
set_option linter.unusedVariables false
set_option linter.unusedSimpArgs false

/-! ### laws_sameInts: function 20 -/
def laws_sameInts.l0:Nat→List Int→List Int→Int→Option (Bool)
 | 0,_,_,_=>none
 | k+1,x0,x1,x5=>if x5<(x0.length:Int) then (if 0≤x5 then (if x5<(x1.length:Int) then (if (rd x0 x5)=(rd x1 x5) then (laws_sameInts.l0 k x0 x1 (wrap64 (x5+1))) else (some false)) else (none)) else (none)) else (some true)
def laws_sameInts.f (k:Nat) (l0:List Int) (l1:List Int):Option (Bool):=if (l0.length:Int)=(l1.length:Int) then (laws_sameInts.l0 k l0 l1 0) else (some false)
theorem laws_sameInts.mono_l:∀ k,(∀ y0 y1 y2,LeO (laws_sameInts.l0 k y0 y1 y2) (laws_sameInts.l0 (k+1) y0 y1 y2))
 | 0=>fun _ _ _ r h=>by simp [laws_sameInts.l0] at h
 | k+1=>by
  have ih0:=laws_sameInts.mono_l k
  ·intro y0 y1 y2
   unfold laws_sameInts.l0
   repeat' first
   | (with_reducible exact ih0 _ _ _)
   | (with_reducible exact LeO.refl _)
   | (with_reducible exact LeO.none _)
   | (with_reducible refine LeO.ite ?_ ?_)
   | (with_reducible refine LeO.bind ?_ (fun _=>?_))
   | exact ih0 _ _ _
   | exact LeO.none _
   | refine LeO.ite ?_ ?_
   | refine LeO.bind ?_ (fun _=>?_)
theorem laws_sameInts.mono:∀ a0 a1 k,LeO (laws_sameInts.f k a0 a1) (laws_sameInts.f (k+1) a0 a1):=by
 intro a0 a1 k
 have ih0:=laws_sameInts.mono_l k
 unfold laws_sameInts.f
 repeat' first
   | (with_reducible exact ih0 _ _ _)
   | (with_reducible exact LeO.refl _)
   | (with_reducible exact LeO.none _)
   | (with_reducible refine LeO.ite ?_ ?_)
   | (with_reducible refine LeO.bind ?_ (fun _=>?_))
   | exact ih0 _ _ _
   | exact LeO.none _
   | refine LeO.ite ?_ ?_
   | refine LeO.bind ?_ (fun _=>?_)
set_option maxHeartbeats 8000000 in
set_option maxRecDepth 100000 in
theorem laws_sameInts.calls (k:Nat) (A0:Option Addr) (c0:Nat) (l0:List Int) (A1:Option Addr) (c1:Nat) (l1:List Int) (r:Bool) (w:World) (hr0:Kd.C (Kd.int .i64) w A0 l0.length l0) (hc0:l0.length≤c0) (hr1:Kd.C (Kd.int .i64) w A1 l1.length l1) (hc1:l1.length≤c1) (h:laws_sameInts.f k l0 l1=some r) :
  Calls Try.prog 20 #[.slice A0 l0.length c0,.slice A1 l1.length c1] w fun e w'=>e=.returned (.bool r)∧Drawn0 w w':=by
 have HR0:=Aside0.mk hr0
 have HC0:=Aside0.mk hc0
 clear hr0 hc0
 have HR1:=Aside0.mk hr1
 have HC1:=Aside0.mk hc1
 clear hr1 hc1
 have H:(if (l0.length:Int)=(l1.length:Int) then (laws_sameInts.l0 k l0 l1 0) else (some false))=some r:=h
 clear h
 by_cases c3:(l0.length:Int)=(l1.length:Int)
 ·rw [if_pos c3] at H
  have c3b0:((l0.length:Int) == (l1.length:Int))=true:=beq_iff_eq.mpr c3
  have c3b1:((l0.length:Int) != (l1.length:Int))=false:=bne_eq_false_iff_eq.mpr c3
  have c3b2:(l0.length == l1.length)=true:=by first|simpa using c3|(simp at c3 ⊢;omega)
  clear c3
  have H':=Aside0.mk H
  clear H
  go_enter Try.func20,Try.ntmps20
  go_wp2
  repeat (go_quiet (fail);try go_wp2)
  go_loopg [5] k (fun kq v5 w'=>∃ (x5_1:Int),v5=.int .i64 x5_1∧Aside0 (laws_sameInts.l0 kq l0 l1 x5_1=some r)∧Aside0 (kq≤k)∧Drawn0 w w')
  case atStart=>exact ⟨(0),(by first|rfl|(simp;done)|(simp [*];done)|(simp [Int.tmod_eq_emod_of_nonneg];done)),H',⟨Nat.le_refl _⟩,by repeat (first|exact Drawn0.refl _|apply Drawn0.step)⟩
  case round =>
   clear H'
   try clear c1
   try clear c2
   try clear p2
   try clear c3
   try clear c3b0
   try clear c3b1
   try clear c3b2
   obtain ⟨x5_1,rfl,HA,HK1,⟨m1,rfl⟩⟩:=hrel
   cases gk with
   | zero=>exact absurd HA.out (by simp [laws_sameInts.l0])
   | succ k1 =>
    have H:=HA.out
    clear HA
    simp only [laws_sameInts.l0] at H
    by_cases c4:x5_1<(l0.length:Int)
    ·rw [if_pos c4] at H
     have c4b0:decide (x5_1<(l0.length:Int))=true:=decide_eq_true c4
     clear c4
     by_cases c5:0≤x5_1
     ·rw [if_pos c5] at H
      have c5b0:decide (0≤x5_1)=true:=decide_eq_true c5
      clear c5
      by_cases c6:x5_1<(l1.length:Int)
      ·rw [if_pos c6] at H
       have c6b0:decide (x5_1<(l1.length:Int))=true:=decide_eq_true c6
       clear c6
       by_cases c7:(rd l0 x5_1)=(rd l1 x5_1)
       ·rw [if_pos c7] at H
        have c7b0:((rd l0 x5_1) == (rd l1 x5_1))=true:=beq_iff_eq.mpr c7
        have c7b1:((rd l0 x5_1) != (rd l1 x5_1))=false:=bne_eq_false_iff_eq.mpr c7
        clear c7
        have H':=Aside0.mk H
        clear H
        have p317:0≤(x5_1:Int):=of_decide_eq_true (by first|(with_reducible assumption)|assumption)
        have q317:x5_1<(l0.length:Int):=of_decide_eq_true (by first|(with_reducible assumption)|assumption)
        obtain ⟨ad317,e317,hx317_0⟩:=Kd.at_int HR0.out x5_1 p317 q317
        cases e317
        replace p317:=eq_true p317
        replace q317:=eq_true q317
        have p318:0≤(x5_1:Int):=of_decide_eq_true (by first|(with_reducible assumption)|assumption)
        have q318:x5_1<(l1.length:Int):=of_decide_eq_true (by first|(with_reducible assumption)|assumption)
        obtain ⟨ad318,e318,hx318_0⟩:=Kd.at_int HR1.out x5_1 p318 q318
        cases e318
        replace p318:=eq_true p318
        replace q318:=eq_true q318
        go_wp2
        repeat (go_quiet (fail);try go_wp2)
        go_roundg k1
        case measure=>have:=HK1.out;omega
        case rel=>exact ⟨(wrap64 (x5_1+1)),(by first|rfl|(simp;done)|(simp [*];done)|(simp [Int.tmod_eq_emod_of_nonneg];done)),H',⟨by have:=HK1.out;omega⟩,by repeat (first|exact Drawn0.refl _|apply Drawn0.step)⟩
       ·rw [if_neg c7] at H
        have c7b0:((rd l0 x5_1) == (rd l1 x5_1))=false:=beq_eq_false_iff_ne.mpr c7
        have c7b1:((rd l0 x5_1) != (rd l1 x5_1))=true:=bne_iff_ne.mpr c7
        obtain rfl:=Option.some.inj H
        have p317:0≤(x5_1:Int):=of_decide_eq_true (by first|(with_reducible assumption)|assumption)
        have q317:x5_1<(l0.length:Int):=of_decide_eq_true (by first|(with_reducible assumption)|assumption)
        obtain ⟨ad317,e317,hx317_0⟩:=Kd.at_int HR0.out x5_1 p317 q317
        cases e317
        replace p317:=eq_true p317
        replace q317:=eq_true q317
        have p318:0≤(x5_1:Int):=of_decide_eq_true (by first|(with_reducible assumption)|assumption)
        have q318:x5_1<(l1.length:Int):=of_decide_eq_true (by first|(with_reducible assumption)|assumption)
        obtain ⟨ad318,e318,hx318_0⟩:=Kd.at_int HR1.out x5_1 p318 q318
        cases e318
        replace p318:=eq_true p318
        replace q318:=eq_true q318
        go_wp2
        repeat (go_quiet (fail);try go_wp2)
        go_ret
        exact ⟨by first|rfl|(simp;done)|(simp [*];done),by repeat (first|exact Drawn0.refl _|apply Drawn0.step)⟩
      ·rw [if_neg c6] at H
       exact absurd H (by simp)
     ·rw [if_neg c5] at H
      exact absurd H (by simp)
    ·rw [if_neg c4] at H
     have c4b0:decide (x5_1<(l0.length:Int))=false:=decide_eq_false c4
     clear c4
     obtain rfl:=Option.some.inj H
     go_wp2
     repeat (go_quiet (fail);try go_wp2)
     go_ret
     exact ⟨by first|rfl|(simp;done)|(simp [*];done),by repeat (first|exact Drawn0.refl _|apply Drawn0.step)⟩
 ·rw [if_neg c3] at H
  have c3b0:((l0.length:Int) == (l1.length:Int))=false:=beq_eq_false_iff_ne.mpr c3
  have c3b1:((l0.length:Int) != (l1.length:Int))=true:=bne_iff_ne.mpr c3
  have c3b2:(l0.length == l1.length)=false:=by first|simpa using c3|(simp at c3 ⊢;omega)
  obtain rfl:=Option.some.inj H
  go_enter Try.func20,Try.ntmps20
  go_wp2
  repeat (go_quiet (fail);try go_wp2)
  go_ret
  exact ⟨by first|rfl|(simp;done)|(simp [*];done),by repeat (first|exact Drawn0.refl _|apply Drawn0.step)⟩

end Go.Proofs.Ytjjnckgdpdelkaa.P

namespace Go.Proofs.Ytjjnckgdpdelkaa.P
open Go.RowKit Go.Proofs.YtjjnckgdpdelkaaW.PrintWords Go.Proofs.YtjjnckgdpdelkaaW.PrintLast Go.Proofs.YtjjnckgdpdelkaaW.PrintMore
attribute [local go_sem] max2_int min2_int max_two min_two max_three min_three max_four min_four   -- for this text's walks alone
set_option linter.unusedVariables false
set_option linter.unusedSimpArgs false

/-! ### spec_DrawTermList: function 19 -/
def spec_DrawTermList.f (k:Nat) (l0:List Int):Option (ByteArray × Int):=(spec_l6Open.f l0).bind fun bt302=>((spec_l91Said.f k bt302.1 bt302.2).bind fun bt305=>((spec_l6Rd_pick.f k bt302.1 bt305.2 30).bind fun bt307=>((spec_l6Rd_pick.f k bt302.1 bt307.2 201).bind fun bt309=>((some (([bt307.1,bt309.1,200,201,(-1)]:List Int):List Int)).bind fun y311=>((spec_l6Rd_pick.f k bt302.1 bt309.2 5).bind fun bt314=>(if 0≤bt314.1 then (if bt314.1<(y311.length:Int) then (some (bt305.1,rd y311 bt314.1)) else (none)) else (none)))))))
theorem spec_DrawTermList.mono:∀ a0 k,LeO (spec_DrawTermList.f k a0) (spec_DrawTermList.f (k+1) a0):=by
 intro a0 k
 unfold spec_DrawTermList.f
 repeat' first
   | (with_reducible exact spec_l6Rd_pick.mono _ _ _ _)
   | (with_reducible exact spec_l91Said.mono _ _ _)
   | (with_reducible exact LeO.refl _)
   | (with_reducible exact LeO.none _)
   | (with_reducible refine LeO.ite ?_ ?_)
   | (with_reducible refine LeO.bind ?_ (fun _=>?_))
   | exact spec_l6Rd_pick.mono _ _ _ _
   | exact spec_l91Said.mono _ _ _
   | exact LeO.none _
   | refine LeO.ite ?_ ?_
   | refine LeO.bind ?_ (fun _=>?_)
def spec_DrawTermList.T2:Bool × List (List Nat × List Nat):=(true,[([],[]),([0],[0]),([],[]),([2,1],[2]),([],[]),([4,3],[4]),([3,5],[3,5]),([],[]),([7,5],[7]),([6,8],[6,8]),([9],[9]),([1,8,0,1],[1]),([10,11,0,1,2,3,4,5,6,7,8,9,10,11],[10])])
def spec_DrawTermList.B2:List Nat:=[0,1,0,7,0,31,63,0,191,511,1023,447,4095]
theorem spec_DrawTermList.tab2:rtab .any (opsOf Try.f19 2)=spec_DrawTermList.T2:=by kernel_rfl
theorem spec_DrawTermList.bits2:waitsOk spec_DrawTermList.T2.2 spec_DrawTermList.B2=true:=by kernel_rfl
set_option maxHeartbeats 8000000 in
set_option maxRecDepth 100000 in
theorem spec_DrawTermList.calls (k:Nat) (A0:Option Addr) (c0:Nat) (l0:List Int) (r1:ByteArray) (r2:Int) (w:World) (hr0:Kd.C (Kd.int .u8) w A0 l0.length l0) (hc0:l0.length≤c0) (h:spec_DrawTermList.f k l0=some (r1,r2)) :
  Calls Try.prog 19 #[.slice A0 l0.length c0] w fun e w'=>e=.returned (.tuple #[.string r1,.int .i64 r2])∧Below w.heap.size w w':=by
 have HR0:=Aside0.mk hr0
 have HC0:=Aside0.mk hc0
 clear hr0 hc0
 have HB:=Aside0.mk (Below.refl w.heap.size w)
 have H:((spec_l6Open.f l0).bind fun bt302=>((spec_l91Said.f k bt302.1 bt302.2).bind fun bt305=>((spec_l6Rd_pick.f k bt302.1 bt305.2 30).bind fun bt307=>((spec_l6Rd_pick.f k bt302.1 bt307.2 201).bind fun bt309=>((some (([bt307.1,bt309.1,200,201,(-1)]:List Int):List Int)).bind fun y311=>((spec_l6Rd_pick.f k bt302.1 bt309.2 5).bind fun bt314=>(if 0≤bt314.1 then (if bt314.1<(y311.length:Int) then (some (bt305.1,rd y311 bt314.1)) else (none)) else (none))))))))=some (r1,r2):=h
 clear h
 replace H:=Option.bind_eq_some_iff.mp H
 obtain ⟨⟨t302,t303⟩,A20,H⟩:=H
 replace H:((spec_l91Said.f k t302 t303).bind fun bt305=>((spec_l6Rd_pick.f k t302 bt305.2 30).bind fun bt307=>((spec_l6Rd_pick.f k t302 bt307.2 201).bind fun bt309=>((some (([bt307.1,bt309.1,200,201,(-1)]:List Int):List Int)).bind fun y311=>((spec_l6Rd_pick.f k t302 bt309.2 5).bind fun bt314=>(if 0≤bt314.1 then (if bt314.1<(y311.length:Int) then (some (bt305.1,rd y311 bt314.1)) else (none)) else (none)))))))=some (r1,r2):=H
 have A2:=Aside0.mk A20
 clear A20
 replace H:=Option.bind_eq_some_iff.mp H
 obtain ⟨⟨t305,t306⟩,A30,H⟩:=H
 replace H:((spec_l6Rd_pick.f k t302 t306 30).bind fun bt307=>((spec_l6Rd_pick.f k t302 bt307.2 201).bind fun bt309=>((some (([bt307.1,bt309.1,200,201,(-1)]:List Int):List Int)).bind fun y311=>((spec_l6Rd_pick.f k t302 bt309.2 5).bind fun bt314=>(if 0≤bt314.1 then (if bt314.1<(y311.length:Int) then (some (t305,rd y311 bt314.1)) else (none)) else (none))))))=some (r1,r2):=H
 have A3:=Aside0.mk A30
 clear A30
 replace H:=Option.bind_eq_some_iff.mp H
 obtain ⟨⟨t307,t308⟩,A40,H⟩:=H
 replace H:((spec_l6Rd_pick.f k t302 t308 201).bind fun bt309=>((some (([t307,bt309.1,200,201,(-1)]:List Int):List Int)).bind fun y311=>((spec_l6Rd_pick.f k t302 bt309.2 5).bind fun bt314=>(if 0≤bt314.1 then (if bt314.1<(y311.length:Int) then (some (t305,rd y311 bt314.1)) else (none)) else (none)))))=some (r1,r2):=H
 have A4:=Aside0.mk A40
 clear A40
 replace H:=Option.bind_eq_some_iff.mp H
 obtain ⟨⟨t309,t310⟩,A50,H⟩:=H
 replace H:((some (([t307,t309,200,201,(-1)]:List Int):List Int)).bind fun y311=>((spec_l6Rd_pick.f k t302 t310 5).bind fun bt314=>(if 0≤bt314.1 then (if bt314.1<(y311.length:Int) then (some (t305,rd y311 bt314.1)) else (none)) else (none))))=some (r1,r2):=H
 have A5:=Aside0.mk A50
 clear A50
 obtain ⟨y311,hy311⟩:∃ y_:List Int,y_=(([t307,t309,200,201,(-1)]:List Int)):=⟨_,rfl⟩
 replace H:((spec_l6Rd_pick.f k t302 t310 5).bind fun bt314=>(if 0≤bt314.1 then (if bt314.1<(y311.length:Int) then (some (t305,rd y311 bt314.1)) else (none)) else (none)))=some (r1,r2):=by first|(rw [hy311];with_reducible exact H)|(have H2_:=(Option.bind_some _ _).symm.trans H;rw [hy311];with_reducible exact H2_)|(have H2_:=(Option.bind_some _ _).symm.trans H;with_reducible exact H2_)|with_reducible exact H|(rw [hy311];exact H)|exact H
 have Ny311:=Aside0.mk hy311
 clear hy311
 replace H:=Option.bind_eq_some_iff.mp H
 obtain ⟨⟨t314,t315⟩,A60,H⟩:=H
 replace H:(if 0≤t314 then (if t314<(y311.length:Int) then (some (t305,rd y311 t314)) else (none)) else (none))=some (r1,r2):=H
 have A6:=Aside0.mk A60
 clear A60
 by_cases c7:0≤t314
 ·rw [if_pos c7] at H
  have c7b0:decide (0≤t314)=true:=decide_eq_true c7
  clear c7
  by_cases c8:t314<(y311.length:Int)
  ·rw [if_pos c8] at H
   have c8b0:decide (t314<(y311.length:Int))=true:=decide_eq_true c8
   clear c8
   simp only [Option.some.injEq,Prod.mk.injEq] at H
   obtain ⟨rfl,rfl⟩:=H
   go_enter Try.func19,Try.ntmps19
   try go_wp2_with (first|((with_reducible refine gate_callee (f:=25) rfl ?_);refine goesL_ (some 6) rfl rfl Try.func25 (by kernel_rfl) rfl #[.slice A0 l0.length c0] rfl (by (try simp only [List.map_toArray,List.map_cons,List.map_nil]);first|done|rfl|(simp only [List.length_drop,List.length_take];rfl)) ?_;(with_reducible refine (spec_l6Open.calls _ _ l0 t302 t303 w _ ?side1 ?side2 ?side3 A2.out).mono ?_);(case side1=>repeat (first|(with_reducible first|exact HB.out|apply yA|apply yB|apply yC)|exact HB.out));(case side2=>exact HR0.out);(case side3=>exact HC0.out);rintro e w9 ⟨g304,rfl,hi,hb,hb2⟩;refine ⟨_,rfl,?_⟩;have n0_:=Aside0.mk (hb);have n1_:=Aside0.mk (hi);clear HB;have HB:=n0_;have HI304:=n1_;clear n0_ n1_;(try clear hb);(try clear hb2);(try clear hk);(try clear hi)))
   have pi316:(0≤(t314:Int))=True:=eq_true (of_decide_eq_true (by first|(with_reducible assumption)|assumption))
   have qi316:(t314<(y311.length:Int))=True:=eq_true (of_decide_eq_true (by first|(with_reducible assumption)|assumption))
   have n0_:=Aside0.mk (IsS60.drew HI304.out)
   have n1_:=Aside0.mk (yC HB.out)
   clear HI304
   clear HB
   have HI304:=n0_
   have HB:=n1_
   clear n0_ n1_
   refine start_ (n:=13) (S:=fun w'=>True) (ds:=[]) #[false,false,false,false,false,false,false,false,false,false,false,false,false] (by kernel_rfl) rfl rfl trivial (fun hHeld=>?_);refine with_tabW spec_DrawTermList.tab2 spec_DrawTermList.bits2 (fun HT_ HW_=>?_)
   generalize w9.drew=w10 at HI304 HB hHeld ⊢
   refine pure_ (i:=0) (N:=some 7) (v:=?_) (a':=?_) #[true,false,false,false,false,false,false,false,false,false,false,false,false] rfl rfl (any_of HT_.out (by kernel_rfl)) (fun _ _ _ h=>h) (Or.inl ⟨by rfl,?_⟩) ?_ ?_
   rotate_left
   ·intro w'
    go_simp
    with_reducible rfl
   rotate_left
   ·simp only [Act.put,yK,yL,yM,i64_w,i32_w]
    rfl
   refine pure_ (i:=2) (N:=some 9) (v:=?_) (a':=?_) #[true,false,true,false,false,false,false,false,false,false,false,false,false] rfl rfl (any_of HT_.out (by kernel_rfl)) (fun _ _ _ h=>h) (Or.inl ⟨by rfl,?_⟩) ?_ ?_
   rotate_left
   ·intro w'
    go_simp
    with_reducible rfl
   rotate_left
   ·simp only [Act.put,yK,yL,yM,i64_w,i32_w]
    rfl
   refine pure_ (i:=4) (N:=some 11) (v:=?_) (a':=?_) #[true,false,true,false,true,false,false,false,false,false,false,false,false] rfl rfl (any_of HT_.out (by kernel_rfl)) (fun _ _ _ h=>h) (Or.inl ⟨by rfl,?_⟩) ?_ ?_
   rotate_left
   ·intro w'
    go_simp
    with_reducible rfl
   rotate_left
   ·simp only [Act.put,yK,yL,yM,i64_w,i32_w]
    rfl
   refine pure_ (i:=7) (N:=some 14) (v:=?_) (a':=?_) #[true,false,true,false,true,false,false,true,false,false,false,false,false] rfl rfl (any_of HT_.out (by kernel_rfl)) (fun _ _ _ h=>h) (Or.inl ⟨by rfl,?_⟩) ?_ ?_
   rotate_left
   ·intro w'
    go_simp
    with_reducible rfl
   rotate_left
   ·simp only [Act.put,yK,yL,yM,i64_w,i32_w]
    rfl
   refine inv_at [1,3,5,6,8,9,10,11,12] (fun a0_ b a w'=>∃ (v312:Value) (adz_v312:Addr) (m9_:Value),a=putSel a0_ b [(1,8,.string t305),(3,10,.int .i64 t307),(5,12,.int .i64 t309),(6,13,v312),(8,15,.int .i64 t314),(9,16,m9_),(10,17,.int .i64 (rd y311 t314)),(11,2,.string t305),(12,3,.int .i64 (rd y311 t314))]∧(b 1=false→IsS60 w w' g304 t302 t303)∧(Below w.heap.size w w')∧(b 1=true→b 3=false→IsS60 w w' g304 t302 t306)∧(b 3=true→b 5=false→IsS60 w w' g304 t302 t308)∧(b 5=true→b 8=false→IsS60 w w' g304 t302 t310)∧(b 6=true→Kd.R (Kd.int .i64) 3 w' w.heap.size (fun _=>True) v312 y311)∧(b 6=true→∃ c_,(v312:Value)=.slice (some adz_v312) y311.length c_)∧(b 8=true→IsS60 w w' g304 t302 t315)∧(b 9=true→(m9_:Value)=.pointer (some (adz_v312.add (t314).toNat)))) HT_.out HW_.out (by kernel_rfl) (by kernel_rfl) ?_ ?_ ?_
   ·exact ⟨.bool false,⟨0,0,none⟩,.bool false,by simp only [putSel,Bool.false_eq_true,if_false],fun _=>HI304.out,HB.out,fun h_=>absurd h_ (by decide),fun h_=>absurd h_ (by decide),fun h_=>absurd h_ (by decide),fun h_=>absurd h_ (by decide),fun h_=>absurd h_ (by decide),fun h_=>absurd h_ (by decide),fun h_=>absurd h_ (by decide)⟩
   ·skip
    clear HB HI304
    refine steps_cons ?_ ?_
    ·rintro b a w' ⟨v312,adz_v312,m9_,ha,Q_HI304,Q_HB,Q_HI304_e1,Q_HI304_e3,Q_HI304_e5,Q_HO313,Q_HA_HO313,Q_HI304_e8,Q_X9_⟩ hb_ hon hoff
     refine ⟨_,rfl,fun K hK=>?_⟩
     have e7:a.tmps[7]?=some (.pointer (some ⟨g304,0,none⟩)):=by rw [ha];exact (putSel_off rfl).trans rfl
     replace ha:=Aside0.mk ha
     have HI304:=Aside0.mk (Q_HI304 hb_)
     have HB:=Aside0.mk Q_HB
     refine goes_ Try.func26 (by kernel_rfl) rfl #[.pointer (some ⟨g304,0,none⟩)] (by rfl) rfl rfl (by first|(simp only [List.map_toArray,List.map_cons,List.map_nil,Act.eval,Array.getD_eq_getD_getElem?,Option.getD_some,e7];done)|(simp only [List.map_toArray,List.map_cons,List.map_nil,Act.eval,Array.getD_eq_getD_getElem?,Option.getD_some,e7];rfl)) ?_
     with_reducible refine (spec_l91Said.calls k g304 t302 t303 t305 t306 w _ ?side1 ?side2 A3.out).mono ?_
     (case side1=>repeat (first|(with_reducible first|exact HI304.out|apply IsS60.alloc|apply IsS60.drewN|apply IsS60.drew|apply IsS60.set_1)|exact HI304.out))
     (case side2=>repeat (first|(with_reducible first|exact HB.out|apply yA|apply yB|apply yC|refine yD ?_ (IsS60.ge HI304.out))|exact HB.out))
     rintro e w11 ⟨rfl,hi,hb,hk⟩
     refine ⟨_,rfl,?_⟩
     have n0_:=Aside0.mk (hb)
     have n1_:=Aside0.mk (hi)
     clear HB
     clear HI304
     have HB:=n0_
     have HI304:=n1_
     clear n0_ n1_
     (try clear hb)
     (try clear hb2)
     (try clear hk)
     (try clear hi)
     refine hK.out _ _ ⟨v312,adz_v312,m9_,(by rw [ha.out];exact putSel_upk 0 hb_ rfl rfl rfl),fun h0_=>absurd ((up_self b 1).symm.trans h0_) (by decide),(by repeat (first|(with_reducible first|exact HB.out|apply yA|apply yB|apply yC|refine yD ?_ (IsS60.ge HI304.out))|exact HB.out)),fun _ _=>(by repeat (first|(with_reducible first|exact HI304.out|apply IsS60.alloc|apply IsS60.drewN|apply IsS60.drew|apply IsS60.set_1)|exact HI304.out)),fun h0_ _=>absurd ((hoff 3 (by kernel_rfl)).symm.trans h0_) (by decide),fun h0_ _=>absurd ((hoff 5 (by kernel_rfl)).symm.trans h0_) (by decide),fun h0_=>absurd ((hoff 6 (by kernel_rfl)).symm.trans h0_) (by decide),fun h0_=>absurd ((hoff 6 (by kernel_rfl)).symm.trans h0_) (by decide),fun h0_=>absurd ((hoff 8 (by kernel_rfl)).symm.trans h0_) (by decide),fun h0_=>absurd ((hoff 9 (by kernel_rfl)).symm.trans h0_) (by decide)⟩
    refine steps_cons ?_ ?_
    ·rintro b a w' ⟨v312,adz_v312,m9_,ha,Q_HI304,Q_HB,Q_HI304_e1,Q_HI304_e3,Q_HI304_e5,Q_HO313,Q_HA_HO313,Q_HI304_e8,Q_X9_⟩ hb_ hon hoff
     refine ⟨_,rfl,fun K hK=>?_⟩
     have e9:a.tmps[9]?=some (.pointer (some ⟨g304,0,none⟩)):=by rw [ha];exact (putSel_off rfl).trans rfl
     replace ha:=Aside0.mk ha
     have HB:=Aside0.mk Q_HB
     have HI304:=Aside0.mk (Q_HI304_e1 (hon 1 (by kernel_rfl)) hb_)
     refine goes_ Try.func32 (by kernel_rfl) rfl #[.pointer (some ⟨g304,0,none⟩),.int .i64 30] (by rfl) rfl rfl (by first|(simp only [List.map_toArray,List.map_cons,List.map_nil,Act.eval,Array.getD_eq_getD_getElem?,Option.getD_some,e9];done)|(simp only [List.map_toArray,List.map_cons,List.map_nil,Act.eval,Array.getD_eq_getD_getElem?,Option.getD_some,e9];rfl)) ?_
     with_reducible refine (spec_l6Rd_pick.calls k g304 t302 t306 30 t307 t308 w _ ?side1 ?side2 A4.out).mono ?_
     (case side1=>repeat (first|(with_reducible first|exact HI304.out|apply IsS60.alloc|apply IsS60.drewN|apply IsS60.drew|apply IsS60.set_1)|exact HI304.out))
     (case side2=>repeat (first|(with_reducible first|exact HB.out|apply yA|apply yB|apply yC|refine yD ?_ (IsS60.ge HI304.out))|exact HB.out))
     rintro e w13 ⟨rfl,hi,hb,hk⟩
     refine ⟨_,rfl,?_⟩
     have n0_:=Aside0.mk (hb)
     have n1_:=Aside0.mk (hi)
     clear HB
     clear HI304
     have HB:=n0_
     have HI304:=n1_
     clear n0_ n1_
     (try clear hb)
     (try clear hb2)
     (try clear hk)
     (try clear hi)
     refine hK.out _ _ ⟨v312,adz_v312,m9_,(by rw [ha.out];exact putSel_upk 1 hb_ rfl rfl rfl),fun h0_=>absurd ((hon 1 (by kernel_rfl)).symm.trans h0_) (by decide),(by repeat (first|(with_reducible first|exact HB.out|apply yA|apply yB|apply yC|refine yD ?_ (IsS60.ge HI304.out))|exact HB.out)),fun _ h1_=>absurd ((up_self b 3).symm.trans h1_) (by decide),fun _ _=>(by repeat (first|(with_reducible first|exact HI304.out|apply IsS60.alloc|apply IsS60.drewN|apply IsS60.drew|apply IsS60.set_1)|exact HI304.out)),fun h0_ _=>absurd ((hoff 5 (by kernel_rfl)).symm.trans h0_) (by decide),fun h0_=>absurd ((hoff 6 (by kernel_rfl)).symm.trans h0_) (by decide),fun h0_=>absurd ((hoff 6 (by kernel_rfl)).symm.trans h0_) (by decide),fun h0_=>absurd ((hoff 8 (by kernel_rfl)).symm.trans h0_) (by decide),fun h0_=>absurd ((hoff 9 (by kernel_rfl)).symm.trans h0_) (by decide)⟩
    refine steps_cons ?_ ?_
    ·rintro b a w' ⟨v312,adz_v312,m9_,ha,Q_HI304,Q_HB,Q_HI304_e1,Q_HI304_e3,Q_HI304_e5,Q_HO313,Q_HA_HO313,Q_HI304_e8,Q_X9_⟩ hb_ hon hoff
     refine ⟨_,rfl,fun K hK=>?_⟩
     have e11:a.tmps[11]?=some (.pointer (some ⟨g304,0,none⟩)):=by rw [ha];exact (putSel_off rfl).trans rfl
     replace ha:=Aside0.mk ha
     have HB:=Aside0.mk Q_HB
     have HI304:=Aside0.mk (Q_HI304_e3 (hon 3 (by kernel_rfl)) hb_)
     refine goes_ Try.func32 (by kernel_rfl) rfl #[.pointer (some ⟨g304,0,none⟩),.int .i64 201] (by rfl) rfl rfl (by first|(simp only [List.map_toArray,List.map_cons,List.map_nil,Act.eval,Array.getD_eq_getD_getElem?,Option.getD_some,e11];done)|(simp only [List.map_toArray,List.map_cons,List.map_nil,Act.eval,Array.getD_eq_getD_getElem?,Option.getD_some,e11];rfl)) ?_
     with_reducible refine (spec_l6Rd_pick.calls k g304 t302 t308 201 t309 t310 w _ ?side1 ?side2 A5.out).mono ?_
     (case side1=>repeat (first|(with_reducible first|exact HI304.out|apply IsS60.alloc|apply IsS60.drewN|apply IsS60.drew|apply IsS60.set_1)|exact HI304.out))
     (case side2=>repeat (first|(with_reducible first|exact HB.out|apply yA|apply yB|apply yC|refine yD ?_ (IsS60.ge HI304.out))|exact HB.out))
     rintro e w14 ⟨rfl,hi,hb,hk⟩
     refine ⟨_,rfl,?_⟩
     have n0_:=Aside0.mk (hb)
     have n1_:=Aside0.mk (hi)
     clear HB
     clear HI304
     have HB:=n0_
     have HI304:=n1_
     clear n0_ n1_
     (try clear hb)
     (try clear hb2)
     (try clear hk)
     (try clear hi)
     refine hK.out _ _ ⟨v312,adz_v312,m9_,(by rw [ha.out];exact putSel_upk 2 hb_ rfl rfl rfl),fun h0_=>absurd ((hon 1 (by kernel_rfl)).symm.trans h0_) (by decide),(by repeat (first|(with_reducible first|exact HB.out|apply yA|apply yB|apply yC|refine yD ?_ (IsS60.ge HI304.out))|exact HB.out)),fun _ h1_=>absurd ((hon 3 (by kernel_rfl)).symm.trans h1_) (by decide),fun _ h1_=>absurd ((up_self b 5).symm.trans h1_) (by decide),fun _ _=>(by repeat (first|(with_reducible first|exact HI304.out|apply IsS60.alloc|apply IsS60.drewN|apply IsS60.drew|apply IsS60.set_1)|exact HI304.out)),fun h0_=>absurd ((hoff 6 (by kernel_rfl)).symm.trans h0_) (by decide),fun h0_=>absurd ((hoff 6 (by kernel_rfl)).symm.trans h0_) (by decide),fun h0_=>absurd ((hoff 8 (by kernel_rfl)).symm.trans h0_) (by decide),fun h0_=>absurd ((hoff 9 (by kernel_rfl)).symm.trans h0_) (by decide)⟩
    refine steps_cons ?_ ?_
    ·rintro b a w' ⟨v312,adz_v312,m9_,ha,Q_HI304,Q_HB,Q_HI304_e1,Q_HI304_e3,Q_HI304_e5,Q_HO313,Q_HA_HO313,Q_HI304_e8,Q_X9_⟩ hb_ hon hoff
     refine ⟨_,rfl,fun K hK=>?_⟩
     have e10:a.tmps[10]?=some (.int .i64 t307):=by rw [ha];exact putSel_on (e:=(3,10,.int .i64 t307)) 1 rfl rfl (hon 3 (by kernel_rfl)) rfl
     have e12:a.tmps[12]?=some (.int .i64 t309):=by rw [ha];exact putSel_on (e:=(5,12,.int .i64 t309)) 2 rfl rfl (hon 5 (by kernel_rfl)) rfl
     replace ha:=Aside0.mk ha
     have HB:=Aside0.mk Q_HB
     refine Kd.R_lit_step (Kd.int .i64) _ 3 ?hg (N:=13) ?hd (xs:=([t307,t309,200,201,(-1)]:List Int)) (inner:=[.int .i64 t307,.int .i64 t309,.int .i64 200,.int .i64 201,.int .i64 (-1)]) (ok:=fun _=>True) (okp:=fun _=>True) ?hr ?hp (fun _ hk=>hk) trivial (Below.refl _ _) (Nat.le_refl _) (by simp) ?_;(case hd=>rfl);(case hg=>rfl);(case hr=>first|(go_simp;done)|(go_simp;rfl));(case hp=>exact (Reps.one (show Kd.M (Kd.int .i64) _ _ _ t307 [.int .i64 t307] from rfl) (Reps.one (show Kd.M (Kd.int .i64) _ _ _ t309 [.int .i64 t309] from rfl) (Reps.one (show Kd.M (Kd.int .i64) _ _ _ 200 [.int .i64 200] from rfl) (Reps.one (show Kd.M (Kd.int .i64) _ _ _ 201 [.int .i64 201] from rfl) (Reps.one (show Kd.M (Kd.int .i64) _ _ _ (-1) [.int .i64 (-1)] from rfl) (Reps.none _ _)))))))
     intro v312 w15 ho16 hb hg_ hnew_
     clear hg_ hnew_
     (first|rw [← Ny311.out] at ho16|(simp only [Int.reduceToNat] at ho16;rw [← Ny311.out] at ho16))
     have n0_:=Aside0.mk (Kd.R_lower ho16 (yQ (by repeat (first|(with_reducible first|exact HB.out|apply yA|apply yB|apply yC)|exact HB.out))))
     have n2_:=Aside0.mk (yP (by repeat (first|(with_reducible first|exact HB.out|apply yA|apply yB|apply yC)|exact HB.out)) hb)
     have z_HI304_e5:=fun (h0_:b 5=true) (h1_:b 8=false)=>(show IsS60 w w15 g304 t302 t310 from by first|exact (IsS60.below (by repeat (first|(with_reducible first|exact (Q_HI304_e5 h0_ h1_)|apply IsS60.alloc|apply IsS60.drewN|apply IsS60.drew|apply IsS60.set_1)|exact (Q_HI304_e5 h0_ h1_))) hb))
     have z_HI304_e8:=fun (h0_:b 8=true)=>(show IsS60 w w15 g304 t302 t315 from by first|exact (IsS60.below (by repeat (first|(with_reducible first|exact (Q_HI304_e8 h0_)|apply IsS60.alloc|apply IsS60.drewN|apply IsS60.drew|apply IsS60.set_1)|exact (Q_HI304_e8 h0_))) hb))
     clear HB
     have HO313:=n0_
     have HB:=n2_
     clear n0_ n2_
     clear hb ho16
     obtain ⟨Ao17,co17,eo17⟩:=Kd.R_slice HO313.out
     subst eo17
     obtain ⟨ado17,fo17,_⟩:=Kd.at_int (Kd.R_reads' HO313.out).2.2 0 (by decide) (by rw [Ny311.out];simp)
     cases fo17
     refine hK.out _ _ ⟨.slice (some ado17) y311.length co17,ado17,m9_,(by rw [ha.out];exact putSel_upk 3 hb_ rfl rfl rfl),fun h0_=>absurd ((hon 1 (by kernel_rfl)).symm.trans h0_) (by decide),(by repeat (first|(with_reducible first|exact HB.out|apply yA|apply yB|apply yC)|exact HB.out)),fun _ h1_=>absurd ((hon 3 (by kernel_rfl)).symm.trans h1_) (by decide),fun _ h1_=>absurd ((hon 5 (by kernel_rfl)).symm.trans h1_) (by decide),z_HI304_e5,fun _=>(by (with_reducible repeat (first|apply yH|apply yI|apply yJ));exact HO313.out),fun _=>⟨_,rfl⟩,z_HI304_e8,fun h0_=>absurd ((hoff 9 (by kernel_rfl)).symm.trans h0_) (by decide)⟩
    refine steps_cons ?_ ?_
    ·rintro b a w' ⟨v312,adz_v312,m9_,ha,Q_HI304,Q_HB,Q_HI304_e1,Q_HI304_e3,Q_HI304_e5,Q_HO313,Q_HA_HO313,Q_HI304_e8,Q_X9_⟩ hb_ hon hoff
     refine ⟨_,rfl,fun K hK=>?_⟩
     have e14:a.tmps[14]?=some (.pointer (some ⟨g304,0,none⟩)):=by rw [ha];exact (putSel_off rfl).trans rfl
     replace ha:=Aside0.mk ha
     have HB:=Aside0.mk Q_HB
     have HI304:=Aside0.mk (Q_HI304_e5 (hon 5 (by kernel_rfl)) hb_)
     refine goes_ Try.func32 (by kernel_rfl) rfl #[.pointer (some ⟨g304,0,none⟩),.int .i64 5] (by rfl) rfl rfl (by first|(simp only [List.map_toArray,List.map_cons,List.map_nil,Act.eval,Array.getD_eq_getD_getElem?,Option.getD_some,e14];done)|(simp only [List.map_toArray,List.map_cons,List.map_nil,Act.eval,Array.getD_eq_getD_getElem?,Option.getD_some,e14];rfl)) ?_
     with_reducible refine (spec_l6Rd_pick.calls k g304 t302 t310 5 t314 t315 w _ ?side1 ?side2 A6.out).mono ?_
     (case side1=>repeat (first|(with_reducible first|exact HI304.out|apply IsS60.alloc|apply IsS60.drewN|apply IsS60.drew|apply IsS60.set_1)|exact HI304.out))
     (case side2=>repeat (first|(with_reducible first|exact HB.out|apply yA|apply yB|apply yC|refine yD ?_ (IsS60.ge HI304.out))|exact HB.out))
     rintro e w15 ⟨rfl,hi,hb,hk⟩
     refine ⟨_,rfl,?_⟩
     have n0_:=Aside0.mk (hb)
     have n1_:=Aside0.mk (hi)
     have z_HO313:=fun (h0_:b 6=true)=>(show Kd.R (Kd.int .i64) 3 w15 w.heap.size (fun _=>True) v312 y311 from by first|exact (Kd.R_mono (Kd.R_keep (IsS60.apart (show IsS60 w _ g304 t302 t310 from by repeat (first|(with_reducible first|exact HI304.out|apply IsS60.alloc|apply IsS60.drewN|apply IsS60.drew|apply IsS60.set_1)|exact HI304.out)) (by (with_reducible repeat (first|apply yH|apply yI|apply yJ));exact (Q_HO313 h0_)) (by decide)) hk (fun _ h=>h.2)) (fun _ h=>h.1))|exact Kd.R_mono (Kd.R_mono (Kd.R_keep (IsS60.apart (show IsS60 w _ g304 t302 t310 from by repeat (first|(with_reducible first|exact HI304.out|apply IsS60.alloc|apply IsS60.drewN|apply IsS60.drew|apply IsS60.set_1)|exact HI304.out)) (by (with_reducible repeat (first|apply yH|apply yI|apply yJ));exact (Q_HO313 h0_)) (by decide)) hk (fun _ h=>h.2)) (fun _ h=>h.1)) (fun _ h_=>by first|trivial|exact h_|exact h_.1))
     clear HB
     clear HI304
     have HB:=n0_
     have HI304:=n1_
     clear n0_ n1_
     (try clear hb)
     (try clear hb2)
     (try clear hk)
     (try clear hi)
     refine hK.out _ _ ⟨v312,adz_v312,m9_,(by rw [ha.out];exact putSel_upk 4 hb_ rfl rfl rfl),fun h0_=>absurd ((hon 1 (by kernel_rfl)).symm.trans h0_) (by decide),(by repeat (first|(with_reducible first|exact HB.out|apply yA|apply yB|apply yC|refine yD ?_ (IsS60.ge HI304.out))|exact HB.out)),fun _ h1_=>absurd ((hon 3 (by kernel_rfl)).symm.trans h1_) (by decide),fun _ h1_=>absurd ((hon 5 (by kernel_rfl)).symm.trans h1_) (by decide),fun _ h1_=>absurd ((up_self b 8).symm.trans h1_) (by decide),z_HO313,Q_HA_HO313,fun _=>(by repeat (first|(with_reducible first|exact HI304.out|apply IsS60.alloc|apply IsS60.drewN|apply IsS60.drew|apply IsS60.set_1)|exact HI304.out)),fun h0_=>absurd ((hoff 9 (by kernel_rfl)).symm.trans h0_) (by decide)⟩
    refine steps_cons ?_ ?_
    ·rintro b a w' ⟨v312,adz_v312,m9_,ha,Q_HI304,Q_HB,Q_HI304_e1,Q_HI304_e3,Q_HI304_e5,Q_HO313,Q_HA_HO313,Q_HI304_e8,Q_X9_⟩ hb_ hon hoff
     refine ⟨_,rfl,fun K hK=>?_⟩
     have e13:a.tmps[13]?=some (v312):=by rw [ha];exact putSel_on (e:=(6,13,v312)) 3 rfl rfl (hon 6 (by kernel_rfl)) rfl
     have e15:a.tmps[15]?=some (.int .i64 t314):=by rw [ha];exact putSel_on (e:=(8,15,.int .i64 t314)) 4 rfl rfl (hon 8 (by kernel_rfl)) rfl
     replace ha:=Aside0.mk ha
     have HB:=Aside0.mk Q_HB
     have HO313:=Aside0.mk (Q_HO313 (hon 6 (by kernel_rfl)))
     have HA_HO313:=Aside0.mk (Q_HA_HO313 (hon 6 (by kernel_rfl)))
     have HI304:=Aside0.mk (Q_HI304_e8 (hon 8 (by kernel_rfl)))
     obtain ⟨c_,hv_⟩:=HA_HO313.out
     rw [hv_] at e13
     refine value_ (w1:=w') (v:=.pointer (some (adz_v312.add (t314).toNat))) (by rfl) rfl ?_ ?_
     ·go_simp
      (try simp only [i64_w])
      try rfl
     refine hK.out _ _ ⟨v312,adz_v312,(.pointer (some (adz_v312.add (t314).toNat))),(by rw [ha.out];exact putSel_upk 5 hb_ rfl rfl rfl),fun h0_=>absurd ((hon 1 (by kernel_rfl)).symm.trans h0_) (by decide),Q_HB,fun _ h1_=>absurd ((hon 3 (by kernel_rfl)).symm.trans h1_) (by decide),fun _ h1_=>absurd ((hon 5 (by kernel_rfl)).symm.trans h1_) (by decide),fun _ h1_=>absurd ((hon 8 (by kernel_rfl)).symm.trans h1_) (by decide),Q_HO313,Q_HA_HO313,Q_HI304_e8,fun _=>rfl⟩
    refine steps_cons ?_ ?_
    ·rintro b a w' ⟨v312,adz_v312,m9_,ha,Q_HI304,Q_HB,Q_HI304_e1,Q_HI304_e3,Q_HI304_e5,Q_HO313,Q_HA_HO313,Q_HI304_e8,Q_X9_⟩ hb_ hon hoff
     refine ⟨_,rfl,fun K hK=>?_⟩
     have e16:a.tmps[16]?=some (m9_):=by rw [ha];exact putSel_on (e:=(9,16,m9_)) 5 rfl rfl (hon 9 (by kernel_rfl)) rfl
     rw [Q_X9_ (hon 9 (by kernel_rfl))] at e16
     replace ha:=Aside0.mk ha
     have HB:=Aside0.mk Q_HB
     have HO313:=Aside0.mk (Q_HO313 (hon 6 (by kernel_rfl)))
     have HA_HO313:=Aside0.mk (Q_HA_HO313 (hon 6 (by kernel_rfl)))
     have HI304:=Aside0.mk (Q_HI304_e8 (hon 8 (by kernel_rfl)))
     obtain ⟨c_,hv_⟩:=HA_HO313.out
     have hF_:=HO313.out
     rw [hv_] at hF_
     obtain ⟨ad_,ea_,hx_⟩:=Kd.at_int (Kd.R_reads' hF_).2.2 t314 (of_eq_true pi316) (of_eq_true qi316)
     cases ea_
     refine value_ (w1:=w') (v:=.int .i64 (rd y311 t314)) (by rfl) rfl ?_ ?_
     ·go_simp
      (try simp only [i64_w])
      try rfl
     refine hK.out _ _ ⟨v312,adz_v312,m9_,(by rw [ha.out];exact putSel_upk 6 hb_ rfl rfl rfl),fun h0_=>absurd ((hon 1 (by kernel_rfl)).symm.trans h0_) (by decide),Q_HB,fun _ h1_=>absurd ((hon 3 (by kernel_rfl)).symm.trans h1_) (by decide),fun _ h1_=>absurd ((hon 5 (by kernel_rfl)).symm.trans h1_) (by decide),fun _ h1_=>absurd ((hon 8 (by kernel_rfl)).symm.trans h1_) (by decide),Q_HO313,Q_HA_HO313,Q_HI304_e8,Q_X9_⟩
    refine steps_cons ?_ ?_
    ·rintro b a w' ⟨v312,adz_v312,m9_,ha,Q_HI304,Q_HB,Q_HI304_e1,Q_HI304_e3,Q_HI304_e5,Q_HO313,Q_HA_HO313,Q_HI304_e8,Q_X9_⟩ hb_ hon hoff
     refine ⟨_,rfl,fun K hK=>?_⟩
     have e8:a.tmps[8]?=some (.string t305):=by rw [ha];exact putSel_on (e:=(1,8,.string t305)) 0 rfl rfl (hon 1 (by kernel_rfl)) rfl
     replace ha:=Aside0.mk ha
     have HB:=Aside0.mk Q_HB
     have HI304:=Aside0.mk (Q_HI304_e8 (hon 8 (by kernel_rfl)))
     refine value_ (w1:=w') (v:=.string t305) (by rfl) rfl ?_ ?_
     ·go_simp
      (try simp only [i64_w])
      try rfl
     refine hK.out _ _ ⟨v312,adz_v312,m9_,(by rw [ha.out];exact putSel_upk 7 hb_ rfl rfl rfl),fun h0_=>absurd ((hon 1 (by kernel_rfl)).symm.trans h0_) (by decide),Q_HB,fun _ h1_=>absurd ((hon 3 (by kernel_rfl)).symm.trans h1_) (by decide),fun _ h1_=>absurd ((hon 5 (by kernel_rfl)).symm.trans h1_) (by decide),fun _ h1_=>absurd ((hon 8 (by kernel_rfl)).symm.trans h1_) (by decide),Q_HO313,Q_HA_HO313,Q_HI304_e8,Q_X9_⟩
    refine steps_cons ?_ ?_
    ·rintro b a w' ⟨v312,adz_v312,m9_,ha,Q_HI304,Q_HB,Q_HI304_e1,Q_HI304_e3,Q_HI304_e5,Q_HO313,Q_HA_HO313,Q_HI304_e8,Q_X9_⟩ hb_ hon hoff
     refine ⟨_,rfl,fun K hK=>?_⟩
     have e17:a.tmps[17]?=some (.int .i64 (rd y311 t314)):=by rw [ha];exact putSel_on (e:=(10,17,.int .i64 (rd y311 t314))) 6 rfl rfl (hon 10 (by kernel_rfl)) rfl
     replace ha:=Aside0.mk ha
     have HB:=Aside0.mk Q_HB
     have HO313:=Aside0.mk (Q_HO313 (hon 6 (by kernel_rfl)))
     have HA_HO313:=Aside0.mk (Q_HA_HO313 (hon 6 (by kernel_rfl)))
     have HI304:=Aside0.mk (Q_HI304_e8 (hon 8 (by kernel_rfl)))
     refine value_ (w1:=w') (v:=.int .i64 (rd y311 t314)) (by rfl) rfl ?_ ?_
     ·go_simp
      (try simp only [i64_w])
      try rfl
     refine hK.out _ _ ⟨v312,adz_v312,m9_,(by rw [ha.out];exact putSel_upk 8 hb_ rfl rfl rfl),fun h0_=>absurd ((hon 1 (by kernel_rfl)).symm.trans h0_) (by decide),Q_HB,fun _ h1_=>absurd ((hon 3 (by kernel_rfl)).symm.trans h1_) (by decide),fun _ h1_=>absurd ((hon 5 (by kernel_rfl)).symm.trans h1_) (by decide),fun _ h1_=>absurd ((hon 8 (by kernel_rfl)).symm.trans h1_) (by decide),Q_HO313,Q_HA_HO313,Q_HI304_e8,Q_X9_⟩
    exact steps_nil
   rintro b a w18 hall ⟨v312,adz_v312,m9_,ha,Q_HI304,Q_HB,Q_HI304_e1,Q_HI304_e3,Q_HI304_e5,Q_HO313,Q_HA_HO313,Q_HI304_e8,Q_X9_⟩
   clear HB HI304
   have hb1_:=hall 1 (by kernel_rfl)
   have hb3_:=hall 3 (by kernel_rfl)
   have hb5_:=hall 5 (by kernel_rfl)
   have hb6_:=hall 6 (by kernel_rfl)
   have hb8_:=hall 8 (by kernel_rfl)
   have hb9_:=hall 9 (by kernel_rfl)
   have hb10_:=hall 10 (by kernel_rfl)
   have hb11_:=hall 11 (by kernel_rfl)
   have hb12_:=hall 12 (by kernel_rfl)
   subst ha
   obtain rfl:=Q_X9_ hb9_
   simp only [putSel,hb1_,hb3_,hb5_,hb6_,hb8_,hb9_,hb10_,hb11_,hb12_,if_true,Act.put,yK,yL,yM]
   clear Q_HI304
   have HB:=Aside0.mk Q_HB
   clear Q_HB
   clear Q_HI304_e1
   clear Q_HI304_e3
   clear Q_HI304_e5
   have HO313:=Aside0.mk (Q_HO313 hb6_)
   clear Q_HO313
   have HA_HO313:=Aside0.mk (Q_HA_HO313 hb6_)
   clear Q_HA_HO313
   have HI304:=Aside0.mk (Q_HI304_e8 hb8_)
   clear Q_HI304_e8
   clear hall hb1_ hb3_ hb5_ hb6_ hb8_ hb9_ hb10_ hb11_ hb12_
   obtain ⟨co19,eo19⟩:=HA_HO313.out
   clear HA_HO313
   subst eo19
   try go_wp2
   go_ret2
   exact ⟨by first|rfl|(simp [errW_none,errW_some]<;>rfl)|(simp [*,errW_none,errW_some]<;>rfl)|(simp [errW_none,errW_some];exact ⟨rfl,rfl⟩),by repeat (first|(with_reducible first|exact HB.out|apply yA|apply yB|apply yC|refine yD ?_ (IsS60.ge HI304.out))|exact HB.out)⟩
  ·rw [if_neg c8] at H
   exact absurd H (by simp)
 ·rw [if_neg c7] at H
  exact absurd H (by simp)

end Go.Proofs.Ytjjnckgdpdelkaa.P

namespace Go.Proofs.Ytjjnckgdpdelkaa.P
open Go.RowKit Go.Proofs.YtjjnckgdpdelkaaW.PrintWords Go.Proofs.YtjjnckgdpdelkaaW.PrintLast Go.Proofs.YtjjnckgdpdelkaaW.PrintMore
attribute [local go_sem] max2_int min2_int max_two min_two max_three min_three max_four min_four   -- for this text's walks alone
set_option linter.unusedVariables false
set_option linter.unusedSimpArgs false

/-! ### laws_FnTermList: function 6 -/
mutual
noncomputable def laws_FnTermList.j0:Nat→ByteArray→Int→List Int→Bool→Bool→Option (Bool)
 | 0,_,_,_,_,_=>none
 | k+1,x3,x4,x5,x6,x9=>if x9=true then (laws_FnTermList.j1 k x3 x4 x5 x9 (!x6)) else (laws_FnTermList.j1 k x3 x4 x5 x9 true)
noncomputable def laws_FnTermList.j1:Nat→ByteArray→Int→List Int→Bool→Bool→Option (Bool)
 | 0,_,_,_,_,_=>none
 | k+1,x3,x4,x5,x9,x45=>if x45=true then (some x9) else (laws_FnTermList.l0 k x3 x4 x5 0 0)
noncomputable def laws_FnTermList.l0:Nat→ByteArray→Int→List Int→Int→Int→Option (Bool)
 | 0,_,_,_,_,_=>none
 | k+1,x3,x4,x5,x10,x11=>if x11<x4 then ((impl_TermHas.f x3 x11).bind fun t330=>(if t330=true then (if x10 ≥ (x5.length:Int) then (some false) else (if 0≤x10 then (if x10<(x5.length:Int) then (if (rd x5 x10)=x11 then (laws_FnTermList.l0 k x3 x4 x5 (wrap64 (x10+1)) (wrap64 (x11+1))) else (some false)) else (none)) else (none))) else (laws_FnTermList.l0 k x3 x4 x5 x10 (wrap64 (x11+1))))) else (some (x10 == (x5.length:Int)))
end
noncomputable def laws_FnTermList.f (k:Nat) (l0:List Int):Option (Bool):=if (l0.length:Int) > 1048576 then (some true) else ((spec_DrawTermList.f k l0).bind fun bt319=>((impl_TermList.f bt319.1 bt319.2).bind fun bt321=>((spec_TermList.f k bt319.1 bt319.2).bind fun bt325=>((laws_sameInts.f k bt321.1 bt325.1).bind fun t329=>(if t329=true then (laws_FnTermList.j0 k bt319.1 bt319.2 bt321.1 bt321.2 (bt321.2 == bt325.2)) else (laws_FnTermList.j0 k bt319.1 bt319.2 bt321.1 bt321.2 false))))))
theorem laws_FnTermList.mono_l:∀ k,(∀ y0 y1 y2 y3 y4,LeO (laws_FnTermList.j0 k y0 y1 y2 y3 y4) (laws_FnTermList.j0 (k+1) y0 y1 y2 y3 y4))∧(∀ y0 y1 y2 y3 y4,LeO (laws_FnTermList.j1 k y0 y1 y2 y3 y4) (laws_FnTermList.j1 (k+1) y0 y1 y2 y3 y4))∧(∀ y0 y1 y2 y3 y4,LeO (laws_FnTermList.l0 k y0 y1 y2 y3 y4) (laws_FnTermList.l0 (k+1) y0 y1 y2 y3 y4))
 | 0=>⟨fun _ _ _ _ _ r h=>by simp [laws_FnTermList.j0] at h,fun _ _ _ _ _ r h=>by simp [laws_FnTermList.j1] at h,fun _ _ _ _ _ r h=>by simp [laws_FnTermList.l0] at h⟩
 | k+1=>by
  obtain ⟨ih0,ih1,ih2⟩:=laws_FnTermList.mono_l k
  refine ⟨?_,?_,?_⟩
  ·intro y0 y1 y2 y3 y4
   unfold laws_FnTermList.j0
   repeat' first
   | (with_reducible exact ih0 _ _ _ _ _)
   | (with_reducible exact ih1 _ _ _ _ _)
   | (with_reducible exact ih2 _ _ _ _ _)
   | (with_reducible exact laws_sameInts.mono _ _ _)
   | (with_reducible exact spec_DrawTermList.mono _ _)
   | (with_reducible exact spec_TermList.mono _ _ _)
   | (with_reducible exact LeO.refl _)
   | (with_reducible exact LeO.none _)
   | (with_reducible refine LeO.ite ?_ ?_)
   | (with_reducible refine LeO.bind ?_ (fun _=>?_))
   | exact ih0 _ _ _ _ _
   | exact ih1 _ _ _ _ _
   | exact ih2 _ _ _ _ _
   | exact laws_sameInts.mono _ _ _
   | exact spec_DrawTermList.mono _ _
   | exact spec_TermList.mono _ _ _
   | exact LeO.none _
   | refine LeO.ite ?_ ?_
   | refine LeO.bind ?_ (fun _=>?_)
  ·intro y0 y1 y2 y3 y4
   unfold laws_FnTermList.j1
   repeat' first
   | (with_reducible exact ih0 _ _ _ _ _)
   | (with_reducible exact ih1 _ _ _ _ _)
   | (with_reducible exact ih2 _ _ _ _ _)
   | (with_reducible exact laws_sameInts.mono _ _ _)
   | (with_reducible exact spec_DrawTermList.mono _ _)
   | (with_reducible exact spec_TermList.mono _ _ _)
   | (with_reducible exact LeO.refl _)
   | (with_reducible exact LeO.none _)
   | (with_reducible refine LeO.ite ?_ ?_)
   | (with_reducible refine LeO.bind ?_ (fun _=>?_))
   | exact ih0 _ _ _ _ _
   | exact ih1 _ _ _ _ _
   | exact ih2 _ _ _ _ _
   | exact laws_sameInts.mono _ _ _
   | exact spec_DrawTermList.mono _ _
   | exact spec_TermList.mono _ _ _
   | exact LeO.none _
   | refine LeO.ite ?_ ?_
   | refine LeO.bind ?_ (fun _=>?_)
  ·intro y0 y1 y2 y3 y4
   unfold laws_FnTermList.l0
   repeat' first
   | (with_reducible exact ih0 _ _ _ _ _)
   | (with_reducible exact ih1 _ _ _ _ _)
   | (with_reducible exact ih2 _ _ _ _ _)
   | (with_reducible exact laws_sameInts.mono _ _ _)
   | (with_reducible exact spec_DrawTermList.mono _ _)
   | (with_reducible exact spec_TermList.mono _ _ _)
   | (with_reducible exact LeO.refl _)
   | (with_reducible exact LeO.none _)
   | (with_reducible refine LeO.ite ?_ ?_)
   | (with_reducible refine LeO.bind ?_ (fun _=>?_))
   | exact ih0 _ _ _ _ _
   | exact ih1 _ _ _ _ _
   | exact ih2 _ _ _ _ _
   | exact laws_sameInts.mono _ _ _
   | exact spec_DrawTermList.mono _ _
   | exact spec_TermList.mono _ _ _
   | exact LeO.none _
   | refine LeO.ite ?_ ?_
   | refine LeO.bind ?_ (fun _=>?_)
theorem laws_FnTermList.mono:∀ a0 k,LeO (laws_FnTermList.f k a0) (laws_FnTermList.f (k+1) a0):=by
 intro a0 k
 obtain ⟨ih0,ih1,ih2⟩:=laws_FnTermList.mono_l k
 unfold laws_FnTermList.f
 repeat' first
   | (with_reducible exact ih0 _ _ _ _ _)
   | (with_reducible exact ih1 _ _ _ _ _)
   | (with_reducible exact ih2 _ _ _ _ _)
   | (with_reducible exact laws_sameInts.mono _ _ _)
   | (with_reducible exact spec_DrawTermList.mono _ _)
   | (with_reducible exact spec_TermList.mono _ _ _)
   | (with_reducible exact LeO.refl _)
   | (with_reducible exact LeO.none _)
   | (with_reducible refine LeO.ite ?_ ?_)
   | (with_reducible refine LeO.bind ?_ (fun _=>?_))
   | exact ih0 _ _ _ _ _
   | exact ih1 _ _ _ _ _
   | exact ih2 _ _ _ _ _
   | exact laws_sameInts.mono _ _ _
   | exact spec_DrawTermList.mono _ _
   | exact spec_TermList.mono _ _ _
   | exact LeO.none _
   | refine LeO.ite ?_ ?_
   | refine LeO.bind ?_ (fun _=>?_)
set_option maxHeartbeats 8000000 in
set_option maxRecDepth 100000 in
theorem laws_FnTermList.calls (k:Nat) (A0:Option Addr) (c0:Nat) (l0:List Int) (r:Bool) (w:World) (hr0:Kd.C (Kd.int .u8) w A0 l0.length l0) (hc0:l0.length≤c0) (h:laws_FnTermList.f k l0=some r) :
  Calls Try.prog 6 #[.slice A0 l0.length c0] w fun e w'=>e=.returned (.bool r)∧Below w.heap.size w w':=by
 have HR0:=Aside0.mk hr0
 have HC0:=Aside0.mk hc0
 clear hr0 hc0
 have HB:=Aside0.mk (Below.refl w.heap.size w)
 have H:(if (l0.length:Int) > 1048576 then (some true) else ((spec_DrawTermList.f k l0).bind fun bt319=>((impl_TermList.f bt319.1 bt319.2).bind fun bt321=>((spec_TermList.f k bt319.1 bt319.2).bind fun bt325=>((laws_sameInts.f k bt321.1 bt325.1).bind fun t329=>(if t329=true then (laws_FnTermList.j0 k bt319.1 bt319.2 bt321.1 bt321.2 (bt321.2 == bt325.2)) else (laws_FnTermList.j0 k bt319.1 bt319.2 bt321.1 bt321.2 false)))))))=some r:=h
 clear h
 by_cases c2:(l0.length:Int) > 1048576
 ·rw [if_pos c2] at H
  have c2b0:decide (1048576<(l0.length:Int))=true:=decide_eq_true c2
  have c2b1:decide (1048576<l0.length)=true:=decide_eq_true (by omega)
  clear c2
  obtain rfl:=Option.some.inj H
  go_enter Try.func6,Try.ntmps6
  go_wp2
  go_ret
  exact ⟨by first|rfl|(simp [errW_none,errW_some]<;>rfl)|(simp [*,errW_none,errW_some]<;>rfl)|(simp [errW_none,errW_some];exact ⟨rfl,rfl⟩),by repeat (first|(with_reducible first|exact HB.out|apply yA|apply yB|apply yC)|exact HB.out)⟩
 ·rw [if_neg c2] at H
  have c2b0:decide (1048576<(l0.length:Int))=false:=decide_eq_false c2
  have c2b1:decide (1048576<l0.length)=false:=decide_eq_false (by omega)
  clear c2
  replace H:=Option.bind_eq_some_iff.mp H
  obtain ⟨⟨t319,t320⟩,A30,H⟩:=H
  replace H:((impl_TermList.f t319 t320).bind fun bt321=>((spec_TermList.f k t319 t320).bind fun bt325=>((laws_sameInts.f k bt321.1 bt325.1).bind fun t329=>(if t329=true then (laws_FnTermList.j0 k t319 t320 bt321.1 bt321.2 (bt321.2 == bt325.2)) else (laws_FnTermList.j0 k t319 t320 bt321.1 bt321.2 false)))))=some r:=H
  have A3:=Aside0.mk A30
  clear A30
  replace H:=Option.bind_eq_some_iff.mp H
  obtain ⟨⟨t321,t322⟩,A40,H⟩:=H
  replace H:((spec_TermList.f k t319 t320).bind fun bt325=>((laws_sameInts.f k t321 bt325.1).bind fun t329=>(if t329=true then (laws_FnTermList.j0 k t319 t320 t321 t322 (t322 == bt325.2)) else (laws_FnTermList.j0 k t319 t320 t321 t322 false))))=some r:=H
  have A4:=Aside0.mk A40
  clear A40
  replace H:=Option.bind_eq_some_iff.mp H
  obtain ⟨⟨t325,t326⟩,A50,H⟩:=H
  replace H:((laws_sameInts.f k t321 t325).bind fun t329=>(if t329=true then (laws_FnTermList.j0 k t319 t320 t321 t322 (t322 == t326)) else (laws_FnTermList.j0 k t319 t320 t321 t322 false)))=some r:=H
  have A5:=Aside0.mk A50
  clear A50
  have HC6:=Aside0.mk H
  clear H
  go_enter Try.func6,Try.ntmps6
  go_upto_region 6 with (first|((with_reducible refine gate_callee (f:=19) rfl ?_);refine goesL_ (some 17) rfl rfl Try.func19 (by kernel_rfl) rfl #[.slice A0 l0.length c0] rfl (by (try simp only [List.map_toArray,List.map_cons,List.map_nil]);first|done|rfl|(simp only [List.length_drop,List.length_take];rfl)) ?_;(with_reducible refine (spec_DrawTermList.calls k _ _ l0 t319 t320 _ ?side1 ?side2 A3.out).mono ?_);(case side1=>repeat (first|exact HR0.out|(with_reducible refine Kd.C_alloc ?_ _)|(with_reducible refine Kd.C_drewN ?_ _)|(with_reducible refine Kd.C_drew ?_)));(case side2=>exact HC0.out);rintro e w7 ⟨rfl,hb⟩;refine ⟨_,rfl,?_⟩;have n0_:=Aside0.mk (yP (by repeat (first|(with_reducible first|exact HB.out|apply yA|apply yB|apply yC)|exact HB.out)) hb);clear HB;have HB:=n0_;clear n0_;(try clear hb);(try clear hb2);(try clear hk);(try clear hi))|((with_reducible refine gate_callee (f:=15) rfl ?_);refine goesL_ (some 23) rfl rfl Try.func15 (by kernel_rfl) rfl #[.string t319,.int .i64 t320] rfl (by (try simp only [List.map_toArray,List.map_cons,List.map_nil]);first|done|rfl|(simp only [List.length_drop,List.length_take];rfl)) ?_;(with_reducible refine (impl_TermList.calls t319 t320 t321 t322 _ A4.out).mono ?_);rintro e w8 ⟨v323,rfl,ho0,hb⟩;refine ⟨_,rfl,?_⟩;have n0_:=Aside0.mk (Kd.R_lower ho0 (yQ (by repeat (first|(with_reducible first|exact HB.out|apply yA|apply yB|apply yC)|exact HB.out))));have n1_:=Aside0.mk (yP (by repeat (first|(with_reducible first|exact HB.out|apply yA|apply yB|apply yC)|exact HB.out)) hb);clear HB;have HO324:=n0_;have HB:=n1_;clear n0_ n1_;(try clear hb);(try clear hb2);(try clear hk);(try clear hi);(try clear ho0))|((with_reducible refine gate_callee (f:=14) rfl ?_);refine goesL_ (some 29) rfl rfl Try.func14 (by kernel_rfl) rfl #[.string t319,.int .i64 t320] rfl (by (try simp only [List.map_toArray,List.map_cons,List.map_nil]);first|done|rfl|(simp only [List.length_drop,List.length_take];rfl)) ?_;(with_reducible refine (spec_TermList.calls k t319 t320 t325 t326 _ A5.out).mono ?_);rintro e w9 ⟨v327,rfl,ho0,hb⟩;refine ⟨_,rfl,?_⟩;have n0_:=Aside0.mk (Kd.R_elder' (by (with_reducible repeat (first|apply yH|apply yI|apply yJ));exact HO324.out) (Kd.R_base ho0) hb);have n1_:=Aside0.mk (Kd.R_lower (Kd.R_new' ho0 (Kd.R_lt (by (with_reducible repeat (first|apply yH|apply yI|apply yJ));exact HO324.out))) (yQ (by repeat (first|(with_reducible first|exact HB.out|apply yA|apply yB|apply yC)|exact HB.out))));have n2_:=Aside0.mk (yP (by repeat (first|(with_reducible first|exact HB.out|apply yA|apply yB|apply yC)|exact HB.out)) hb);clear HO324;clear HB;have HO324:=n0_;have HO328:=n1_;have HB:=n2_;clear n0_ n1_ n2_;(try clear hb);(try clear hb2);(try clear hk);(try clear hi);(try clear ho0)))
  (try simp only [Act.put,yK,yL,yM])
  go_cut [9] (fun v9 wc=>∃ (kq:Nat) (x9_5:Bool),v9=.bool x9_5∧Aside0 (laws_FnTermList.j0 kq t319 t320 t321 t322 x9_5=some r)∧Aside0 (kq≤k)∧Aside0 (Kd.R (Kd.int .i64) 3 wc w.heap.size (fun _=>True) v323 t321)∧Aside0 (Below w.heap.size w wc))
  case first =>
   have H:=HC6.out
   clear HC6
   replace H:=Option.bind_eq_some_iff.mp H
   obtain ⟨t329,A100,H⟩:=H
   replace H:(if t329=true then (laws_FnTermList.j0 k t319 t320 t321 t322 (t322 == t326)) else (laws_FnTermList.j0 k t319 t320 t321 t322 false))=some r:=H
   have A10:=Aside0.mk A100
   clear A100
   by_cases c11:t329=true
   ·subst c11
    have H1:(laws_FnTermList.j0 k t319 t320 t321 t322 (t322 == t326))=some r:=by rw [if_pos rfl] at H;exact H
    clear H
    have H:=H1
    clear H1
    have H':=Aside0.mk H
    clear H
    obtain ⟨Ao12,co12,eo12⟩:=Kd.R_slice HO324.out
    subst eo12
    obtain ⟨Ao13,co13,eo13⟩:=Kd.R_slice HO328.out
    subst eo13
    go_wp2_with (first|((with_reducible refine gate_callee (f:=20) rfl ?_);refine goesL_ (some 34) rfl rfl Try.func20 (by kernel_rfl) rfl #[.slice Ao12 t321.length co12,.slice Ao13 t325.length co13] rfl (by (try simp only [List.map_toArray,List.map_cons,List.map_nil]);first|done|rfl|(simp only [List.length_drop,List.length_take];rfl)) ?_;(with_reducible refine (laws_sameInts.calls k _ _ t321 _ _ t325 true _ ?side1 ?side2 ?side3 ?side4 A10.out).mono ?_);(case side1=>repeat (first|exact (Kd.R_reads' HO324.out).2.2|(with_reducible refine Kd.C_alloc ?_ _)|(with_reducible refine Kd.C_drewN ?_ _)|(with_reducible refine Kd.C_drew ?_)));(case side2=>exact (Kd.R_reads' HO324.out).2.1);(case side3=>repeat (first|exact (Kd.R_reads' HO328.out).2.2|(with_reducible refine Kd.C_alloc ?_ _)|(with_reducible refine Kd.C_drewN ?_ _)|(with_reducible refine Kd.C_drew ?_)));(case side4=>exact (Kd.R_reads' HO328.out).2.1);rintro e w' ⟨rfl,⟨nd,rfl⟩⟩;refine ⟨_,rfl,?_⟩))
    go_meet
    case rel=>exact ⟨_,((t322 == t326)),(by first|rfl|(simp;done)|(simp [*];done)|(simp [Int.tmod_eq_emod_of_nonneg];done)),H',⟨by first|omega|exact Nat.le_refl _⟩,⟨by (with_reducible repeat (first|apply yH|apply yI|apply yJ));exact Kd.R_mono HO324.out (fun _ hk=>trivial)⟩,⟨by repeat (first|(with_reducible first|exact HB.out|apply yA|apply yB|apply yC)|exact HB.out)⟩⟩
   ·replace c11:=Bool.eq_false_iff.mpr c11
    subst c11
    have H1:(laws_FnTermList.j0 k t319 t320 t321 t322 false)=some r:=by rw [if_neg (show ¬ (false=true) by decide)] at H;exact H
    clear H
    have H:=H1
    clear H1
    have H':=Aside0.mk H
    clear H
    obtain ⟨Ao14,co14,eo14⟩:=Kd.R_slice HO324.out
    subst eo14
    obtain ⟨Ao15,co15,eo15⟩:=Kd.R_slice HO328.out
    subst eo15
    go_wp2_with (first|((with_reducible refine gate_callee (f:=20) rfl ?_);refine goesL_ (some 34) rfl rfl Try.func20 (by kernel_rfl) rfl #[.slice Ao14 t321.length co14,.slice Ao15 t325.length co15] rfl (by (try simp only [List.map_toArray,List.map_cons,List.map_nil]);first|done|rfl|(simp only [List.length_drop,List.length_take];rfl)) ?_;(with_reducible refine (laws_sameInts.calls k _ _ t321 _ _ t325 false _ ?side1 ?side2 ?side3 ?side4 A10.out).mono ?_);(case side1=>repeat (first|exact (Kd.R_reads' HO324.out).2.2|(with_reducible refine Kd.C_alloc ?_ _)|(with_reducible refine Kd.C_drewN ?_ _)|(with_reducible refine Kd.C_drew ?_)));(case side2=>exact (Kd.R_reads' HO324.out).2.1);(case side3=>repeat (first|exact (Kd.R_reads' HO328.out).2.2|(with_reducible refine Kd.C_alloc ?_ _)|(with_reducible refine Kd.C_drewN ?_ _)|(with_reducible refine Kd.C_drew ?_)));(case side4=>exact (Kd.R_reads' HO328.out).2.1);rintro e w' ⟨rfl,⟨nd,rfl⟩⟩;refine ⟨_,rfl,?_⟩))
    go_meet
    case rel=>exact ⟨_,(false),(by first|rfl|(simp;done)|(simp [*];done)|(simp [Int.tmod_eq_emod_of_nonneg];done)),H',⟨by first|omega|exact Nat.le_refl _⟩,⟨by (with_reducible repeat (first|apply yH|apply yI|apply yJ));exact Kd.R_mono HO324.out (fun _ hk=>trivial)⟩,⟨by repeat (first|(with_reducible first|exact HB.out|apply yA|apply yB|apply yC)|exact HB.out)⟩⟩
  case rest =>
   clear HC6
   try clear c1
   try clear c2
   try clear c2b0
   try clear c2b1
   try clear p2
   try clear c6
   try clear c11
   try clear c14
   try clear c15
   obtain ⟨kq,x9_5,rfl,HA,HJ5,HO_5,HB⟩:=hcut
   cases kq with
   | zero=>exact absurd HA.out (by simp [laws_FnTermList.j0])
   | succ kj5 =>
    have H:=HA.out
    clear HA
    simp only [laws_FnTermList.j0] at H
    have HC16:=Aside0.mk H
    clear H
    go_upto_region 7 with (fail)
    go_cut [45] (fun v45 wc=>∃ (kq:Nat) (x45_15:Bool),v45=.bool x45_15∧Aside0 (laws_FnTermList.j1 kq t319 t320 t321 x9_5 x45_15=some r)∧Aside0 (kq≤kj5)∧Aside0 (Kd.R (Kd.int .i64) 3 wc w.heap.size (fun _=>True) v323 t321)∧Aside0 (Below w.heap.size w wc))
    case first =>
     have H:=HC16.out
     clear HC16
     by_cases c17:x9_5=true
     ·subst c17
      have H1:(laws_FnTermList.j1 kj5 t319 t320 t321 true (!t322))=some r:=by rw [if_pos rfl] at H;exact H
      clear H
      have H:=H1
      clear H1
      have H':=Aside0.mk H
      clear H
      go_wp2
      go_meet
      case rel=>exact ⟨_,(!t322),(by first|rfl|(simp;done)|(simp [*];done)|(simp [Int.tmod_eq_emod_of_nonneg];done)),H',⟨by have:=HJ5.out;first|omega|exact Nat.le_refl _⟩,⟨by (with_reducible repeat (first|apply yH|apply yI|apply yJ));exact HO_5.out⟩,⟨by repeat (first|(with_reducible first|exact HB.out|apply yA|apply yB|apply yC)|exact HB.out)⟩⟩
     ·replace c17:=Bool.eq_false_iff.mpr c17
      subst c17
      have H1:(laws_FnTermList.j1 kj5 t319 t320 t321 false true)=some r:=by rw [if_neg (show ¬ (false=true) by decide)] at H;exact H
      clear H
      have H:=H1
      clear H1
      have H':=Aside0.mk H
      clear H
      go_wp2
      go_meet
      case rel=>exact ⟨_,(true),(by first|rfl|(simp;done)|(simp [*];done)|(simp [Int.tmod_eq_emod_of_nonneg];done)),H',⟨by have:=HJ5.out;first|omega|exact Nat.le_refl _⟩,⟨by (with_reducible repeat (first|apply yH|apply yI|apply yJ));exact HO_5.out⟩,⟨by repeat (first|(with_reducible first|exact HB.out|apply yA|apply yB|apply yC)|exact HB.out)⟩⟩
    case rest =>
     clear HC16
     try clear c1
     try clear c2
     try clear c2b0
     try clear c2b1
     try clear p2
     try clear c6
     try clear c11
     try clear c14
     try clear c15
     try clear c17
     try clear p2
     obtain ⟨kq,x45_15,rfl,HA,HJ15,HO_5,HB⟩:=hcut
     cases kq with
     | zero=>exact absurd HA.out (by simp [laws_FnTermList.j1])
     | succ kj15 =>
      have H:=HA.out
      clear HA
      simp only [laws_FnTermList.j1] at H
      by_cases c18:x45_15=true
      ·subst c18
       have H1:(some x9_5)=some r:=by rw [if_pos rfl] at H;exact H
       clear H
       have H:=H1
       clear H1
       obtain rfl:=Option.some.inj H
       go_wp2
       go_ret
       exact ⟨by first|rfl|(simp [errW_none,errW_some]<;>rfl)|(simp [*,errW_none,errW_some]<;>rfl)|(simp [errW_none,errW_some];exact ⟨rfl,rfl⟩),by repeat (first|(with_reducible first|exact HB.out|apply yA|apply yB|apply yC)|exact HB.out)⟩
      ·replace c18:=Bool.eq_false_iff.mpr c18
       subst c18
       have H1:(laws_FnTermList.l0 kj15 t319 t320 t321 0 0)=some r:=by rw [if_neg (show ¬ (false=true) by decide)] at H;exact H
       clear H
       have H:=H1
       clear H1
       have H':=Aside0.mk H
       clear H
       go_wp2
       go_loopg [10,11] kj15 (fun kq v10 v11 w'=>∃ (x10_3:Int) (x11_3:Int),v10=.int .i64 x10_3∧v11=.int .i64 x11_3∧Aside0 (laws_FnTermList.l0 kq t319 t320 t321 x10_3 x11_3=some r)∧Aside0 (kq≤kj15)∧Aside0 (Kd.R (Kd.int .i64) 3 w' w.heap.size (fun _=>True) v323 t321)∧Aside0 (Below w.heap.size w w'))
       case atStart=>exact ⟨(0),(0),(by first|rfl|(simp;done)|(simp [*];done)|(simp [Int.tmod_eq_emod_of_nonneg];done)),(by first|rfl|(simp;done)|(simp [*];done)|(simp [Int.tmod_eq_emod_of_nonneg];done)),H',⟨Nat.le_refl _⟩,⟨by (with_reducible repeat (first|apply yH|apply yI|apply yJ));exact HO_5.out⟩,⟨by repeat (first|(with_reducible first|exact HB.out|apply yA|apply yB|apply yC)|exact HB.out)⟩⟩
       case round =>
        clear H'
        try clear c1
        try clear c2
        try clear c2b0
        try clear c2b1
        try clear p2
        try clear c6
        try clear c11
        try clear c14
        try clear c15
        try clear c17
        try clear c18
        try clear p2
        obtain ⟨x10_3,x11_3,rfl,rfl,HA,HK3,HO_5,HB⟩:=hrel
        cases gk with
        | zero=>exact absurd HA.out (by simp [laws_FnTermList.l0])
        | succ k3 =>
         have H:=HA.out
         clear HA
         simp only [laws_FnTermList.l0] at H
         by_cases c19:x11_3<t320
         ·rw [if_pos c19] at H
          have c19b0:decide (x11_3<t320)=true:=decide_eq_true c19
          clear c19
          replace H:=Option.bind_eq_some_iff.mp H
          obtain ⟨t330,A200,H⟩:=H
          replace H:(if t330=true then (if x10_3 ≥ (t321.length:Int) then (some false) else (if 0≤x10_3 then (if x10_3<(t321.length:Int) then (if (rd t321 x10_3)=x11_3 then (laws_FnTermList.l0 k3 t319 t320 t321 (wrap64 (x10_3+1)) (wrap64 (x11_3+1))) else (some false)) else (none)) else (none))) else (laws_FnTermList.l0 k3 t319 t320 t321 x10_3 (wrap64 (x11_3+1))))=some r:=H
          have A20:=Aside0.mk A200
          clear A200
          by_cases c21:t330=true
          ·subst c21
           have H1:(if x10_3 ≥ (t321.length:Int) then (some false) else (if 0≤x10_3 then (if x10_3<(t321.length:Int) then (if (rd t321 x10_3)=x11_3 then (laws_FnTermList.l0 k3 t319 t320 t321 (wrap64 (x10_3+1)) (wrap64 (x11_3+1))) else (some false)) else (none)) else (none)))=some r:=by rw [if_pos rfl] at H;exact H
           clear H
           have H:=H1
           clear H1
           by_cases c22:x10_3 ≥ (t321.length:Int)
           ·rw [if_pos c22] at H
            have c22b0:decide ((t321.length:Int)≤x10_3)=true:=decide_eq_true c22
            clear c22
            obtain rfl:=Option.some.inj H
            go_wp2_with (first|((with_reducible refine gate_callee (f:=11) rfl ?_);refine goesL_ (some 54) rfl rfl Try.func11 (by kernel_rfl) rfl #[.string t319,.int .i64 x11_3] rfl (by (try simp only [List.map_toArray,List.map_cons,List.map_nil]);first|done|rfl|(simp only [List.length_drop,List.length_take];rfl)) ?_;(with_reducible refine (impl_TermHas.calls t319 x11_3 true _ A20.out).mono ?_);rintro e w23 ⟨rfl,hb⟩;refine ⟨_,rfl,?_⟩;have n0_:=Aside0.mk (Kd.R_below (by (with_reducible repeat (first|apply yH|apply yI|apply yJ));exact HO_5.out) hb);have n1_:=Aside0.mk (yP (by repeat (first|(with_reducible first|exact HB.out|apply yA|apply yB|apply yC)|exact HB.out)) hb);clear HO_5;clear HB;have HO_5:=n0_;have HB:=n1_;clear n0_ n1_;(try clear hb);(try clear hb2);(try clear hk);(try clear hi);obtain ⟨Ao24,co24,eo24⟩:=Kd.R_slice HO_5.out;subst eo24))
            go_ret
            exact ⟨by first|rfl|(simp [errW_none,errW_some]<;>rfl)|(simp [*,errW_none,errW_some]<;>rfl)|(simp [errW_none,errW_some];exact ⟨rfl,rfl⟩),by repeat (first|(with_reducible first|exact HB.out|apply yA|apply yB|apply yC)|exact HB.out)⟩
           ·rw [if_neg c22] at H
            have c22b0:decide ((t321.length:Int)≤x10_3)=false:=decide_eq_false c22
            clear c22
            by_cases c25:0≤x10_3
            ·rw [if_pos c25] at H
             have c25b0:decide (0≤x10_3)=true:=decide_eq_true c25
             clear c25
             by_cases c26:x10_3<(t321.length:Int)
             ·rw [if_pos c26] at H
              have c26b0:decide (x10_3<(t321.length:Int))=true:=decide_eq_true c26
              clear c26
              by_cases c27:(rd t321 x10_3)=x11_3
              ·rw [if_pos c27] at H
               have c27b0:((rd t321 x10_3) == x11_3)=true:=beq_iff_eq.mpr c27
               have c27b1:((rd t321 x10_3) != x11_3)=false:=bne_eq_false_iff_eq.mpr c27
               clear c27
               have H':=Aside0.mk H
               clear H
               go_wp2_with (first|((with_reducible refine gate_callee (f:=11) rfl ?_);refine goesL_ (some 54) rfl rfl Try.func11 (by kernel_rfl) rfl #[.string t319,.int .i64 x11_3] rfl (by (try simp only [List.map_toArray,List.map_cons,List.map_nil]);first|done|rfl|(simp only [List.length_drop,List.length_take];rfl)) ?_;(with_reducible refine (impl_TermHas.calls t319 x11_3 true _ A20.out).mono ?_);rintro e w28 ⟨rfl,hb⟩;refine ⟨_,rfl,?_⟩;have n0_:=Aside0.mk (Kd.R_below (by (with_reducible repeat (first|apply yH|apply yI|apply yJ));exact HO_5.out) hb);have n1_:=Aside0.mk (yP (by repeat (first|(with_reducible first|exact HB.out|apply yA|apply yB|apply yC)|exact HB.out)) hb);clear HO_5;clear HB;have HO_5:=n0_;have HB:=n1_;clear n0_ n1_;(try clear hb);(try clear hb2);(try clear hk);(try clear hi);obtain ⟨Ao29,co29,eo29⟩:=Kd.R_slice HO_5.out;subst eo29;have p331:0≤(x10_3:Int):=of_decide_eq_true (by first|(with_reducible assumption)|assumption);have q331:x10_3<(t321.length:Int):=of_decide_eq_true (by first|(with_reducible assumption)|assumption);obtain ⟨ad331,e331,hx331_0⟩:=Kd.at_int (Kd.R_reads' HO_5.out).2.2 x10_3 p331 q331;cases e331;replace p331:=eq_true p331;replace q331:=eq_true q331))
               go_roundg k3
               case measure=>have:=HJ5.out;have:=HJ15.out;have:=HK3.out;omega
               case rel=>exact ⟨(wrap64 (x10_3+1)),(wrap64 (x11_3+1)),(by first|rfl|(simp;done)|(simp [*];done)|(simp [Int.tmod_eq_emod_of_nonneg];done)),(by first|rfl|(simp;done)|(simp [*];done)|(simp [Int.tmod_eq_emod_of_nonneg];done)),H',⟨by have:=HJ5.out;have:=HJ15.out;have:=HK3.out;omega⟩,⟨by (with_reducible repeat (first|apply yH|apply yI|apply yJ));exact HO_5.out⟩,⟨by repeat (first|(with_reducible first|exact HB.out|apply yA|apply yB|apply yC)|exact HB.out)⟩⟩
              ·rw [if_neg c27] at H
               have c27b0:((rd t321 x10_3) == x11_3)=false:=beq_eq_false_iff_ne.mpr c27
               have c27b1:((rd t321 x10_3) != x11_3)=true:=bne_iff_ne.mpr c27
               obtain rfl:=Option.some.inj H
               go_wp2_with (first|((with_reducible refine gate_callee (f:=11) rfl ?_);refine goesL_ (some 54) rfl rfl Try.func11 (by kernel_rfl) rfl #[.string t319,.int .i64 x11_3] rfl (by (try simp only [List.map_toArray,List.map_cons,List.map_nil]);first|done|rfl|(simp only [List.length_drop,List.length_take];rfl)) ?_;(with_reducible refine (impl_TermHas.calls t319 x11_3 true _ A20.out).mono ?_);rintro e w30 ⟨rfl,hb⟩;refine ⟨_,rfl,?_⟩;have n0_:=Aside0.mk (Kd.R_below (by (with_reducible repeat (first|apply yH|apply yI|apply yJ));exact HO_5.out) hb);have n1_:=Aside0.mk (yP (by repeat (first|(with_reducible first|exact HB.out|apply yA|apply yB|apply yC)|exact HB.out)) hb);clear HO_5;clear HB;have HO_5:=n0_;have HB:=n1_;clear n0_ n1_;(try clear hb);(try clear hb2);(try clear hk);(try clear hi);obtain ⟨Ao31,co31,eo31⟩:=Kd.R_slice HO_5.out;subst eo31;have p331:0≤(x10_3:Int):=of_decide_eq_true (by first|(with_reducible assumption)|assumption);have q331:x10_3<(t321.length:Int):=of_decide_eq_true (by first|(with_reducible assumption)|assumption);obtain ⟨ad331,e331,hx331_0⟩:=Kd.at_int (Kd.R_reads' HO_5.out).2.2 x10_3 p331 q331;cases e331;replace p331:=eq_true p331;replace q331:=eq_true q331))
               go_ret
               exact ⟨by first|rfl|(simp [errW_none,errW_some]<;>rfl)|(simp [*,errW_none,errW_some]<;>rfl)|(simp [errW_none,errW_some];exact ⟨rfl,rfl⟩),by repeat (first|(with_reducible first|exact HB.out|apply yA|apply yB|apply yC)|exact HB.out)⟩
             ·rw [if_neg c26] at H
              exact absurd H (by simp)
            ·rw [if_neg c25] at H
             exact absurd H (by simp)
          ·replace c21:=Bool.eq_false_iff.mpr c21
           subst c21
           have H1:(laws_FnTermList.l0 k3 t319 t320 t321 x10_3 (wrap64 (x11_3+1)))=some r:=by rw [if_neg (show ¬ (false=true) by decide)] at H;exact H
           clear H
           have H:=H1
           clear H1
           have H':=Aside0.mk H
           clear H
           go_wp2_with (first|((with_reducible refine gate_callee (f:=11) rfl ?_);refine goesL_ (some 54) rfl rfl Try.func11 (by kernel_rfl) rfl #[.string t319,.int .i64 x11_3] rfl (by (try simp only [List.map_toArray,List.map_cons,List.map_nil]);first|done|rfl|(simp only [List.length_drop,List.length_take];rfl)) ?_;(with_reducible refine (impl_TermHas.calls t319 x11_3 false _ A20.out).mono ?_);rintro e w32 ⟨rfl,hb⟩;refine ⟨_,rfl,?_⟩;have n0_:=Aside0.mk (Kd.R_below (by (with_reducible repeat (first|apply yH|apply yI|apply yJ));exact HO_5.out) hb);have n1_:=Aside0.mk (yP (by repeat (first|(with_reducible first|exact HB.out|apply yA|apply yB|apply yC)|exact HB.out)) hb);clear HO_5;clear HB;have HO_5:=n0_;have HB:=n1_;clear n0_ n1_;(try clear hb);(try clear hb2);(try clear hk);(try clear hi)))
           go_roundg k3
           case measure=>have:=HJ5.out;have:=HJ15.out;have:=HK3.out;omega
           case rel=>exact ⟨(x10_3),(wrap64 (x11_3+1)),(by first|rfl|(simp;done)|(simp [*];done)|(simp [Int.tmod_eq_emod_of_nonneg];done)),(by first|rfl|(simp;done)|(simp [*];done)|(simp [Int.tmod_eq_emod_of_nonneg];done)),H',⟨by have:=HJ5.out;have:=HJ15.out;have:=HK3.out;omega⟩,⟨by (with_reducible repeat (first|apply yH|apply yI|apply yJ));exact HO_5.out⟩,⟨by repeat (first|(with_reducible first|exact HB.out|apply yA|apply yB|apply yC)|exact HB.out)⟩⟩
         ·rw [if_neg c19] at H
          have c19b0:decide (x11_3<t320)=false:=decide_eq_false c19
          clear c19
          obtain rfl:=Option.some.inj H
          obtain ⟨Ao33,co33,eo33⟩:=Kd.R_slice HO_5.out
          subst eo33
          go_wp2
          go_ret
          exact ⟨by first|rfl|(simp [errW_none,errW_some]<;>rfl)|(simp [*,errW_none,errW_some]<;>rfl)|(simp [errW_none,errW_some];exact ⟨rfl,rfl⟩),by repeat (first|(with_reducible first|exact HB.out|apply yA|apply yB|apply yC)|exact HB.out)⟩

/-- THE ONE PURE STATEMENT of laws_FnTermList: yours. -/
noncomputable def laws_FnTermList.Pure:Prop:=∀ (l0:List Int),l0.length≤maxLen→l0.length * 1≤140737488351232→(∀ x ∈ l0,(Lit.int .u8 x).wf=true)→∃ k,laws_FnTermList.f k l0=some true
theorem laws_FnTermList.walk (P:laws_FnTermList.Pure) (a0:Option Addr) (len0 cap0:Nat) (z0:List Int) (w:World) (w0:(a0=none∧len0=0∧cap0=0∧z0=[]) ∨ ∃ x,a0=some x∧len0≤cap0∧cap0≤maxLen∧z0.length=cap0∧(∀ i,i<z0.length→w.cell? (x.add i)=some (.int .u8 (z0.getD i 0)))∧∀ n ∈ z0,(Lit.int .u8 n).wf=true) (y0:len0 * 1≤140737488351232) :
  Calls Try.prog 6 #[.slice a0 len0 cap0] w fun e w'=>e=.returned (.bool true)∧Below w.heap.size w w':=by
 obtain ⟨l0,rfl,hr0,hm0,hw0,hc0⟩:=ReadsInt.ofRowC w0
 obtain ⟨k,h⟩:=P l0 hm0 y0 hw0
 refine (laws_FnTermList.calls k _ _ l0 true w (Kd.C_of_reads (d:=(0:Int)) (h1:=fun _=>rfl) hr0) hc0 h).mono ?_
 rintro e w' ⟨rfl,hd⟩
 exact ⟨rfl,hd⟩

end Go.Proofs.Ytjjnckgdpdelkaa.P

-- spec.DrawTermList draws a text of few signs.
namespace Go.Proofs.Ytjjnckgdpdelkaa.P
open Go.RowKit Go.Proofs.YtjjnckgdpdelkaaW.PrintWords Go.Proofs.YtjjnckgdpdelkaaW.PrintLast Go.Proofs.YtjjnckgdpdelkaaW.PrintMore
set_option linter.unusedVariables false
set_option linter.unusedSimpArgs false

theorem drawTermList_f (l : List Int) (h : ∀ x ∈ l, (Lit.int .u8 x).wf = true) : ∃ (s : ByteArray) (n : Int), s.size ≤ 30 ∧ Ev (fun k => spec_DrawTermList.f k l) (s, n) := by
  obtain ⟨s, q, hf, hq, K0, h0⟩ := said91_f (code_of h)
  dsimp only at h0
  obtain ⟨v1, hv1, K1, h1⟩ := pick_f (code_of h) q 30 (by omega) (by omega) (by omega)
  dsimp only at h1
  have g1 : ∀ k, K1 ≤ k → spec_l6Rd_pick.f k (l.take 2000) (q : Int) 30 = some ((v1 : Int), ((q + 1 : Nat) : Int)) := h1
  obtain ⟨v2, hv2, K2, h2⟩ := pick_f (code_of h) (q + 1) 201 (by omega) (by omega) (by omega)
  dsimp only at h2
  have g2 : ∀ k, K2 ≤ k → spec_l6Rd_pick.f k (l.take 2000) ((q + 1 : Nat) : Int) 201 = some ((v2 : Int), ((q + 1 + 1 : Nat) : Int)) := h2
  obtain ⟨v3, hv3, K3, h3⟩ := pick_f (code_of h) (q + 1 + 1) 5 (by omega) (by omega) (by omega)
  dsimp only at h3
  have g3 : ∀ k, K3 ≤ k → spec_l6Rd_pick.f k (l.take 2000) ((q + 1 + 1 : Nat) : Int) 5 = some ((v3 : Int), ((q + 1 + 1 + 1 : Nat) : Int)) := h3
  refine ⟨s, rd [(v1 : Int), (v2 : Int), 200, 201, (-1)] (v3 : Int), hf, K0 + K1 + K2 + K3, fun k hk => ?_⟩
  try dsimp only
  unfold spec_DrawTermList.f
  rw [open_f, Option.bind_some, h0 k (by omega), Option.bind_some, g1 k (by omega), Option.bind_some, g2 k (by omega), Option.bind_some, Option.bind_some, g3 k (by omega), Option.bind_some, if_pos (by omega), if_pos (by simp; omega)]
end Go.Proofs.Ytjjnckgdpdelkaa.P

-- For every code the law FnTermList holds.
namespace Go.Proofs.Ytjjnckgdpdelkaa.P
open Go.RowKit Go.Proofs.YtjjnckgdpdelkaaW.PrintWords Go.Proofs.YtjjnckgdpdelkaaW.PrintLast Go.Proofs.YtjjnckgdpdelkaaW.PrintMore
set_option linter.unusedVariables false
set_option linter.unusedSimpArgs false

theorem same_l0 (l : List Int) (hl : l.length ≤ 1000000) : ∀ (d i : Nat), i ≤ l.length → l.length - i = d → Ev (fun k => laws_sameInts.l0 k l l i) true := by
  intro d
  induction d with
  | zero =>
    intro i hi hd
    refine Ev.step (f := fun k => some true) (fun k => ?_) (Ev.now _)
    simp only [laws_sameInts.l0]; rw [if_neg (by omega)]
  | succ d ih =>
    intro i hi hd
    refine Ev.step (fun k => ?_) (ih (i + 1) (by omega) (by omega))
    simp only [laws_sameInts.l0]
    rw [if_pos (by omega), if_pos (by omega), if_pos (by omega), if_pos (by trivial), wsucc (by omega)]
theorem sameInts_f (l : List Int) (hl : l.length ≤ 1000000) : Ev (fun k => laws_sameInts.f k l l) true := by
  obtain ⟨K, h⟩ := same_l0 l hl _ 0 (Nat.zero_le _) rfl
  have g : ∀ k, K ≤ k → laws_sameInts.l0 k l l 0 = some true := h
  refine ⟨K, fun k hk => ?_⟩
  dsimp only
  unfold laws_sameInts.f
  rw [if_pos rfl, g k hk]
theorem lstq_pre (f : Nat → Bool) (i : Nat) : ∀ d, ∃ r, lstq f (i + d) = lstq f i ++ r
  | 0 => ⟨[], by rw [Nat.add_zero, List.append_nil]⟩
  | d + 1 => by
    obtain ⟨r, hr⟩ := lstq_pre f i d
    rw [← Nat.add_assoc, lstq_succ]
    split
    · exact ⟨r ++ [((i + d : Nat) : Int)], by rw [hr, List.append_assoc]⟩
    · exact ⟨r, hr⟩
theorem termList_l0 (s : ByteArray) (hs : s.size ≤ 70368744177664) (f : Nat → Bool) (n : Nat) (hn : n ≤ 200) (hf : ∀ i : Nat, i < n → trh (chrs s) i = f i) : ∀ (d i : Nat), n - i = d → i ≤ n → Ev (fun k => laws_FnTermList.l0 k s n (lstq f n) ((lstq f i).length : Int) i) true := by
  intro d
  induction d with
  | zero =>
    intro i hd hi
    obtain rfl : i = n := by omega
    refine Ev.step (f := fun k => some true) (fun k => ?_) (Ev.now _)
    simp only [laws_FnTermList.l0]; rw [if_neg (by omega), BEq.rfl]
  | succ d ih =>
    intro i hd hi
    have hl := lstq_length f i
    refine Ev.step (fun k => ?_) (ih (i + 1) (by omega) (by omega))
    simp only [laws_FnTermList.l0]
    rw [if_pos (by omega), termHas_f s _ hs, Option.bind_some, hf i (by omega), wsucc (i := (lstq f i).length) (by omega), wsucc (i := i) (by omega)]
    cases hfi : f i with
    | false =>
      have e2 : lstq f (i + 1) = lstq f i := by rw [lstq_succ, hfi, if_neg (by decide)]
      rw [if_neg (by decide), e2]
    | true =>
      have e2 : lstq f (i + 1) = lstq f i ++ [(i : Int)] := by rw [lstq_succ, hfi, if_pos rfl]
      obtain ⟨r, hr⟩ := lstq_pre f (i + 1) (n - (i + 1))
      rw [show i + 1 + (n - (i + 1)) = n by omega, e2, List.append_assoc] at hr
      have hlt : (lstq f i).length < (lstq f n).length := by rw [hr]; simp
      have hrd : rd (lstq f n) ((lstq f i).length : Int) = (i : Int) := by
        rw [hr]; simp [rd]
      rw [if_pos (by trivial), if_neg (by omega), if_pos (by omega), if_pos (by omega), if_pos hrd, e2, List.length_append]
      rfl
theorem lawTermList_ev (l : List Int) (h : ∀ x ∈ l, (Lit.int .u8 x).wf = true) : Ev (fun k => laws_FnTermList.f k l) true := by
  by_cases hl : (l.length : Int) > 1048576
  · exact ⟨0, fun k _ => by dsimp only; unfold laws_FnTermList.f; rw [if_pos hl]⟩
  · obtain ⟨s, n, hz, K1, h1⟩ := drawTermList_f l h
    dsimp only at h1
    obtain ⟨K2, h2⟩ := stermList_f s n
    dsimp only at h2
    have h3 := termList_f s n (by omega)
    obtain ⟨K4, h4⟩ := sameInts_f (trl (chrs s) n).1 (Nat.le_trans (trl_len _ _) (by omega))
    dsimp only at h4
    have main : Ev (fun k => laws_FnTermList.j0 k s n (trl (chrs s) n).1 (trl (chrs s) n).2 true) true := by
      cases hb : (trl (chrs s) n).2 with
      | false =>
        refine ⟨2, fun k hk => ?_⟩
        obtain ⟨k, rfl⟩ : ∃ j, k = j + 2 := ⟨k - 2, by omega⟩
        simp only [laws_FnTermList.j0]
        rw [if_pos (by trivial)]
        simp only [laws_FnTermList.j1]
        rw [if_pos (by decide)]
      | true =>
        have hq : ∃ f m, n = ((m : Nat) : Int) ∧ m ≤ 200 ∧ (trl (chrs s) n).1 = lstq f m ∧ ∀ i : Nat, i < m → trh (chrs s) i = f i := by
          unfold trl at hb ⊢
          unfold trh
          cases hT : trm (chrs s) with
          | none => rw [hT] at hb; cases hb
          | some t =>
            rw [hT] at hb
            dsimp only at hb ⊢
            by_cases hn : 0 ≤ n ∧ n ≤ 200
            · rw [if_pos hn]
              exact ⟨tsem t, n.toNat, by omega, by omega, rfl, fun i hi => by rw [decide_eq_true (by omega), Int.toNat_natCast]; rfl⟩
            · rw [if_neg hn] at hb; cases hb
        obtain ⟨f, m, rfl, hm, hL, hF⟩ := hq
        rw [hL]
        obtain ⟨K, hK⟩ := termList_l0 s (by omega) f m hm hF _ 0 rfl (by omega)
        have g : ∀ k, K ≤ k → laws_FnTermList.l0 k s m (lstq f m) 0 0 = some true := hK
        refine ⟨K + 2, fun k hk => ?_⟩
        obtain ⟨k, rfl⟩ : ∃ j, k = j + 2 := ⟨k - 2, by omega⟩
        simp only [laws_FnTermList.j0]
        rw [if_pos (by trivial)]
        simp only [laws_FnTermList.j1]
        rw [if_neg (by decide)]
        exact g k (by omega)
    obtain ⟨K5, h5⟩ := main
    dsimp only at h5
    refine ⟨K1 + K2 + K4 + K5, fun k hk => ?_⟩
    dsimp only
    unfold laws_FnTermList.f
    rw [if_neg hl, h1 k (by omega), Option.bind_some]
    dsimp only
    rw [h3, Option.bind_some, h2 k (by omega), Option.bind_some, h4 k (by omega), Option.bind_some, if_pos (by trivial), BEq.rfl]
    exact h5 k (by omega)
theorem lawTermList_pure : laws_FnTermList.Pure := fun l _ _ h => (lawTermList_ev l h).rounds
end Go.Proofs.Ytjjnckgdpdelkaa.P

-- For every code the law FnTermList holds.
namespace Go.Proofs.Ytjjnckgdpdelkaa.Pure
theorem FnTermList : Go.Proofs.Ytjjnckgdpdelkaa.P.laws_FnTermList.Pure := Go.Proofs.Ytjjnckgdpdelkaa.P.lawTermList_pure
end Go.Proofs.Ytjjnckgdpdelkaa.Pure
