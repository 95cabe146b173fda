/- What these laws reach, joined by a program of this session: contracts (written by that program over the kit's print, or by hand) and plain lemmas. -/
import Derived.Test.YtneadgionjlicaaK1
import Derived.Test.YtneadgionjlicaaK2
open Go.Proofs.YtneadgionjlicaaW.PrintWords renaming below_alloc → yA, pw_below_drewN → yB, below_drew1 → yC, below_set → yD, blk_drewN → yE, blk_drew → yF, blk_alloc → yG, below_step → yP, below_size → yQ
open Go.Proofs.YtneadgionjlicaaW.PrintWords.Kd renaming R_alloc → yH, R_drewN → yI, R_drew → yJ
open List renaming setIfInBounds_toArray → yK, set_cons_zero → yL, set_cons_succ → yM
namespace Go.Proofs.Ytneadgionjlicaa.P
open Go.RowKit Go.Proofs.YtneadgionjlicaaW.PrintWords Go.Proofs.YtneadgionjlicaaW.PrintLast Go.Proofs.YtneadgionjlicaaW.PrintMore
attribute [local go_sem] max2_int min2_int max_two min_two max_three min_three max_four min_four   -- for this text's walks alone
set_option linter.unusedVariables false
set_option linter.unusedSimpArgs false

/-! ### spec_l91Machine: function 37 -/
mutual
def spec_l91Machine.l0:Nat→Int→Bool→Int→List Int→Int→List Int→Int→Int→Option (List Int × Int × Int × Int)
 | 0,_,_,_,_,_,_,_,_=>none
 | k+1,x3,x5,x6,x1000,x1001,x409000,x409001,x409002=>if x6<x3 then (if x5=true then ((spec_l6Rd_pick.f k x1000 x1001 x3).bind fun bt411=>(if 0≤bt411.1 then (if x409000.length<17592186044416 then (spec_l91Machine.l0 k x3 x5 (wrap64 (x6+1)) x1000 bt411.2 (x409000++[shl .i64 1 bt411.1]) x409001 x409002) else (none)) else (none))) else (if 0≤x3 then ((spec_l6Rd_pick.f k x1000 x1001 (shl .i64 1 x3)).bind fun bt416=>((spec_l6Rd_pick.f k x1000 bt416.2 (shl .i64 1 x3)).bind fun bt418=>(if x409000.length<17592186044416 then (spec_l91Machine.l0 k x3 x5 (wrap64 (x6+1)) x1000 bt418.2 (x409000++[Go.bits .and .i64 bt416.1 bt418.1]) x409001 x409002) else (none)))) else (none))) else (if x5=true then ((spec_l6Rd_pick.f k x1000 x1001 x3).bind fun bt423=>(if 0≤bt423.1 then (spec_l91Machine.j1 k x3 x1000 bt423.2 x409000 (shl .i64 1 bt423.1) x409002) else (none))) else (spec_l91Machine.j1 k x3 x1000 x1001 x409000 x409001 x409002))
def spec_l91Machine.j1:Nat→Int→List Int→Int→List Int→Int→Int→Option (List Int × Int × Int × Int)
 | 0,_,_,_,_,_,_=>none
 | k+1,x3,x1000,x1001,x409000,x409001,x409002=>(spec_l6Rd_pick.f k x1000 x1001 20).bind fun bt425=>(if bt425.1=0 then (if 0≤x3 then ((some (([(-1),shl .i64 1 x3]:List Int):List Int)).bind fun y427=>((spec_l6Rd_pick.f k x1000 bt425.2 2).bind fun bt430=>(if 0≤bt430.1 then (if bt430.1<(y427.length:Int) then (some (x409000,x409001,rd y427 bt430.1,bt430.2)) else (none)) else (none)))) else (none)) else (if bt425.1=1 then ((some (([1,1,1,1,1]:List Int):List Int)).bind fun y433=>(if x409000.length+y433.length<17592186044416 then (some ((x409000++y433),x409001,x409002,bt425.2)) else (none))) else (if bt425.1=2 then (some ((([]:List Int)),x409001,x409002,bt425.2)) else (some (x409000,x409001,x409002,bt425.2)))))
end
def spec_l91Machine.f (k:Nat) (s0_0:List Int) (s0_1:Int):Option (List Int × Int × Int × Int):=(spec_l6Rd_pick.f k s0_0 s0_1 5).bind fun bt399=>(if 0≤(wrap64 (1+bt399.1)) then ((spec_l6Rd_pick.f k s0_0 bt399.2 (shl .i64 1 (wrap64 (1+bt399.1)))).bind fun bt404=>((spec_l6Rd_pick.f k s0_0 bt404.2 (shl .i64 1 (wrap64 (1+bt399.1)))).bind fun bt406=>((spec_l6Rd_pick.f k s0_0 bt406.2 2).bind fun bt409=>(spec_l91Machine.l0 k (wrap64 (1+bt399.1)) (bt409.1 == 0) 0 s0_0 bt409.2 (([]:List Int)) bt404.1 bt406.1)))) else (none))
theorem spec_l91Machine.mono_l:∀ k,(∀ y0 y1 y2 y3 y4 y5 y6 y7,LeO (spec_l91Machine.l0 k y0 y1 y2 y3 y4 y5 y6 y7) (spec_l91Machine.l0 (k+1) y0 y1 y2 y3 y4 y5 y6 y7))∧(∀ y0 y1 y2 y3 y4 y5,LeO (spec_l91Machine.j1 k y0 y1 y2 y3 y4 y5) (spec_l91Machine.j1 (k+1) y0 y1 y2 y3 y4 y5))
 | 0=>⟨fun _ _ _ _ _ _ _ _ r h=>by simp [spec_l91Machine.l0] at h,fun _ _ _ _ _ _ r h=>by simp [spec_l91Machine.j1] at h⟩
 | k+1=>by
  obtain ⟨ih0,ih1⟩:=spec_l91Machine.mono_l k
  refine ⟨?_,?_⟩
  ·intro y0 y1 y2 y3 y4 y5 y6 y7
   unfold spec_l91Machine.l0
   repeat' first
   | (with_reducible exact ih0 _ _ _ _ _ _ _ _)
   | (with_reducible exact ih1 _ _ _ _ _ _)
   | (with_reducible exact spec_l6Rd_pick.mono _ _ _ _)
   | (with_reducible exact LeO.refl _)
   | (with_reducible exact LeO.none _)
   | (with_reducible refine LeO.ite ?_ ?_)
   | (with_reducible refine LeO.bind ?_ (fun _=>?_))
   | exact ih0 _ _ _ _ _ _ _ _
   | exact ih1 _ _ _ _ _ _
   | exact spec_l6Rd_pick.mono _ _ _ _
   | exact LeO.none _
   | refine LeO.ite ?_ ?_
   | refine LeO.bind ?_ (fun _=>?_)
  ·intro y0 y1 y2 y3 y4 y5
   unfold spec_l91Machine.j1
   repeat' first
   | (with_reducible exact ih0 _ _ _ _ _ _ _ _)
   | (with_reducible exact ih1 _ _ _ _ _ _)
   | (with_reducible exact spec_l6Rd_pick.mono _ _ _ _)
   | (with_reducible exact LeO.refl _)
   | (with_reducible exact LeO.none _)
   | (with_reducible refine LeO.ite ?_ ?_)
   | (with_reducible refine LeO.bind ?_ (fun _=>?_))
   | exact ih0 _ _ _ _ _ _ _ _
   | exact ih1 _ _ _ _ _ _
   | exact spec_l6Rd_pick.mono _ _ _ _
   | exact LeO.none _
   | refine LeO.ite ?_ ?_
   | refine LeO.bind ?_ (fun _=>?_)
theorem spec_l91Machine.mono:∀ a0 a1 k,LeO (spec_l91Machine.f k a0 a1) (spec_l91Machine.f (k+1) a0 a1):=by
 intro a0 a1 k
 obtain ⟨ih0,ih1⟩:=spec_l91Machine.mono_l k
 unfold spec_l91Machine.f
 repeat' first
   | (with_reducible exact ih0 _ _ _ _ _ _ _ _)
   | (with_reducible exact ih1 _ _ _ _ _ _)
   | (with_reducible exact spec_l6Rd_pick.mono _ _ _ _)
   | (with_reducible exact LeO.refl _)
   | (with_reducible exact LeO.none _)
   | (with_reducible refine LeO.ite ?_ ?_)
   | (with_reducible refine LeO.bind ?_ (fun _=>?_))
   | exact ih0 _ _ _ _ _ _ _ _
   | exact ih1 _ _ _ _ _ _
   | exact spec_l6Rd_pick.mono _ _ _ _
   | exact LeO.none _
   | refine LeO.ite ?_ ?_
   | refine LeO.bind ?_ (fun _=>?_)
def spec_l91Machine.T2:Bool × List (List Nat × List Nat):=(true,[([],[]),([],[]),([],[]),([2],[2]),([1,3],[1,3]),([],[]),([],[]),([6],[6]),([5,7,4],[5,7]),([0,4,8],[0,4,8]),([],[]),([10,9,8,0,1,2,3,4,5,6,7,8,9,10],[9,10])])
def spec_l91Machine.B2:List Nat:=[0,0,0,4,14,0,0,64,254,511,0,2047]
theorem spec_l91Machine.tab2:rtab .any (opsOf Try.f37 2)=spec_l91Machine.T2:=by kernel_rfl
theorem spec_l91Machine.bits2:waitsOk spec_l91Machine.T2.2 spec_l91Machine.B2=true:=by kernel_rfl
def spec_l91Machine.T8:Bool × List (List Nat × List Nat):=(true,[([],[]),([0],[0]),([],[]),([],[]),([2,3],[2,3]),([4],[4]),([5],[5]),([1,6,4],[1,6]),([0,1,2,3,4,5,6,7],[]),([8,7,7,0,1,2,3,4,5,6,7],[7,8])])
def spec_l91Machine.B8:List Nat:=[0,1,0,0,12,28,60,127,255,511]
theorem spec_l91Machine.tab8:rtab .any (opsOf Try.f37 8)=spec_l91Machine.T8:=by kernel_rfl
theorem spec_l91Machine.bits8:waitsOk spec_l91Machine.T8.2 spec_l91Machine.B8=true:=by kernel_rfl
def spec_l91Machine.T9:Bool × List (List Nat × List Nat):=(true,[([],[]),([0],[0]),([],[]),([],[]),([3],[3]),([2,4],[2,4]),([],[]),([],[]),([7],[7]),([6,8,5],[6,8]),([5,9],[5,9]),([10],[10]),([1,11,9],[1,11]),([0,1,2,3,4,5,6,7,8,9,10,11,12],[]),([13,12,12,0,1,2,3,4,5,6,7,8,9,10,11,12],[12,13])])
def spec_l91Machine.B9:List Nat:=[0,1,0,0,8,28,0,0,128,508,1020,2044,4095,8191,16383]
theorem spec_l91Machine.tab9:rtab .any (opsOf Try.f37 9)=spec_l91Machine.T9:=by kernel_rfl
theorem spec_l91Machine.bits9:waitsOk spec_l91Machine.T9.2 spec_l91Machine.B9=true:=by kernel_rfl
def spec_l91Machine.T14:Bool × List (List Nat × List Nat):=(true,[([],[]),([0],[0]),([1],[1]),([],[]),([3],[3]),([2,4],[2,4]),([5],[5]),([0,1,2,3,4,5,6],[]),([7,6,4,0,1,2,3,4,5,6],[6,7])])
def spec_l91Machine.B14:List Nat:=[0,1,3,0,8,31,63,127,255]
theorem spec_l91Machine.tab14:rtab .any (opsOf Try.f37 14)=spec_l91Machine.T14:=by kernel_rfl
theorem spec_l91Machine.bits14:waitsOk spec_l91Machine.T14.2 spec_l91Machine.B14=true:=by kernel_rfl
set_option maxHeartbeats 8000000 in
set_option maxRecDepth 100000 in
theorem spec_l91Machine.calls (k:Nat) (g:Nat) (s0_0:List Int) (s0_1:Int) (r1:List Int) (r2:Int) (r3:Int) (r4:Int) (w0 w:World) (hI:IsS74 w0 w g s0_0 s0_1) (hB:Below w0.heap.size w0 w) (h:spec_l91Machine.f k s0_0 s0_1=some (r1,r2,r3,r4)) :
  Calls Try.prog 37 #[.pointer (some ⟨g,0,none⟩)] w fun e w'=>∃ v0_:Value,e=.returned (.agg #[v0_,.int .i64 r2,.int .i64 r3])∧Kd.R (Kd.int .i64) 3 w' w.heap.size (fun _=>True) v0_ r1∧IsS74 w0 w' g s0_0 r4∧Below w0.heap.size w0 w'∧KeepBut w w' g none:=by
 have hu31:=Try.underlying31
 have HI0:=Aside0.mk hI
 have HK:=Aside0.mk (KeepBut.refl w g none)
 have HL:=Aside0.mk hB.size
 clear hI
 have HW0:=Aside0.mk hB.size
 have HB:=Aside0.mk hB
 clear hB
 have H:((spec_l6Rd_pick.f k s0_0 s0_1 5).bind fun bt399=>(if 0≤(wrap64 (1+bt399.1)) then ((spec_l6Rd_pick.f k s0_0 bt399.2 (shl .i64 1 (wrap64 (1+bt399.1)))).bind fun bt404=>((spec_l6Rd_pick.f k s0_0 bt404.2 (shl .i64 1 (wrap64 (1+bt399.1)))).bind fun bt406=>((spec_l6Rd_pick.f k s0_0 bt406.2 2).bind fun bt409=>(spec_l91Machine.l0 k (wrap64 (1+bt399.1)) (bt409.1 == 0) 0 s0_0 bt409.2 (([]:List Int)) bt404.1 bt406.1)))) else (none)))=some (r1,r2,r3,r4):=h
 clear h
 replace H:=Option.bind_eq_some_iff.mp H
 obtain ⟨⟨t399,t400⟩,A20,H⟩:=H
 replace H:(if 0≤(wrap64 (1+t399)) then ((spec_l6Rd_pick.f k s0_0 t400 (shl .i64 1 (wrap64 (1+t399)))).bind fun bt404=>((spec_l6Rd_pick.f k s0_0 bt404.2 (shl .i64 1 (wrap64 (1+t399)))).bind fun bt406=>((spec_l6Rd_pick.f k s0_0 bt406.2 2).bind fun bt409=>(spec_l91Machine.l0 k (wrap64 (1+t399)) (bt409.1 == 0) 0 s0_0 bt409.2 (([]:List Int)) bt404.1 bt406.1)))) else (none))=some (r1,r2,r3,r4):=H
 have A2:=Aside0.mk A20
 clear A20
 obtain ⟨y401,hy401⟩:∃ y_:List Int,y_=(([]:List Int)):=⟨_,rfl⟩
 replace H:(if 0≤(wrap64 (1+t399)) then ((spec_l6Rd_pick.f k s0_0 t400 (shl .i64 1 (wrap64 (1+t399)))).bind fun bt404=>((spec_l6Rd_pick.f k s0_0 bt404.2 (shl .i64 1 (wrap64 (1+t399)))).bind fun bt406=>((spec_l6Rd_pick.f k s0_0 bt406.2 2).bind fun bt409=>(spec_l91Machine.l0 k (wrap64 (1+t399)) (bt409.1 == 0) 0 s0_0 bt409.2 y401 bt404.1 bt406.1)))) else (none))=some (r1,r2,r3,r4):=by first|(rw [hy401];with_reducible exact H)|(have H2_:=(Option.bind_some _ _).symm.trans H;rw [hy401];with_reducible exact H2_)|(have H2_:=(Option.bind_some _ _).symm.trans H;with_reducible exact H2_)|with_reducible exact H|(rw [hy401];exact H)|exact H
 have Ny401:=Aside0.mk hy401
 clear hy401
 obtain ⟨ji3,hji3⟩:∃ j_:Int,(wrap64 (1+t399))=j_:=⟨_,rfl⟩
 replace H:(if 0≤(ji3) then ((spec_l6Rd_pick.f k s0_0 t400 (shl .i64 1 (ji3))).bind fun bt404=>((spec_l6Rd_pick.f k s0_0 bt404.2 (shl .i64 1 (ji3))).bind fun bt406=>((spec_l6Rd_pick.f k s0_0 bt406.2 2).bind fun bt409=>(spec_l91Machine.l0 k ji3 (bt409.1 == 0) 0 s0_0 bt409.2 y401 bt404.1 bt406.1)))) else (none))=some (r1,r2,r3,r4):=by first|(rw [hji3] at H;exact H)|(simp only [hji3] at H ⊢;exact H)
 (try rw [hji3] at A2)
 have hji3w:(IntKind.i64.wrap (1+t399))=ji3:=(i64_w _).trans hji3
 by_cases c4:0≤(ji3)
 ·rw [if_pos c4] at H
  have c4b0:=eq_true c4
  have c4b1:decide (0≤(ji3))=true:=decide_eq_true c4
  clear c4
  obtain ⟨ji5,hji5⟩:∃ j_:Int,(shl .i64 1 (ji3))=j_:=⟨_,rfl⟩
  replace H:((spec_l6Rd_pick.f k s0_0 t400 (ji5)).bind fun bt404=>((spec_l6Rd_pick.f k s0_0 bt404.2 (ji5)).bind fun bt406=>((spec_l6Rd_pick.f k s0_0 bt406.2 2).bind fun bt409=>(spec_l91Machine.l0 k ji3 (bt409.1 == 0) 0 s0_0 bt409.2 y401 bt404.1 bt406.1))))=some (r1,r2,r3,r4):=by first|(rw [hji5] at H;exact H)|(simp only [hji5] at H ⊢;exact H)
  (try rw [hji5] at A2)
  have hji5_:(IntKind.i64.wrap (1 * 2 ^ min (ji3).toNat 64))=ji5:=hji5
  have hji5z:(ji3)≤64→(IntKind.i64.wrap (1 * 2 ^ (ji3).toNat))=ji5:=shl_small hji5
  have hji5u:(IntKind.i64.wrap (2 ^ min (ji3).toNat 64))=ji5:=by have h_:=hji5_;rw [Int.one_mul] at h_;exact h_
  have hji5v:(ji3)≤64→(IntKind.i64.wrap (2 ^ (ji3).toNat))=ji5:=fun hle_=>by have h_:=hji5z hle_;rw [Int.one_mul] at h_;exact h_
  have hji5y:(wrap64 (1 * 2 ^ min (ji3).toNat 64))=ji5:=(i64_w _).symm.trans hji5_
  have hji5x:(ji3)≤64→(wrap64 (1 * 2 ^ (ji3).toNat))=ji5:=fun h_=>(i64_w _).symm.trans (hji5z h_)
  replace H:=Option.bind_eq_some_iff.mp H
  obtain ⟨⟨t404,t405⟩,A60,H⟩:=H
  replace H:((spec_l6Rd_pick.f k s0_0 t405 (ji5)).bind fun bt406=>((spec_l6Rd_pick.f k s0_0 bt406.2 2).bind fun bt409=>(spec_l91Machine.l0 k ji3 (bt409.1 == 0) 0 s0_0 bt409.2 y401 t404 bt406.1)))=some (r1,r2,r3,r4):=H
  have A6:=Aside0.mk A60
  clear A60
  have c7b0:=eq_true (of_decide_eq_true (by first|(with_reducible assumption)|assumption):0≤(ji3))
  replace H:=Option.bind_eq_some_iff.mp H
  obtain ⟨⟨t406,t407⟩,A90,H⟩:=H
  replace H:((spec_l6Rd_pick.f k s0_0 t407 2).bind fun bt409=>(spec_l91Machine.l0 k ji3 (bt409.1 == 0) 0 s0_0 bt409.2 y401 t404 t406))=some (r1,r2,r3,r4):=H
  have A9:=Aside0.mk A90
  clear A90
  replace H:=Option.bind_eq_some_iff.mp H
  obtain ⟨⟨t409,t410⟩,A100,H⟩:=H
  replace H:(spec_l91Machine.l0 k ji3 (t409 == 0) 0 s0_0 t410 y401 t404 t406)=some (r1,r2,r3,r4):=H
  have A10:=Aside0.mk A100
  clear A100
  have H':=Aside0.mk H
  clear H
  go_enter Try.func37,Try.ntmps37
  try go_wp2_with (first|((with_reducible refine gate_dst (N:=2) rfl ?_);refine box_event ?hg (N:=2) ?hd (cs:=#[.slice none 0 0,.int .i64 0,.int .i64 0]) (t:=31) ?hr ?_;(case hd=>rfl);(case hg=>rfl);(case hr=>first|(go_simp;done)|(go_simp;rfl));intro gb398 hg w11 hbox hb;have n0_:=Aside0.mk (IsS74.below (by repeat (first|(with_reducible first|exact HI0.out|apply IsS74.alloc|apply IsS74.drewN|apply IsS74.drew|apply IsS74.set_1)|exact HI0.out)) hb);have n1_:=Aside0.mk (KeepBut.trans (by repeat (first|(with_reducible first|exact HK.out|apply KeepBut.set_|apply keep_drewN|apply keep_drew|apply keep_alloc)|exact HK.out)) (KeepBut.of_below hb g none) (.inl rfl));have n2_:=Aside0.mk (yP (by repeat (first|(with_reducible first|exact HB.out|apply yA|apply yB|apply yC|refine yD ?_ (IsS74.ge HI0.out))|exact HB.out)) hb);have n3_:=Aside0.mk (hbox);have n4_:=Aside0.mk ((by rw [hg];exact (keep_size (w:=w) (g:=g) (row:=none) (by repeat (first|(with_reducible first|exact HK.out|apply KeepBut.set_|apply keep_drewN|apply keep_drew|apply keep_alloc)|exact HK.out))):w.heap.size≤gb398));have n5_:=Aside0.mk ((Nat.le_trans HW0.out (by rw [hg];exact (keep_size (w:=w) (g:=g) (row:=none) (by repeat (first|(with_reducible first|exact HK.out|apply KeepBut.set_|apply keep_drewN|apply keep_drew|apply keep_alloc)|exact HK.out))):w.heap.size≤gb398):w0.heap.size≤gb398));have n6_:=Aside0.mk ((by rw [hg];exact Nat.ne_of_lt (IsS74.lt (show IsS74 w0 _ g s0_0 s0_1 from by repeat (first|(with_reducible first|exact HI0.out|apply IsS74.alloc|apply IsS74.drewN|apply IsS74.drew|apply IsS74.set_1)|exact HI0.out))):g≠gb398));have n7_:=Aside0.mk ((by rw [hg];exact Nat.ne_of_gt (IsS74.lt (show IsS74 w0 _ g s0_0 s0_1 from by repeat (first|(with_reducible first|exact HI0.out|apply IsS74.alloc|apply IsS74.drewN|apply IsS74.drew|apply IsS74.set_1)|exact HI0.out))):gb398≠g));clear HI0;clear HK;clear HB;have HI0:=n0_;have HK:=n1_;have HB:=n2_;have BK398:=n3_;have GW398:=n4_;have GE398:=n5_;have NB0_398:=n6_;have NB398_0:=n7_;clear n0_ n1_ n2_ n3_ n4_ n5_ n6_ n7_;clear hb hbox hg)|((with_reducible refine gate_callee (f:=54) rfl ?_);refine goesL_ (some 8) rfl rfl Try.func54 (by kernel_rfl) rfl #[.pointer (some ⟨g,0,none⟩),.int .i64 5] rfl (by (try simp only [List.map_toArray,List.map_cons,List.map_nil]);first|done|rfl|(simp only [List.length_drop,List.length_take];rfl)) ?_;(with_reducible refine (spec_l6Rd_pick.calls k g s0_0 s0_1 5 t399 t400 w0 _ ?side1 ?side2 A2.out).mono ?_);(case side1=>repeat (first|(with_reducible first|exact HI0.out|apply IsS74.alloc|apply IsS74.drewN|apply IsS74.drew|apply IsS74.set_1|refine IsS74.far ?_ NB0_398.out _)|exact HI0.out));(case side2=>repeat (first|(with_reducible first|exact HB.out|apply yA|apply yB|apply yC|refine yD ?_ (IsS74.ge HI0.out)|refine yD ?_ GE398.out)|exact HB.out));rintro e w12 ⟨rfl,hi,hb,hk⟩;refine ⟨_,rfl,?_⟩;have n0_:=Aside0.mk (KeepBut.blk hk (g':=gb398) (o:=.cells #[.slice none 0 0,.int .i64 0,.int .i64 0] 31 (0,0)) (by (with_reducible repeat (first|refine yE ?_ _|refine yF ?_|refine yG ?_ _));exact BK398.out) NB398_0.out (by simp));have n1_:=Aside0.mk (KeepBut.trans (by repeat (first|(with_reducible first|exact HK.out|apply KeepBut.set_|apply keep_drewN|apply keep_drew|apply keep_alloc|refine keep_far ?_ GW398.out _)|exact HK.out)) hk (.inl rfl));have n2_:=Aside0.mk (hb);have n3_:=Aside0.mk (hi);clear BK398;clear HK;clear HB;clear HI0;have BK398:=n0_;have HK:=n1_;have HB:=n2_;have HI0:=n3_;clear n0_ n1_ n2_ n3_;(try clear hb);(try clear hb2);(try clear hk);(try clear hi)))
  have n0_:=Aside0.mk (yF BK398.out)
  have n1_:=Aside0.mk (IsS74.drew HI0.out)
  have n2_:=Aside0.mk (keep_drew HK.out)
  have n3_:=Aside0.mk (yC HB.out)
  clear BK398
  clear HI0
  clear HK
  clear HB
  have BK398:=n0_
  have HI0:=n1_
  have HK:=n2_
  have HB:=n3_
  clear n0_ n1_ n2_ n3_
  refine start_ (n:=12) (S:=fun w'=>True) (ds:=[]) #[false,false,false,false,false,false,false,false,false,false,false,false] (by kernel_rfl) rfl rfl trivial (fun hHeld=>?_);refine with_tabW spec_l91Machine.tab2 spec_l91Machine.bits2 (fun HT_ HW_=>?_)
  generalize w12.drew=w13 at BK398 HI0 HK HB hHeld ⊢
  refine pure_ (i:=1) (N:=some 11) (v:=?_) (a':=?_) #[false,true,false,false,false,false,false,false,false,false,false,false] rfl rfl (any_of HT_.out (by kernel_rfl)) (fun _ _ _ h=>h) (Or.inl ⟨by rfl,?_⟩) ?_ ?_
  rotate_left
  ·intro w'
   go_simp
   with_reducible rfl
  rotate_left
  ·simp only [Act.put,yK,yL,yM,i64_w,i32_w]
   rfl
  refine pure_ (i:=2) (N:=some 12) (v:=?_) (a':=?_) #[false,true,true,false,false,false,false,false,false,false,false,false] rfl rfl (any_of HT_.out (by kernel_rfl)) (fun _ _ _ h=>h) (Or.inl ⟨by rfl,?_⟩) ?_ ?_
  rotate_left
  ·intro w'
   go_simp
   with_reducible rfl
  rotate_left
  ·simp only [Act.put,yK,yL,yM,i64_w,i32_w]
   rfl
  refine pure_ (i:=3) (N:=some 13) (v:=?_) (a':=?_) #[false,true,true,true,false,false,false,false,false,false,false,false] rfl rfl (any_of HT_.out (by kernel_rfl)) (fun _ _ _ h=>h) (Or.inl ⟨by rfl,?_⟩) ?_ ?_
  rotate_left
  ·intro w'
   go_simp
   with_reducible rfl
  rotate_left
  ·simp only [Act.put,yK,yL,yM,i64_w,i32_w]
   rfl
  refine pure_ (i:=5) (N:=some 15) (v:=?_) (a':=?_) #[false,true,true,true,false,true,false,false,false,false,false,false] rfl rfl (any_of HT_.out (by kernel_rfl)) (fun _ _ _ h=>h) (Or.inl ⟨by rfl,?_⟩) ?_ ?_
  rotate_left
  ·intro w'
   go_simp
   with_reducible rfl
  rotate_left
  ·simp only [Act.put,yK,yL,yM,i64_w,i32_w]
   rfl
  refine pure_ (i:=6) (N:=some 16) (v:=?_) (a':=?_) #[false,true,true,true,false,true,true,false,false,false,false,false] rfl rfl (any_of HT_.out (by kernel_rfl)) (fun _ _ _ h=>h) (Or.inl ⟨by rfl,?_⟩) ?_ ?_
  rotate_left
  ·intro w'
   go_simp
   with_reducible rfl
  rotate_left
  ·simp only [Act.put,yK,yL,yM,i64_w,i32_w]
   rfl
  refine pure_ (i:=7) (N:=some 17) (v:=?_) (a':=?_) #[false,true,true,true,false,true,true,true,false,false,false,false] rfl rfl (any_of HT_.out (by kernel_rfl)) (fun _ _ _ h=>h) (Or.inl ⟨by rfl,?_⟩) ?_ ?_
  rotate_left
  ·intro w'
   go_simp
   with_reducible rfl
  rotate_left
  ·simp only [Act.put,yK,yL,yM,i64_w,i32_w]
   rfl
  refine join_ (σ:=Value × Nat) 1 #[true,true,true,true,true,true,true,true,true,true,true,false] (fun s_=>[(10,s_.1),(14,.int .i64 t404),(18,.int .i64 t406),(4,.pointer (some ⟨s_.2,0,none⟩)),(19,.agg #[s_.1,.int .i64 t404,.int .i64 t406])]) (fun s_ w'=>(Kd.R (Kd.int .i64) 3 w' w.heap.size (fun _=>True) s_.1 y401)∧(w'.heap[gb398]?=some (.cells #[.slice none 0 0,.int .i64 0,.int .i64 0] 31 (0,0)))∧(w'.heap[s_.2]?=some (.cells #[.slice none 0 0,.int .i64 0,.int .i64 0] 31 (0,0)))∧(w.heap.size≤s_.2)∧(w0.heap.size≤s_.2)∧(g≠s_.2)∧(s_.2≠g)∧(gb398≠s_.2)∧(s_.2≠gb398)∧(IsS74 w0 w' g s0_0 t407)∧(KeepBut w w' g none)∧(Below w0.heap.size w0 w')) ?_ ?_
  rotate_left
  ·intro hJ0_4_8_10
   refine join_ (σ:=Value) 2 #[true,true,true,true,true,true,true,true,true,true,false,false] (fun s_=>[(10,s_),(14,.int .i64 t404),(18,.int .i64 t406),(19,.agg #[s_,.int .i64 t404,.int .i64 t406])]) (fun s_ w'=>(Kd.R (Kd.int .i64) 3 w' w.heap.size (fun _=>True) s_ y401)∧(w'.heap[gb398]?=some (.cells #[.slice none 0 0,.int .i64 0,.int .i64 0] 31 (0,0)))∧(IsS74 w0 w' g s0_0 t407)∧(KeepBut w w' g none)∧(Below w0.heap.size w0 w')) ?_ ?_
   rotate_left
   ·intro hJ0_4_8
    refine join_ (σ:=Value × Nat) 3 #[true,true,true,true,true,true,true,true,false,false,true,false] (fun s_=>[(10,s_.1),(14,.int .i64 t404),(4,.pointer (some ⟨s_.2,0,none⟩))]) (fun s_ w'=>(Kd.R (Kd.int .i64) 3 w' w.heap.size (fun _=>True) s_.1 y401)∧(w'.heap[gb398]?=some (.cells #[.slice none 0 0,.int .i64 0,.int .i64 0] 31 (0,0)))∧(w'.heap[s_.2]?=some (.cells #[.slice none 0 0,.int .i64 0,.int .i64 0] 31 (0,0)))∧(w.heap.size≤s_.2)∧(w0.heap.size≤s_.2)∧(g≠s_.2)∧(s_.2≠g)∧(gb398≠s_.2)∧(s_.2≠gb398)∧(IsS74 w0 w' g s0_0 t405)∧(KeepBut w w' g none)∧(Below w0.heap.size w0 w')) ?_ ?_
    rotate_left
    ·intro hJ0_4_10
     refine join_ (σ:=Nat) 3 #[false,true,true,true,true,true,true,true,true,false,true,false] (fun s_=>[(14,.int .i64 t404),(18,.int .i64 t406),(4,.pointer (some ⟨s_,0,none⟩))]) (fun s_ w'=>(w'.heap[gb398]?=some (.cells #[.slice none 0 0,.int .i64 0,.int .i64 0] 31 (0,0)))∧(w'.heap[s_]?=some (.cells #[.slice none 0 0,.int .i64 0,.int .i64 0] 31 (0,0)))∧(w.heap.size≤s_)∧(w0.heap.size≤s_)∧(g≠s_)∧(s_≠g)∧(gb398≠s_)∧(s_≠gb398)∧(IsS74 w0 w' g s0_0 t407)∧(KeepBut w w' g none)∧(Below w0.heap.size w0 w')) ?_ ?_
     rotate_left
     ·intro hJ4_8_10
      refine join_ (σ:=Value) 4 #[true,true,true,true,true,true,true,true,false,false,false,false] (fun s_=>[(10,s_),(14,.int .i64 t404)]) (fun s_ w'=>(Kd.R (Kd.int .i64) 3 w' w.heap.size (fun _=>True) s_ y401)∧(w'.heap[gb398]?=some (.cells #[.slice none 0 0,.int .i64 0,.int .i64 0] 31 (0,0)))∧(IsS74 w0 w' g s0_0 t405)∧(KeepBut w w' g none)∧(Below w0.heap.size w0 w')) ?_ ?_
      rotate_left
      ·intro hJ0_4
       refine join_ (σ:=Value × Nat) 4 #[true,true,true,true,false,true,true,true,false,false,true,false] (fun s_=>[(10,s_.1),(4,.pointer (some ⟨s_.2,0,none⟩))]) (fun s_ w'=>(Kd.R (Kd.int .i64) 3 w' w.heap.size (fun _=>True) s_.1 y401)∧(w'.heap[gb398]?=some (.cells #[.slice none 0 0,.int .i64 0,.int .i64 0] 31 (0,0)))∧(w'.heap[s_.2]?=some (.cells #[.slice none 0 0,.int .i64 0,.int .i64 0] 31 (0,0)))∧(w.heap.size≤s_.2)∧(w0.heap.size≤s_.2)∧(g≠s_.2)∧(s_.2≠g)∧(gb398≠s_.2)∧(s_.2≠gb398)∧(IsS74 w0 w' g s0_0 t400)∧(KeepBut w w' g none)∧(Below w0.heap.size w0 w')) ?_ ?_
       rotate_left
       ·intro hJ0_10
        refine join_ (σ:=Unit) 4 #[false,true,true,true,true,true,true,true,true,false,false,false] (fun s_=>[(14,.int .i64 t404),(18,.int .i64 t406)]) (fun s_ w'=>(w'.heap[gb398]?=some (.cells #[.slice none 0 0,.int .i64 0,.int .i64 0] 31 (0,0)))∧(IsS74 w0 w' g s0_0 t407)∧(KeepBut w w' g none)∧(Below w0.heap.size w0 w')) ?_ ?_
        rotate_left
        ·intro hJ4_8
         refine join_ (σ:=Nat) 4 #[false,true,true,true,true,true,true,true,false,false,true,false] (fun s_=>[(14,.int .i64 t404),(4,.pointer (some ⟨s_,0,none⟩))]) (fun s_ w'=>(w'.heap[gb398]?=some (.cells #[.slice none 0 0,.int .i64 0,.int .i64 0] 31 (0,0)))∧(w'.heap[s_]?=some (.cells #[.slice none 0 0,.int .i64 0,.int .i64 0] 31 (0,0)))∧(w.heap.size≤s_)∧(w0.heap.size≤s_)∧(g≠s_)∧(s_≠g)∧(gb398≠s_)∧(s_≠gb398)∧(IsS74 w0 w' g s0_0 t405)∧(KeepBut w w' g none)∧(Below w0.heap.size w0 w')) ?_ ?_
         rotate_left
         ·intro hJ4_10
          refine join_ (σ:=Value) 5 #[true,true,true,true,false,true,true,true,false,false,false,false] (fun s_=>[(10,s_)]) (fun s_ w'=>(Kd.R (Kd.int .i64) 3 w' w.heap.size (fun _=>True) s_ y401)∧(w'.heap[gb398]?=some (.cells #[.slice none 0 0,.int .i64 0,.int .i64 0] 31 (0,0)))∧(IsS74 w0 w' g s0_0 t400)∧(KeepBut w w' g none)∧(Below w0.heap.size w0 w')) ?_ ?_
          rotate_left
          ·intro hJ0
           refine join_ (σ:=Unit) 5 #[false,true,true,true,true,true,true,true,false,false,false,false] (fun s_=>[(14,.int .i64 t404)]) (fun s_ w'=>(w'.heap[gb398]?=some (.cells #[.slice none 0 0,.int .i64 0,.int .i64 0] 31 (0,0)))∧(IsS74 w0 w' g s0_0 t405)∧(KeepBut w w' g none)∧(Below w0.heap.size w0 w')) ?_ ?_
           rotate_left
           ·intro hJ4
            refine join_ (σ:=Nat) 5 #[false,true,true,true,false,true,true,true,false,false,true,false] (fun s_=>[(4,.pointer (some ⟨s_,0,none⟩))]) (fun s_ w'=>(w'.heap[gb398]?=some (.cells #[.slice none 0 0,.int .i64 0,.int .i64 0] 31 (0,0)))∧(w'.heap[s_]?=some (.cells #[.slice none 0 0,.int .i64 0,.int .i64 0] 31 (0,0)))∧(w.heap.size≤s_)∧(w0.heap.size≤s_)∧(g≠s_)∧(s_≠g)∧(gb398≠s_)∧(s_≠gb398)∧(IsS74 w0 w' g s0_0 t400)∧(KeepBut w w' g none)∧(Below w0.heap.size w0 w')) ?_ ?_
            rotate_left
            ·intro hJ10
             refine three_ (i:=0) (j:=4) (k:=10) (Ni:=some 10) (Nj:=some 14) (Nk:=some 4) #[true,true,true,true,false,true,true,true,false,false,false,false] #[false,true,true,true,true,true,true,true,false,false,false,false] #[false,true,true,true,false,true,true,true,false,false,true,false] rfl rfl rfl rfl rfl rfl (three_of HT_.out (by kernel_rfl)) (by decide) (by decide) (by decide) (fun K hK=>?_) (fun K hK=>?_) (fun K hK=>?_)
             ·skip
              refine Kd.R_lit_step (Kd.int .i64) _ 3 ?hg (N:=10) ?hd (xs:=([]:List Int)) (inner:=[]) (ok:=fun _=>True) (okp:=fun _=>True) ?hr ?hp (fun _ hk=>hk) trivial (Below.refl _ _) (Nat.le_refl _) (by simp) ?_;(case hd=>rfl);(case hg=>rfl);(case hr=>first|(go_simp;done)|(go_simp;rfl));(case hp=>exact (Reps.none _ _))
              intro v402 w14 ho15 hb hg_ hnew_
              clear hg_ hnew_
              (first|rw [← Ny401.out] at ho15|(simp only [Int.reduceToNat] at ho15;rw [← Ny401.out] at ho15))
              have n0_:=Aside0.mk (Kd.R_lower ho15 (keep_size (w:=w) (g:=g) (row:=none) (by repeat (first|(with_reducible first|exact HK.out|apply KeepBut.set_|apply keep_drewN|apply keep_drew|apply keep_alloc|refine keep_far ?_ GW398.out _)|exact HK.out))))
              have n1_:=Aside0.mk (IsS74.below (by repeat (first|(with_reducible first|exact HI0.out|apply IsS74.alloc|apply IsS74.drewN|apply IsS74.drew|apply IsS74.set_1|refine IsS74.far ?_ NB0_398.out _)|exact HI0.out)) hb)
              have n2_:=Aside0.mk (blk_below (g:=gb398) (o:=.cells #[.slice none 0 0,.int .i64 0,.int .i64 0] 31 (0,0)) (by (with_reducible repeat (first|refine yE ?_ _|refine yF ?_|refine yG ?_ _));exact BK398.out) hb)
              have n3_:=Aside0.mk (KeepBut.trans (by repeat (first|(with_reducible first|exact HK.out|apply KeepBut.set_|apply keep_drewN|apply keep_drew|apply keep_alloc|refine keep_far ?_ GW398.out _)|exact HK.out)) (KeepBut.of_below hb g none) (.inl rfl))
              have n4_:=Aside0.mk (yP (by repeat (first|(with_reducible first|exact HB.out|apply yA|apply yB|apply yC|refine yD ?_ (IsS74.ge HI0.out)|refine yD ?_ GE398.out)|exact HB.out)) hb)
              clear HI0
              clear BK398
              clear HK
              clear HB
              have HO403:=n0_
              have HI0:=n1_
              have BK398:=n2_
              have HK:=n3_
              have HB:=n4_
              clear n0_ n1_ n2_ n3_ n4_
              clear hb ho15
              refine hK.out _ _ trivial (fun hHeld=>?_)
              clear hK K
              refine norm_ (a':=?_) ?_ ?_
              rotate_left
              ·show Act.put _ (some 10) _=_
               simp only [Act.put,yK,yL,yM,i64_w,i32_w]
               rfl
              exact norm_ (by first|(simp only [putAll,Act.put,yK,yL,yM];done)|(simp only [putAll,Act.put,yK,yL,yM];rfl)) (hJ0 (v402) _ ⟨(by (with_reducible repeat (first|apply yH|apply yI|apply yJ));exact HO403.out),(by (with_reducible repeat (first|refine yE ?_ _|refine yF ?_|refine yG ?_ _));exact BK398.out),(by repeat (first|(with_reducible first|exact HI0.out|apply IsS74.alloc|apply IsS74.drewN|apply IsS74.drew|apply IsS74.set_1|refine IsS74.far ?_ NB0_398.out _)|exact HI0.out)),(by repeat (first|(with_reducible first|exact HK.out|apply KeepBut.set_|apply keep_drewN|apply keep_drew|apply keep_alloc|refine keep_far ?_ GW398.out _)|exact HK.out)),(by repeat (first|(with_reducible first|exact HB.out|apply yA|apply yB|apply yC|refine yD ?_ (IsS74.ge HI0.out)|refine yD ?_ GE398.out)|exact HB.out))⟩)
             ·skip
              refine goes_ Try.func54 (by kernel_rfl) rfl #[.pointer (some ⟨g,0,none⟩),.int .i64 ji5] (by rfl) rfl rfl (by (try simp only [List.map_toArray,List.map_cons,List.map_nil]);first|done|(simp only [hji5];rfl)|rfl|(simp only [List.length_drop,List.length_take];rfl)) ?_
              with_reducible refine (spec_l6Rd_pick.calls k g s0_0 t400 ji5 t404 t405 w0 _ ?side1 ?side2 A6.out).mono ?_
              (case side1=>repeat (first|(with_reducible first|exact HI0.out|apply IsS74.alloc|apply IsS74.drewN|apply IsS74.drew|apply IsS74.set_1|refine IsS74.far ?_ NB0_398.out _)|exact HI0.out))
              (case side2=>repeat (first|(with_reducible first|exact HB.out|apply yA|apply yB|apply yC|refine yD ?_ (IsS74.ge HI0.out)|refine yD ?_ GE398.out)|exact HB.out))
              rintro e w14 ⟨rfl,hi,hb,hk⟩
              refine ⟨_,rfl,?_⟩
              have n0_:=Aside0.mk (KeepBut.blk hk (g':=gb398) (o:=.cells #[.slice none 0 0,.int .i64 0,.int .i64 0] 31 (0,0)) (by (with_reducible repeat (first|refine yE ?_ _|refine yF ?_|refine yG ?_ _));exact BK398.out) NB398_0.out (by simp))
              have n1_:=Aside0.mk (KeepBut.trans (by repeat (first|(with_reducible first|exact HK.out|apply KeepBut.set_|apply keep_drewN|apply keep_drew|apply keep_alloc|refine keep_far ?_ GW398.out _)|exact HK.out)) hk (.inl rfl))
              have n2_:=Aside0.mk (hb)
              have n3_:=Aside0.mk (hi)
              clear BK398
              clear HK
              clear HB
              clear HI0
              have BK398:=n0_
              have HK:=n1_
              have HB:=n2_
              have HI0:=n3_
              clear n0_ n1_ n2_ n3_
              (try clear hb)
              (try clear hb2)
              (try clear hk)
              (try clear hi)
              refine hK.out _ _ trivial (fun hHeld=>?_)
              clear hK K
              refine norm_ (a':=?_) ?_ ?_
              rotate_left
              ·show Act.put _ (some 14) _=_
               simp only [Act.put,yK,yL,yM,i64_w,i32_w]
               rfl
              exact norm_ (by first|(simp only [putAll,Act.put,yK,yL,yM];done)|(simp only [putAll,Act.put,yK,yL,yM];rfl)) (hJ4 () _ ⟨(by (with_reducible repeat (first|refine yE ?_ _|refine yF ?_|refine yG ?_ _));exact BK398.out),(by repeat (first|(with_reducible first|exact HI0.out|apply IsS74.alloc|apply IsS74.drewN|apply IsS74.drew|apply IsS74.set_1|refine IsS74.far ?_ NB0_398.out _)|exact HI0.out)),(by repeat (first|(with_reducible first|exact HK.out|apply KeepBut.set_|apply keep_drewN|apply keep_drew|apply keep_alloc|refine keep_far ?_ GW398.out _)|exact HK.out)),(by repeat (first|(with_reducible first|exact HB.out|apply yA|apply yB|apply yC|refine yD ?_ (IsS74.ge HI0.out)|refine yD ?_ GE398.out)|exact HB.out))⟩)
             ·skip
              refine box_step ?hg (N:=4) ?hd (cs:=#[.slice none 0 0,.int .i64 0,.int .i64 0]) (t:=31) ?hr ?_;(case hd=>rfl);(case hg=>rfl);(case hr=>first|(go_simp;done)|(go_simp;rfl))
              intro gb408 hg w14 hbox hb
              have n0_:=Aside0.mk (IsS74.below (by repeat (first|(with_reducible first|exact HI0.out|apply IsS74.alloc|apply IsS74.drewN|apply IsS74.drew|apply IsS74.set_1|refine IsS74.far ?_ NB0_398.out _)|exact HI0.out)) hb)
              have n1_:=Aside0.mk (blk_below (g:=gb398) (o:=.cells #[.slice none 0 0,.int .i64 0,.int .i64 0] 31 (0,0)) (by (with_reducible repeat (first|refine yE ?_ _|refine yF ?_|refine yG ?_ _));exact BK398.out) hb)
              have n2_:=Aside0.mk (KeepBut.trans (by repeat (first|(with_reducible first|exact HK.out|apply KeepBut.set_|apply keep_drewN|apply keep_drew|apply keep_alloc|refine keep_far ?_ GW398.out _)|exact HK.out)) (KeepBut.of_below hb g none) (.inl rfl))
              have n3_:=Aside0.mk (yP (by repeat (first|(with_reducible first|exact HB.out|apply yA|apply yB|apply yC|refine yD ?_ (IsS74.ge HI0.out)|refine yD ?_ GE398.out)|exact HB.out)) hb)
              have n4_:=Aside0.mk (hbox)
              have n5_:=Aside0.mk ((by rw [hg];exact (keep_size (w:=w) (g:=g) (row:=none) (by repeat (first|(with_reducible first|exact HK.out|apply KeepBut.set_|apply keep_drewN|apply keep_drew|apply keep_alloc|refine keep_far ?_ GW398.out _)|exact HK.out))):w.heap.size≤gb408))
              have n6_:=Aside0.mk ((Nat.le_trans HW0.out (by rw [hg];exact (keep_size (w:=w) (g:=g) (row:=none) (by repeat (first|(with_reducible first|exact HK.out|apply KeepBut.set_|apply keep_drewN|apply keep_drew|apply keep_alloc|refine keep_far ?_ GW398.out _)|exact HK.out))):w.heap.size≤gb408):w0.heap.size≤gb408))
              have n7_:=Aside0.mk ((by rw [hg];exact Nat.ne_of_lt (blk_lt (g:=gb398) (o:=.cells #[.slice none 0 0,.int .i64 0,.int .i64 0] 31 (0,0)) (by (with_reducible repeat (first|refine yE ?_ _|refine yF ?_|refine yG ?_ _));exact BK398.out)):gb398≠gb408))
              have n8_:=Aside0.mk ((by rw [hg];exact Nat.ne_of_gt (blk_lt (g:=gb398) (o:=.cells #[.slice none 0 0,.int .i64 0,.int .i64 0] 31 (0,0)) (by (with_reducible repeat (first|refine yE ?_ _|refine yF ?_|refine yG ?_ _));exact BK398.out)):gb408≠gb398))
              have n9_:=Aside0.mk ((by rw [hg];exact Nat.ne_of_lt (IsS74.lt (show IsS74 w0 _ g s0_0 t400 from by repeat (first|(with_reducible first|exact HI0.out|apply IsS74.alloc|apply IsS74.drewN|apply IsS74.drew|apply IsS74.set_1|refine IsS74.far ?_ NB0_398.out _)|exact HI0.out))):g≠gb408))
              have n10_:=Aside0.mk ((by rw [hg];exact Nat.ne_of_gt (IsS74.lt (show IsS74 w0 _ g s0_0 t400 from by repeat (first|(with_reducible first|exact HI0.out|apply IsS74.alloc|apply IsS74.drewN|apply IsS74.drew|apply IsS74.set_1|refine IsS74.far ?_ NB0_398.out _)|exact HI0.out))):gb408≠g))
              clear HI0
              clear BK398
              clear HK
              clear HB
              have HI0:=n0_
              have BK398:=n1_
              have HK:=n2_
              have HB:=n3_
              have BK408:=n4_
              have GW408:=n5_
              have GE408:=n6_
              have NB398_408:=n7_
              have NB408_398:=n8_
              have NB0_408:=n9_
              have NB408_0:=n10_
              clear n0_ n1_ n2_ n3_ n4_ n5_ n6_ n7_ n8_ n9_ n10_
              clear hb hbox hg
              refine hK.out _ _ trivial (fun hHeld=>?_)
              clear hK K
              refine norm_ (a':=?_) ?_ ?_
              rotate_left
              ·show Act.put _ (some 4) _=_
               simp only [Act.put,yK,yL,yM,i64_w,i32_w]
               rfl
              exact norm_ (by first|(simp only [putAll,Act.put,yK,yL,yM];done)|(simp only [putAll,Act.put,yK,yL,yM];rfl)) (hJ10 (gb408) _ ⟨(by (with_reducible repeat (first|refine yE ?_ _|refine yF ?_|refine yG ?_ _));exact BK398.out),(by (with_reducible repeat (first|refine yE ?_ _|refine yF ?_|refine yG ?_ _));exact BK408.out),GW408.out,GE408.out,NB0_408.out,NB408_0.out,NB398_408.out,NB408_398.out,(by repeat (first|(with_reducible first|exact HI0.out|apply IsS74.alloc|apply IsS74.drewN|apply IsS74.drew|apply IsS74.set_1|refine IsS74.far ?_ NB0_398.out _|refine IsS74.far ?_ NB0_408.out _)|exact HI0.out)),(by repeat (first|(with_reducible first|exact HK.out|apply KeepBut.set_|apply keep_drewN|apply keep_drew|apply keep_alloc|refine keep_far ?_ GW398.out _|refine keep_far ?_ GW408.out _)|exact HK.out)),(by repeat (first|(with_reducible first|exact HB.out|apply yA|apply yB|apply yC|refine yD ?_ (IsS74.ge HI0.out)|refine yD ?_ GE398.out|refine yD ?_ GE408.out)|exact HB.out))⟩)
            ·skip
             rintro gb408 w15 ⟨h0_,h1_,h2_,h3_,h4_,h5_,h6_,h7_,h8_,h9_,h10_⟩
             have n0_:Aside0 (w15.heap[gb398]?=some (.cells #[.slice none 0 0,.int .i64 0,.int .i64 0] 31 (0,0))):=⟨h0_⟩
             have n1_:Aside0 (w15.heap[gb408]?=some (.cells #[.slice none 0 0,.int .i64 0,.int .i64 0] 31 (0,0))):=⟨h1_⟩
             have n2_:Aside0 (w.heap.size≤gb408):=⟨h2_⟩
             have n3_:Aside0 (w0.heap.size≤gb408):=⟨h3_⟩
             have n4_:Aside0 (g≠gb408):=⟨h4_⟩
             have n5_:Aside0 (gb408≠g):=⟨h5_⟩
             have n6_:Aside0 (gb398≠gb408):=⟨h6_⟩
             have n7_:Aside0 (gb408≠gb398):=⟨h7_⟩
             have n8_:Aside0 (IsS74 w0 w15 g s0_0 t400):=⟨h8_⟩
             have n9_:Aside0 (KeepBut w w15 g none):=⟨h9_⟩
             have n10_:Aside0 (Below w0.heap.size w0 w15):=⟨h10_⟩
             clear BK398
             clear HI0
             clear HK
             clear HB
             clear h0_ h1_ h2_ h3_ h4_ h5_ h6_ h7_ h8_ h9_ h10_
             have BK398:=n0_
             have BK408:=n1_
             have GW408:=n2_
             have GE408:=n3_
             have NB0_408:=n4_
             have NB408_0:=n5_
             have NB398_408:=n6_
             have NB408_398:=n7_
             have HI0:=n8_
             have HK:=n9_
             have HB:=n10_
             clear n0_ n1_ n2_ n3_ n4_ n5_ n6_ n7_ n8_ n9_ n10_
             have hHeld:=trivial
             refine norm_ (a':=?_) ?_ ?_
             rotate_left
             ·simp only [putAll,Act.put,yK,yL,yM]
              rfl
             refine two_ (i:=0) (j:=4) (Ni:=some 10) (Nj:=some 14) #[true,true,true,true,false,true,true,true,false,false,true,false] #[false,true,true,true,true,true,true,true,false,false,true,false] rfl rfl rfl rfl (two_of HT_.out (by kernel_rfl)) (by decide) (by decide) (fun K hK=>?_) (fun K hK=>?_)
             ·skip
              refine Kd.R_lit_step (Kd.int .i64) _ 3 ?hg (N:=10) ?hd (xs:=([]:List Int)) (inner:=[]) (ok:=fun _=>True) (okp:=fun _=>True) ?hr ?hp (fun _ hk=>hk) trivial (Below.refl _ _) (Nat.le_refl _) (by simp) ?_;(case hd=>rfl);(case hg=>rfl);(case hr=>first|(go_simp;done)|(go_simp;rfl));(case hp=>exact (Reps.none _ _))
              intro v402 w16 ho17 hb hg_ hnew_
              clear hg_ hnew_
              (first|rw [← Ny401.out] at ho17|(simp only [Int.reduceToNat] at ho17;rw [← Ny401.out] at ho17))
              have n0_:=Aside0.mk (Kd.R_lower ho17 (keep_size (w:=w) (g:=g) (row:=none) (by repeat (first|(with_reducible first|exact HK.out|apply KeepBut.set_|apply keep_drewN|apply keep_drew|apply keep_alloc|refine keep_far ?_ GW398.out _|refine keep_far ?_ GW408.out _)|exact HK.out))))
              have n1_:=Aside0.mk (IsS74.below (by repeat (first|(with_reducible first|exact HI0.out|apply IsS74.alloc|apply IsS74.drewN|apply IsS74.drew|apply IsS74.set_1|refine IsS74.far ?_ NB0_398.out _|refine IsS74.far ?_ NB0_408.out _)|exact HI0.out)) hb)
              have n2_:=Aside0.mk (blk_below (g:=gb398) (o:=.cells #[.slice none 0 0,.int .i64 0,.int .i64 0] 31 (0,0)) (by (with_reducible repeat (first|refine yE ?_ _|refine yF ?_|refine yG ?_ _));exact BK398.out) hb)
              have n3_:=Aside0.mk (blk_below (g:=gb408) (o:=.cells #[.slice none 0 0,.int .i64 0,.int .i64 0] 31 (0,0)) (by (with_reducible repeat (first|refine yE ?_ _|refine yF ?_|refine yG ?_ _));exact BK408.out) hb)
              have n4_:=Aside0.mk (KeepBut.trans (by repeat (first|(with_reducible first|exact HK.out|apply KeepBut.set_|apply keep_drewN|apply keep_drew|apply keep_alloc|refine keep_far ?_ GW398.out _|refine keep_far ?_ GW408.out _)|exact HK.out)) (KeepBut.of_below hb g none) (.inl rfl))
              have n5_:=Aside0.mk (yP (by repeat (first|(with_reducible first|exact HB.out|apply yA|apply yB|apply yC|refine yD ?_ (IsS74.ge HI0.out)|refine yD ?_ GE398.out|refine yD ?_ GE408.out)|exact HB.out)) hb)
              clear HI0
              clear BK398
              clear BK408
              clear HK
              clear HB
              have HO403:=n0_
              have HI0:=n1_
              have BK398:=n2_
              have BK408:=n3_
              have HK:=n4_
              have HB:=n5_
              clear n0_ n1_ n2_ n3_ n4_ n5_
              clear hb ho17
              refine hK.out _ _ trivial (fun hHeld=>?_)
              clear hK K
              refine norm_ (a':=?_) ?_ ?_
              rotate_left
              ·show Act.put _ (some 10) _=_
               simp only [Act.put,yK,yL,yM,i64_w,i32_w]
               rfl
              exact norm_ (by first|(simp only [putAll,Act.put,yK,yL,yM];done)|(simp only [putAll,Act.put,yK,yL,yM];rfl)) (hJ0_10 (v402,gb408) _ ⟨(by (with_reducible repeat (first|apply yH|apply yI|apply yJ));exact HO403.out),(by (with_reducible repeat (first|refine yE ?_ _|refine yF ?_|refine yG ?_ _));exact BK398.out),(by (with_reducible repeat (first|refine yE ?_ _|refine yF ?_|refine yG ?_ _));exact BK408.out),GW408.out,GE408.out,NB0_408.out,NB408_0.out,NB398_408.out,NB408_398.out,(by repeat (first|(with_reducible first|exact HI0.out|apply IsS74.alloc|apply IsS74.drewN|apply IsS74.drew|apply IsS74.set_1|refine IsS74.far ?_ NB0_398.out _|refine IsS74.far ?_ NB0_408.out _)|exact HI0.out)),(by repeat (first|(with_reducible first|exact HK.out|apply KeepBut.set_|apply keep_drewN|apply keep_drew|apply keep_alloc|refine keep_far ?_ GW398.out _|refine keep_far ?_ GW408.out _)|exact HK.out)),(by repeat (first|(with_reducible first|exact HB.out|apply yA|apply yB|apply yC|refine yD ?_ (IsS74.ge HI0.out)|refine yD ?_ GE398.out|refine yD ?_ GE408.out)|exact HB.out))⟩)
             ·skip
              refine goes_ Try.func54 (by kernel_rfl) rfl #[.pointer (some ⟨g,0,none⟩),.int .i64 ji5] (by rfl) rfl rfl (by (try simp only [List.map_toArray,List.map_cons,List.map_nil]);first|done|(simp only [hji5];rfl)|rfl|(simp only [List.length_drop,List.length_take];rfl)) ?_
              with_reducible refine (spec_l6Rd_pick.calls k g s0_0 t400 ji5 t404 t405 w0 _ ?side1 ?side2 A6.out).mono ?_
              (case side1=>repeat (first|(with_reducible first|exact HI0.out|apply IsS74.alloc|apply IsS74.drewN|apply IsS74.drew|apply IsS74.set_1|refine IsS74.far ?_ NB0_398.out _|refine IsS74.far ?_ NB0_408.out _)|exact HI0.out))
              (case side2=>repeat (first|(with_reducible first|exact HB.out|apply yA|apply yB|apply yC|refine yD ?_ (IsS74.ge HI0.out)|refine yD ?_ GE398.out|refine yD ?_ GE408.out)|exact HB.out))
              rintro e w16 ⟨rfl,hi,hb,hk⟩
              refine ⟨_,rfl,?_⟩
              have n0_:=Aside0.mk (KeepBut.blk hk (g':=gb398) (o:=.cells #[.slice none 0 0,.int .i64 0,.int .i64 0] 31 (0,0)) (by (with_reducible repeat (first|refine yE ?_ _|refine yF ?_|refine yG ?_ _));exact BK398.out) NB398_0.out (by simp))
              have n1_:=Aside0.mk (KeepBut.blk hk (g':=gb408) (o:=.cells #[.slice none 0 0,.int .i64 0,.int .i64 0] 31 (0,0)) (by (with_reducible repeat (first|refine yE ?_ _|refine yF ?_|refine yG ?_ _));exact BK408.out) NB408_0.out (by simp))
              have n2_:=Aside0.mk (KeepBut.trans (by repeat (first|(with_reducible first|exact HK.out|apply KeepBut.set_|apply keep_drewN|apply keep_drew|apply keep_alloc|refine keep_far ?_ GW398.out _|refine keep_far ?_ GW408.out _)|exact HK.out)) hk (.inl rfl))
              have n3_:=Aside0.mk (hb)
              have n4_:=Aside0.mk (hi)
              clear BK398
              clear BK408
              clear HK
              clear HB
              clear HI0
              have BK398:=n0_
              have BK408:=n1_
              have HK:=n2_
              have HB:=n3_
              have HI0:=n4_
              clear n0_ n1_ n2_ n3_ n4_
              (try clear hb)
              (try clear hb2)
              (try clear hk)
              (try clear hi)
              refine hK.out _ _ trivial (fun hHeld=>?_)
              clear hK K
              refine norm_ (a':=?_) ?_ ?_
              rotate_left
              ·show Act.put _ (some 14) _=_
               simp only [Act.put,yK,yL,yM,i64_w,i32_w]
               rfl
              exact norm_ (by first|(simp only [putAll,Act.put,yK,yL,yM];done)|(simp only [putAll,Act.put,yK,yL,yM];rfl)) (hJ4_10 (gb408) _ ⟨(by (with_reducible repeat (first|refine yE ?_ _|refine yF ?_|refine yG ?_ _));exact BK398.out),(by (with_reducible repeat (first|refine yE ?_ _|refine yF ?_|refine yG ?_ _));exact BK408.out),GW408.out,GE408.out,NB0_408.out,NB408_0.out,NB398_408.out,NB408_398.out,(by repeat (first|(with_reducible first|exact HI0.out|apply IsS74.alloc|apply IsS74.drewN|apply IsS74.drew|apply IsS74.set_1|refine IsS74.far ?_ NB0_398.out _|refine IsS74.far ?_ NB0_408.out _)|exact HI0.out)),(by repeat (first|(with_reducible first|exact HK.out|apply KeepBut.set_|apply keep_drewN|apply keep_drew|apply keep_alloc|refine keep_far ?_ GW398.out _|refine keep_far ?_ GW408.out _)|exact HK.out)),(by repeat (first|(with_reducible first|exact HB.out|apply yA|apply yB|apply yC|refine yD ?_ (IsS74.ge HI0.out)|refine yD ?_ GE398.out|refine yD ?_ GE408.out)|exact HB.out))⟩)
           ·skip
            rintro _ w15 ⟨h0_,h1_,h2_,h3_⟩
            have n0_:Aside0 (w15.heap[gb398]?=some (.cells #[.slice none 0 0,.int .i64 0,.int .i64 0] 31 (0,0))):=⟨h0_⟩
            have n1_:Aside0 (IsS74 w0 w15 g s0_0 t405):=⟨h1_⟩
            have n2_:Aside0 (KeepBut w w15 g none):=⟨h2_⟩
            have n3_:Aside0 (Below w0.heap.size w0 w15):=⟨h3_⟩
            clear BK398
            clear HI0
            clear HK
            clear HB
            clear h0_ h1_ h2_ h3_
            have BK398:=n0_
            have HI0:=n1_
            have HK:=n2_
            have HB:=n3_
            clear n0_ n1_ n2_ n3_
            have hHeld:=trivial
            refine norm_ (a':=?_) ?_ ?_
            rotate_left
            ·simp only [putAll,Act.put,yK,yL,yM]
             rfl
            refine three_ (i:=0) (j:=8) (k:=10) (Ni:=some 10) (Nj:=some 18) (Nk:=some 4) #[true,true,true,true,true,true,true,true,false,false,false,false] #[false,true,true,true,true,true,true,true,true,false,false,false] #[false,true,true,true,true,true,true,true,false,false,true,false] rfl rfl rfl rfl rfl rfl (three_of HT_.out (by kernel_rfl)) (by decide) (by decide) (by decide) (fun K hK=>?_) (fun K hK=>?_) (fun K hK=>?_)
            ·skip
             refine Kd.R_lit_step (Kd.int .i64) _ 3 ?hg (N:=10) ?hd (xs:=([]:List Int)) (inner:=[]) (ok:=fun _=>True) (okp:=fun _=>True) ?hr ?hp (fun _ hk=>hk) trivial (Below.refl _ _) (Nat.le_refl _) (by simp) ?_;(case hd=>rfl);(case hg=>rfl);(case hr=>first|(go_simp;done)|(go_simp;rfl));(case hp=>exact (Reps.none _ _))
             intro v402 w16 ho17 hb hg_ hnew_
             clear hg_ hnew_
             (first|rw [← Ny401.out] at ho17|(simp only [Int.reduceToNat] at ho17;rw [← Ny401.out] at ho17))
             have n0_:=Aside0.mk (Kd.R_lower ho17 (keep_size (w:=w) (g:=g) (row:=none) (by repeat (first|(with_reducible first|exact HK.out|apply KeepBut.set_|apply keep_drewN|apply keep_drew|apply keep_alloc|refine keep_far ?_ GW398.out _)|exact HK.out))))
             have n1_:=Aside0.mk (IsS74.below (by repeat (first|(with_reducible first|exact HI0.out|apply IsS74.alloc|apply IsS74.drewN|apply IsS74.drew|apply IsS74.set_1|refine IsS74.far ?_ NB0_398.out _)|exact HI0.out)) hb)
             have n2_:=Aside0.mk (blk_below (g:=gb398) (o:=.cells #[.slice none 0 0,.int .i64 0,.int .i64 0] 31 (0,0)) (by (with_reducible repeat (first|refine yE ?_ _|refine yF ?_|refine yG ?_ _));exact BK398.out) hb)
             have n3_:=Aside0.mk (KeepBut.trans (by repeat (first|(with_reducible first|exact HK.out|apply KeepBut.set_|apply keep_drewN|apply keep_drew|apply keep_alloc|refine keep_far ?_ GW398.out _)|exact HK.out)) (KeepBut.of_below hb g none) (.inl rfl))
             have n4_:=Aside0.mk (yP (by repeat (first|(with_reducible first|exact HB.out|apply yA|apply yB|apply yC|refine yD ?_ (IsS74.ge HI0.out)|refine yD ?_ GE398.out)|exact HB.out)) hb)
             clear HI0
             clear BK398
             clear HK
             clear HB
             have HO403:=n0_
             have HI0:=n1_
             have BK398:=n2_
             have HK:=n3_
             have HB:=n4_
             clear n0_ n1_ n2_ n3_ n4_
             clear hb ho17
             refine hK.out _ _ trivial (fun hHeld=>?_)
             clear hK K
             refine norm_ (a':=?_) ?_ ?_
             rotate_left
             ·show Act.put _ (some 10) _=_
              simp only [Act.put,yK,yL,yM,i64_w,i32_w]
              rfl
             exact norm_ (by first|(simp only [putAll,Act.put,yK,yL,yM];done)|(simp only [putAll,Act.put,yK,yL,yM];rfl)) (hJ0_4 (v402) _ ⟨(by (with_reducible repeat (first|apply yH|apply yI|apply yJ));exact HO403.out),(by (with_reducible repeat (first|refine yE ?_ _|refine yF ?_|refine yG ?_ _));exact BK398.out),(by repeat (first|(with_reducible first|exact HI0.out|apply IsS74.alloc|apply IsS74.drewN|apply IsS74.drew|apply IsS74.set_1|refine IsS74.far ?_ NB0_398.out _)|exact HI0.out)),(by repeat (first|(with_reducible first|exact HK.out|apply KeepBut.set_|apply keep_drewN|apply keep_drew|apply keep_alloc|refine keep_far ?_ GW398.out _)|exact HK.out)),(by repeat (first|(with_reducible first|exact HB.out|apply yA|apply yB|apply yC|refine yD ?_ (IsS74.ge HI0.out)|refine yD ?_ GE398.out)|exact HB.out))⟩)
            ·skip
             refine goes_ Try.func54 (by kernel_rfl) rfl #[.pointer (some ⟨g,0,none⟩),.int .i64 ji5] (by rfl) rfl rfl (by (try simp only [List.map_toArray,List.map_cons,List.map_nil]);first|done|(simp only [hji5];rfl)|rfl|(simp only [List.length_drop,List.length_take];rfl)) ?_
             with_reducible refine (spec_l6Rd_pick.calls k g s0_0 t405 ji5 t406 t407 w0 _ ?side1 ?side2 A9.out).mono ?_
             (case side1=>repeat (first|(with_reducible first|exact HI0.out|apply IsS74.alloc|apply IsS74.drewN|apply IsS74.drew|apply IsS74.set_1|refine IsS74.far ?_ NB0_398.out _)|exact HI0.out))
             (case side2=>repeat (first|(with_reducible first|exact HB.out|apply yA|apply yB|apply yC|refine yD ?_ (IsS74.ge HI0.out)|refine yD ?_ GE398.out)|exact HB.out))
             rintro e w16 ⟨rfl,hi,hb,hk⟩
             refine ⟨_,rfl,?_⟩
             have n0_:=Aside0.mk (KeepBut.blk hk (g':=gb398) (o:=.cells #[.slice none 0 0,.int .i64 0,.int .i64 0] 31 (0,0)) (by (with_reducible repeat (first|refine yE ?_ _|refine yF ?_|refine yG ?_ _));exact BK398.out) NB398_0.out (by simp))
             have n1_:=Aside0.mk (KeepBut.trans (by repeat (first|(with_reducible first|exact HK.out|apply KeepBut.set_|apply keep_drewN|apply keep_drew|apply keep_alloc|refine keep_far ?_ GW398.out _)|exact HK.out)) hk (.inl rfl))
             have n2_:=Aside0.mk (hb)
             have n3_:=Aside0.mk (hi)
             clear BK398
             clear HK
             clear HB
             clear HI0
             have BK398:=n0_
             have HK:=n1_
             have HB:=n2_
             have HI0:=n3_
             clear n0_ n1_ n2_ n3_
             (try clear hb)
             (try clear hb2)
             (try clear hk)
             (try clear hi)
             refine hK.out _ _ trivial (fun hHeld=>?_)
             clear hK K
             refine norm_ (a':=?_) ?_ ?_
             rotate_left
             ·show Act.put _ (some 18) _=_
              simp only [Act.put,yK,yL,yM,i64_w,i32_w]
              rfl
             exact norm_ (by first|(simp only [putAll,Act.put,yK,yL,yM];done)|(simp only [putAll,Act.put,yK,yL,yM];rfl)) (hJ4_8 () _ ⟨(by (with_reducible repeat (first|refine yE ?_ _|refine yF ?_|refine yG ?_ _));exact BK398.out),(by repeat (first|(with_reducible first|exact HI0.out|apply IsS74.alloc|apply IsS74.drewN|apply IsS74.drew|apply IsS74.set_1|refine IsS74.far ?_ NB0_398.out _)|exact HI0.out)),(by repeat (first|(with_reducible first|exact HK.out|apply KeepBut.set_|apply keep_drewN|apply keep_drew|apply keep_alloc|refine keep_far ?_ GW398.out _)|exact HK.out)),(by repeat (first|(with_reducible first|exact HB.out|apply yA|apply yB|apply yC|refine yD ?_ (IsS74.ge HI0.out)|refine yD ?_ GE398.out)|exact HB.out))⟩)
            ·skip
             refine box_step ?hg (N:=4) ?hd (cs:=#[.slice none 0 0,.int .i64 0,.int .i64 0]) (t:=31) ?hr ?_;(case hd=>rfl);(case hg=>rfl);(case hr=>first|(go_simp;done)|(go_simp;rfl))
             intro gb408 hg w16 hbox hb
             have n0_:=Aside0.mk (IsS74.below (by repeat (first|(with_reducible first|exact HI0.out|apply IsS74.alloc|apply IsS74.drewN|apply IsS74.drew|apply IsS74.set_1|refine IsS74.far ?_ NB0_398.out _)|exact HI0.out)) hb)
             have n1_:=Aside0.mk (blk_below (g:=gb398) (o:=.cells #[.slice none 0 0,.int .i64 0,.int .i64 0] 31 (0,0)) (by (with_reducible repeat (first|refine yE ?_ _|refine yF ?_|refine yG ?_ _));exact BK398.out) hb)
             have n2_:=Aside0.mk (KeepBut.trans (by repeat (first|(with_reducible first|exact HK.out|apply KeepBut.set_|apply keep_drewN|apply keep_drew|apply keep_alloc|refine keep_far ?_ GW398.out _)|exact HK.out)) (KeepBut.of_below hb g none) (.inl rfl))
             have n3_:=Aside0.mk (yP (by repeat (first|(with_reducible first|exact HB.out|apply yA|apply yB|apply yC|refine yD ?_ (IsS74.ge HI0.out)|refine yD ?_ GE398.out)|exact HB.out)) hb)
             have n4_:=Aside0.mk (hbox)
             have n5_:=Aside0.mk ((by rw [hg];exact (keep_size (w:=w) (g:=g) (row:=none) (by repeat (first|(with_reducible first|exact HK.out|apply KeepBut.set_|apply keep_drewN|apply keep_drew|apply keep_alloc|refine keep_far ?_ GW398.out _)|exact HK.out))):w.heap.size≤gb408))
             have n6_:=Aside0.mk ((Nat.le_trans HW0.out (by rw [hg];exact (keep_size (w:=w) (g:=g) (row:=none) (by repeat (first|(with_reducible first|exact HK.out|apply KeepBut.set_|apply keep_drewN|apply keep_drew|apply keep_alloc|refine keep_far ?_ GW398.out _)|exact HK.out))):w.heap.size≤gb408):w0.heap.size≤gb408))
             have n7_:=Aside0.mk ((by rw [hg];exact Nat.ne_of_lt (blk_lt (g:=gb398) (o:=.cells #[.slice none 0 0,.int .i64 0,.int .i64 0] 31 (0,0)) (by (with_reducible repeat (first|refine yE ?_ _|refine yF ?_|refine yG ?_ _));exact BK398.out)):gb398≠gb408))
             have n8_:=Aside0.mk ((by rw [hg];exact Nat.ne_of_gt (blk_lt (g:=gb398) (o:=.cells #[.slice none 0 0,.int .i64 0,.int .i64 0] 31 (0,0)) (by (with_reducible repeat (first|refine yE ?_ _|refine yF ?_|refine yG ?_ _));exact BK398.out)):gb408≠gb398))
             have n9_:=Aside0.mk ((by rw [hg];exact Nat.ne_of_lt (IsS74.lt (show IsS74 w0 _ g s0_0 t405 from by repeat (first|(with_reducible first|exact HI0.out|apply IsS74.alloc|apply IsS74.drewN|apply IsS74.drew|apply IsS74.set_1|refine IsS74.far ?_ NB0_398.out _)|exact HI0.out))):g≠gb408))
             have n10_:=Aside0.mk ((by rw [hg];exact Nat.ne_of_gt (IsS74.lt (show IsS74 w0 _ g s0_0 t405 from by repeat (first|(with_reducible first|exact HI0.out|apply IsS74.alloc|apply IsS74.drewN|apply IsS74.drew|apply IsS74.set_1|refine IsS74.far ?_ NB0_398.out _)|exact HI0.out))):gb408≠g))
             clear HI0
             clear BK398
             clear HK
             clear HB
             have HI0:=n0_
             have BK398:=n1_
             have HK:=n2_
             have HB:=n3_
             have BK408:=n4_
             have GW408:=n5_
             have GE408:=n6_
             have NB398_408:=n7_
             have NB408_398:=n8_
             have NB0_408:=n9_
             have NB408_0:=n10_
             clear n0_ n1_ n2_ n3_ n4_ n5_ n6_ n7_ n8_ n9_ n10_
             clear hb hbox hg
             refine hK.out _ _ trivial (fun hHeld=>?_)
             clear hK K
             refine norm_ (a':=?_) ?_ ?_
             rotate_left
             ·show Act.put _ (some 4) _=_
              simp only [Act.put,yK,yL,yM,i64_w,i32_w]
              rfl
             exact norm_ (by first|(simp only [putAll,Act.put,yK,yL,yM];done)|(simp only [putAll,Act.put,yK,yL,yM];rfl)) (hJ4_10 (gb408) _ ⟨(by (with_reducible repeat (first|refine yE ?_ _|refine yF ?_|refine yG ?_ _));exact BK398.out),(by (with_reducible repeat (first|refine yE ?_ _|refine yF ?_|refine yG ?_ _));exact BK408.out),GW408.out,GE408.out,NB0_408.out,NB408_0.out,NB398_408.out,NB408_398.out,(by repeat (first|(with_reducible first|exact HI0.out|apply IsS74.alloc|apply IsS74.drewN|apply IsS74.drew|apply IsS74.set_1|refine IsS74.far ?_ NB0_398.out _|refine IsS74.far ?_ NB0_408.out _)|exact HI0.out)),(by repeat (first|(with_reducible first|exact HK.out|apply KeepBut.set_|apply keep_drewN|apply keep_drew|apply keep_alloc|refine keep_far ?_ GW398.out _|refine keep_far ?_ GW408.out _)|exact HK.out)),(by repeat (first|(with_reducible first|exact HB.out|apply yA|apply yB|apply yC|refine yD ?_ (IsS74.ge HI0.out)|refine yD ?_ GE398.out|refine yD ?_ GE408.out)|exact HB.out))⟩)
          ·skip
           rintro v402 w16 ⟨h0_,h1_,h2_,h3_,h4_⟩
           have n0_:Aside0 (Kd.R (Kd.int .i64) 3 w16 w.heap.size (fun _=>True) v402 y401):=⟨h0_⟩
           have n1_:Aside0 (w16.heap[gb398]?=some (.cells #[.slice none 0 0,.int .i64 0,.int .i64 0] 31 (0,0))):=⟨h1_⟩
           have n2_:Aside0 (IsS74 w0 w16 g s0_0 t400):=⟨h2_⟩
           have n3_:Aside0 (KeepBut w w16 g none):=⟨h3_⟩
           have n4_:Aside0 (Below w0.heap.size w0 w16):=⟨h4_⟩
           clear BK398
           clear HI0
           clear HK
           clear HB
           clear h0_ h1_ h2_ h3_ h4_
           have HO403:=n0_
           have BK398:=n1_
           have HI0:=n2_
           have HK:=n3_
           have HB:=n4_
           clear n0_ n1_ n2_ n3_ n4_
           have hHeld:=trivial
           refine norm_ (a':=?_) ?_ ?_
           rotate_left
           ·simp only [putAll,Act.put,yK,yL,yM]
            rfl
           refine two_ (i:=4) (j:=10) (Ni:=some 14) (Nj:=some 4) #[true,true,true,true,true,true,true,true,false,false,false,false] #[true,true,true,true,false,true,true,true,false,false,true,false] rfl rfl rfl rfl (two_of HT_.out (by kernel_rfl)) (by decide) (by decide) (fun K hK=>?_) (fun K hK=>?_)
           ·skip
            refine goes_ Try.func54 (by kernel_rfl) rfl #[.pointer (some ⟨g,0,none⟩),.int .i64 ji5] (by rfl) rfl rfl (by (try simp only [List.map_toArray,List.map_cons,List.map_nil]);first|done|(simp only [hji5];rfl)|rfl|(simp only [List.length_drop,List.length_take];rfl)) ?_
            with_reducible refine (spec_l6Rd_pick.calls k g s0_0 t400 ji5 t404 t405 w0 _ ?side1 ?side2 A6.out).mono ?_
            (case side1=>repeat (first|(with_reducible first|exact HI0.out|apply IsS74.alloc|apply IsS74.drewN|apply IsS74.drew|apply IsS74.set_1|refine IsS74.far ?_ NB0_398.out _)|exact HI0.out))
            (case side2=>repeat (first|(with_reducible first|exact HB.out|apply yA|apply yB|apply yC|refine yD ?_ (IsS74.ge HI0.out)|refine yD ?_ GE398.out)|exact HB.out))
            rintro e w17 ⟨rfl,hi,hb,hk⟩
            refine ⟨_,rfl,?_⟩
            have n0_:=Aside0.mk (KeepBut.blk hk (g':=gb398) (o:=.cells #[.slice none 0 0,.int .i64 0,.int .i64 0] 31 (0,0)) (by (with_reducible repeat (first|refine yE ?_ _|refine yF ?_|refine yG ?_ _));exact BK398.out) NB398_0.out (by simp))
            have n1_:=Aside0.mk (Kd.R_mono (Kd.R_keep (IsS74.apart (show IsS74 w0 _ g s0_0 t400 from by repeat (first|(with_reducible first|exact HI0.out|apply IsS74.alloc|apply IsS74.drewN|apply IsS74.drew|apply IsS74.set_1|refine IsS74.far ?_ NB0_398.out _)|exact HI0.out)) (by (with_reducible repeat (first|apply yH|apply yI|apply yJ));exact HO403.out) (by decide)) hk (fun _ h=>h.2)) (fun _ h=>h.1))
            have n2_:=Aside0.mk (KeepBut.trans (by repeat (first|(with_reducible first|exact HK.out|apply KeepBut.set_|apply keep_drewN|apply keep_drew|apply keep_alloc|refine keep_far ?_ GW398.out _)|exact HK.out)) hk (.inl rfl))
            have n3_:=Aside0.mk (hb)
            have n4_:=Aside0.mk (hi)
            clear BK398
            clear HO403
            clear HK
            clear HB
            clear HI0
            have BK398:=n0_
            have HO403:=n1_
            have HK:=n2_
            have HB:=n3_
            have HI0:=n4_
            clear n0_ n1_ n2_ n3_ n4_
            (try clear hb)
            (try clear hb2)
            (try clear hk)
            (try clear hi)
            refine hK.out _ _ trivial (fun hHeld=>?_)
            clear hK K
            refine norm_ (a':=?_) ?_ ?_
            rotate_left
            ·show Act.put _ (some 14) _=_
             simp only [Act.put,yK,yL,yM,i64_w,i32_w]
             rfl
            exact norm_ (by first|(simp only [putAll,Act.put,yK,yL,yM];done)|(simp only [putAll,Act.put,yK,yL,yM];rfl)) (hJ0_4 (v402) _ ⟨(by (with_reducible repeat (first|apply yH|apply yI|apply yJ));exact HO403.out),(by (with_reducible repeat (first|refine yE ?_ _|refine yF ?_|refine yG ?_ _));exact BK398.out),(by repeat (first|(with_reducible first|exact HI0.out|apply IsS74.alloc|apply IsS74.drewN|apply IsS74.drew|apply IsS74.set_1|refine IsS74.far ?_ NB0_398.out _)|exact HI0.out)),(by repeat (first|(with_reducible first|exact HK.out|apply KeepBut.set_|apply keep_drewN|apply keep_drew|apply keep_alloc|refine keep_far ?_ GW398.out _)|exact HK.out)),(by repeat (first|(with_reducible first|exact HB.out|apply yA|apply yB|apply yC|refine yD ?_ (IsS74.ge HI0.out)|refine yD ?_ GE398.out)|exact HB.out))⟩)
           ·skip
            refine box_step ?hg (N:=4) ?hd (cs:=#[.slice none 0 0,.int .i64 0,.int .i64 0]) (t:=31) ?hr ?_;(case hd=>rfl);(case hg=>rfl);(case hr=>first|(go_simp;done)|(go_simp;rfl))
            intro gb408 hg w17 hbox hb
            have n0_:=Aside0.mk (Kd.R_below (by (with_reducible repeat (first|apply yH|apply yI|apply yJ));exact HO403.out) hb)
            have n1_:=Aside0.mk (IsS74.below (by repeat (first|(with_reducible first|exact HI0.out|apply IsS74.alloc|apply IsS74.drewN|apply IsS74.drew|apply IsS74.set_1|refine IsS74.far ?_ NB0_398.out _)|exact HI0.out)) hb)
            have n2_:=Aside0.mk (blk_below (g:=gb398) (o:=.cells #[.slice none 0 0,.int .i64 0,.int .i64 0] 31 (0,0)) (by (with_reducible repeat (first|refine yE ?_ _|refine yF ?_|refine yG ?_ _));exact BK398.out) hb)
            have n3_:=Aside0.mk (KeepBut.trans (by repeat (first|(with_reducible first|exact HK.out|apply KeepBut.set_|apply keep_drewN|apply keep_drew|apply keep_alloc|refine keep_far ?_ GW398.out _)|exact HK.out)) (KeepBut.of_below hb g none) (.inl rfl))
            have n4_:=Aside0.mk (yP (by repeat (first|(with_reducible first|exact HB.out|apply yA|apply yB|apply yC|refine yD ?_ (IsS74.ge HI0.out)|refine yD ?_ GE398.out)|exact HB.out)) hb)
            have n5_:=Aside0.mk (hbox)
            have n6_:=Aside0.mk ((by rw [hg];exact (keep_size (w:=w) (g:=g) (row:=none) (by repeat (first|(with_reducible first|exact HK.out|apply KeepBut.set_|apply keep_drewN|apply keep_drew|apply keep_alloc|refine keep_far ?_ GW398.out _)|exact HK.out))):w.heap.size≤gb408))
            have n7_:=Aside0.mk ((Nat.le_trans HW0.out (by rw [hg];exact (keep_size (w:=w) (g:=g) (row:=none) (by repeat (first|(with_reducible first|exact HK.out|apply KeepBut.set_|apply keep_drewN|apply keep_drew|apply keep_alloc|refine keep_far ?_ GW398.out _)|exact HK.out))):w.heap.size≤gb408):w0.heap.size≤gb408))
            have n8_:=Aside0.mk ((by rw [hg];exact Nat.ne_of_lt (blk_lt (g:=gb398) (o:=.cells #[.slice none 0 0,.int .i64 0,.int .i64 0] 31 (0,0)) (by (with_reducible repeat (first|refine yE ?_ _|refine yF ?_|refine yG ?_ _));exact BK398.out)):gb398≠gb408))
            have n9_:=Aside0.mk ((by rw [hg];exact Nat.ne_of_gt (blk_lt (g:=gb398) (o:=.cells #[.slice none 0 0,.int .i64 0,.int .i64 0] 31 (0,0)) (by (with_reducible repeat (first|refine yE ?_ _|refine yF ?_|refine yG ?_ _));exact BK398.out)):gb408≠gb398))
            have n10_:=Aside0.mk ((by rw [hg];exact Nat.ne_of_lt (IsS74.lt (show IsS74 w0 _ g s0_0 t400 from by repeat (first|(with_reducible first|exact HI0.out|apply IsS74.alloc|apply IsS74.drewN|apply IsS74.drew|apply IsS74.set_1|refine IsS74.far ?_ NB0_398.out _)|exact HI0.out))):g≠gb408))
            have n11_:=Aside0.mk ((by rw [hg];exact Nat.ne_of_gt (IsS74.lt (show IsS74 w0 _ g s0_0 t400 from by repeat (first|(with_reducible first|exact HI0.out|apply IsS74.alloc|apply IsS74.drewN|apply IsS74.drew|apply IsS74.set_1|refine IsS74.far ?_ NB0_398.out _)|exact HI0.out))):gb408≠g))
            clear HO403
            clear HI0
            clear BK398
            clear HK
            clear HB
            have HO403:=n0_
            have HI0:=n1_
            have BK398:=n2_
            have HK:=n3_
            have HB:=n4_
            have BK408:=n5_
            have GW408:=n6_
            have GE408:=n7_
            have NB398_408:=n8_
            have NB408_398:=n9_
            have NB0_408:=n10_
            have NB408_0:=n11_
            clear n0_ n1_ n2_ n3_ n4_ n5_ n6_ n7_ n8_ n9_ n10_ n11_
            clear hb hbox hg
            refine hK.out _ _ trivial (fun hHeld=>?_)
            clear hK K
            refine norm_ (a':=?_) ?_ ?_
            rotate_left
            ·show Act.put _ (some 4) _=_
             simp only [Act.put,yK,yL,yM,i64_w,i32_w]
             rfl
            exact norm_ (by first|(simp only [putAll,Act.put,yK,yL,yM];done)|(simp only [putAll,Act.put,yK,yL,yM];rfl)) (hJ0_10 (v402,gb408) _ ⟨(by (with_reducible repeat (first|apply yH|apply yI|apply yJ));exact HO403.out),(by (with_reducible repeat (first|refine yE ?_ _|refine yF ?_|refine yG ?_ _));exact BK398.out),(by (with_reducible repeat (first|refine yE ?_ _|refine yF ?_|refine yG ?_ _));exact BK408.out),GW408.out,GE408.out,NB0_408.out,NB408_0.out,NB398_408.out,NB408_398.out,(by repeat (first|(with_reducible first|exact HI0.out|apply IsS74.alloc|apply IsS74.drewN|apply IsS74.drew|apply IsS74.set_1|refine IsS74.far ?_ NB0_398.out _|refine IsS74.far ?_ NB0_408.out _)|exact HI0.out)),(by repeat (first|(with_reducible first|exact HK.out|apply KeepBut.set_|apply keep_drewN|apply keep_drew|apply keep_alloc|refine keep_far ?_ GW398.out _|refine keep_far ?_ GW408.out _)|exact HK.out)),(by repeat (first|(with_reducible first|exact HB.out|apply yA|apply yB|apply yC|refine yD ?_ (IsS74.ge HI0.out)|refine yD ?_ GE398.out|refine yD ?_ GE408.out)|exact HB.out))⟩)
         ·skip
          rintro gb408 w16 ⟨h0_,h1_,h2_,h3_,h4_,h5_,h6_,h7_,h8_,h9_,h10_⟩
          have n0_:Aside0 (w16.heap[gb398]?=some (.cells #[.slice none 0 0,.int .i64 0,.int .i64 0] 31 (0,0))):=⟨h0_⟩
          have n1_:Aside0 (w16.heap[gb408]?=some (.cells #[.slice none 0 0,.int .i64 0,.int .i64 0] 31 (0,0))):=⟨h1_⟩
          have n2_:Aside0 (w.heap.size≤gb408):=⟨h2_⟩
          have n3_:Aside0 (w0.heap.size≤gb408):=⟨h3_⟩
          have n4_:Aside0 (g≠gb408):=⟨h4_⟩
          have n5_:Aside0 (gb408≠g):=⟨h5_⟩
          have n6_:Aside0 (gb398≠gb408):=⟨h6_⟩
          have n7_:Aside0 (gb408≠gb398):=⟨h7_⟩
          have n8_:Aside0 (IsS74 w0 w16 g s0_0 t405):=⟨h8_⟩
          have n9_:Aside0 (KeepBut w w16 g none):=⟨h9_⟩
          have n10_:Aside0 (Below w0.heap.size w0 w16):=⟨h10_⟩
          clear BK398
          clear HI0
          clear HK
          clear HB
          clear h0_ h1_ h2_ h3_ h4_ h5_ h6_ h7_ h8_ h9_ h10_
          have BK398:=n0_
          have BK408:=n1_
          have GW408:=n2_
          have GE408:=n3_
          have NB0_408:=n4_
          have NB408_0:=n5_
          have NB398_408:=n6_
          have NB408_398:=n7_
          have HI0:=n8_
          have HK:=n9_
          have HB:=n10_
          clear n0_ n1_ n2_ n3_ n4_ n5_ n6_ n7_ n8_ n9_ n10_
          have hHeld:=trivial
          refine norm_ (a':=?_) ?_ ?_
          rotate_left
          ·simp only [putAll,Act.put,yK,yL,yM]
           rfl
          refine two_ (i:=0) (j:=8) (Ni:=some 10) (Nj:=some 18) #[true,true,true,true,true,true,true,true,false,false,true,false] #[false,true,true,true,true,true,true,true,true,false,true,false] rfl rfl rfl rfl (two_of HT_.out (by kernel_rfl)) (by decide) (by decide) (fun K hK=>?_) (fun K hK=>?_)
          ·skip
           refine Kd.R_lit_step (Kd.int .i64) _ 3 ?hg (N:=10) ?hd (xs:=([]:List Int)) (inner:=[]) (ok:=fun _=>True) (okp:=fun _=>True) ?hr ?hp (fun _ hk=>hk) trivial (Below.refl _ _) (Nat.le_refl _) (by simp) ?_;(case hd=>rfl);(case hg=>rfl);(case hr=>first|(go_simp;done)|(go_simp;rfl));(case hp=>exact (Reps.none _ _))
           intro v402 w17 ho18 hb hg_ hnew_
           clear hg_ hnew_
           (first|rw [← Ny401.out] at ho18|(simp only [Int.reduceToNat] at ho18;rw [← Ny401.out] at ho18))
           have n0_:=Aside0.mk (Kd.R_lower ho18 (keep_size (w:=w) (g:=g) (row:=none) (by repeat (first|(with_reducible first|exact HK.out|apply KeepBut.set_|apply keep_drewN|apply keep_drew|apply keep_alloc|refine keep_far ?_ GW398.out _|refine keep_far ?_ GW408.out _)|exact HK.out))))
           have n1_:=Aside0.mk (IsS74.below (by repeat (first|(with_reducible first|exact HI0.out|apply IsS74.alloc|apply IsS74.drewN|apply IsS74.drew|apply IsS74.set_1|refine IsS74.far ?_ NB0_398.out _|refine IsS74.far ?_ NB0_408.out _)|exact HI0.out)) hb)
           have n2_:=Aside0.mk (blk_below (g:=gb398) (o:=.cells #[.slice none 0 0,.int .i64 0,.int .i64 0] 31 (0,0)) (by (with_reducible repeat (first|refine yE ?_ _|refine yF ?_|refine yG ?_ _));exact BK398.out) hb)
           have n3_:=Aside0.mk (blk_below (g:=gb408) (o:=.cells #[.slice none 0 0,.int .i64 0,.int .i64 0] 31 (0,0)) (by (with_reducible repeat (first|refine yE ?_ _|refine yF ?_|refine yG ?_ _));exact BK408.out) hb)
           have n4_:=Aside0.mk (KeepBut.trans (by repeat (first|(with_reducible first|exact HK.out|apply KeepBut.set_|apply keep_drewN|apply keep_drew|apply keep_alloc|refine keep_far ?_ GW398.out _|refine keep_far ?_ GW408.out _)|exact HK.out)) (KeepBut.of_below hb g none) (.inl rfl))
           have n5_:=Aside0.mk (yP (by repeat (first|(with_reducible first|exact HB.out|apply yA|apply yB|apply yC|refine yD ?_ (IsS74.ge HI0.out)|refine yD ?_ GE398.out|refine yD ?_ GE408.out)|exact HB.out)) hb)
           clear HI0
           clear BK398
           clear BK408
           clear HK
           clear HB
           have HO403:=n0_
           have HI0:=n1_
           have BK398:=n2_
           have BK408:=n3_
           have HK:=n4_
           have HB:=n5_
           clear n0_ n1_ n2_ n3_ n4_ n5_
           clear hb ho18
           refine hK.out _ _ trivial (fun hHeld=>?_)
           clear hK K
           refine norm_ (a':=?_) ?_ ?_
           rotate_left
           ·show Act.put _ (some 10) _=_
            simp only [Act.put,yK,yL,yM,i64_w,i32_w]
            rfl
           exact norm_ (by first|(simp only [putAll,Act.put,yK,yL,yM];done)|(simp only [putAll,Act.put,yK,yL,yM];rfl)) (hJ0_4_10 (v402,gb408) _ ⟨(by (with_reducible repeat (first|apply yH|apply yI|apply yJ));exact HO403.out),(by (with_reducible repeat (first|refine yE ?_ _|refine yF ?_|refine yG ?_ _));exact BK398.out),(by (with_reducible repeat (first|refine yE ?_ _|refine yF ?_|refine yG ?_ _));exact BK408.out),GW408.out,GE408.out,NB0_408.out,NB408_0.out,NB398_408.out,NB408_398.out,(by repeat (first|(with_reducible first|exact HI0.out|apply IsS74.alloc|apply IsS74.drewN|apply IsS74.drew|apply IsS74.set_1|refine IsS74.far ?_ NB0_398.out _|refine IsS74.far ?_ NB0_408.out _)|exact HI0.out)),(by repeat (first|(with_reducible first|exact HK.out|apply KeepBut.set_|apply keep_drewN|apply keep_drew|apply keep_alloc|refine keep_far ?_ GW398.out _|refine keep_far ?_ GW408.out _)|exact HK.out)),(by repeat (first|(with_reducible first|exact HB.out|apply yA|apply yB|apply yC|refine yD ?_ (IsS74.ge HI0.out)|refine yD ?_ GE398.out|refine yD ?_ GE408.out)|exact HB.out))⟩)
          ·skip
           refine goes_ Try.func54 (by kernel_rfl) rfl #[.pointer (some ⟨g,0,none⟩),.int .i64 ji5] (by rfl) rfl rfl (by (try simp only [List.map_toArray,List.map_cons,List.map_nil]);first|done|(simp only [hji5];rfl)|rfl|(simp only [List.length_drop,List.length_take];rfl)) ?_
           with_reducible refine (spec_l6Rd_pick.calls k g s0_0 t405 ji5 t406 t407 w0 _ ?side1 ?side2 A9.out).mono ?_
           (case side1=>repeat (first|(with_reducible first|exact HI0.out|apply IsS74.alloc|apply IsS74.drewN|apply IsS74.drew|apply IsS74.set_1|refine IsS74.far ?_ NB0_398.out _|refine IsS74.far ?_ NB0_408.out _)|exact HI0.out))
           (case side2=>repeat (first|(with_reducible first|exact HB.out|apply yA|apply yB|apply yC|refine yD ?_ (IsS74.ge HI0.out)|refine yD ?_ GE398.out|refine yD ?_ GE408.out)|exact HB.out))
           rintro e w17 ⟨rfl,hi,hb,hk⟩
           refine ⟨_,rfl,?_⟩
           have n0_:=Aside0.mk (KeepBut.blk hk (g':=gb398) (o:=.cells #[.slice none 0 0,.int .i64 0,.int .i64 0] 31 (0,0)) (by (with_reducible repeat (first|refine yE ?_ _|refine yF ?_|refine yG ?_ _));exact BK398.out) NB398_0.out (by simp))
           have n1_:=Aside0.mk (KeepBut.blk hk (g':=gb408) (o:=.cells #[.slice none 0 0,.int .i64 0,.int .i64 0] 31 (0,0)) (by (with_reducible repeat (first|refine yE ?_ _|refine yF ?_|refine yG ?_ _));exact BK408.out) NB408_0.out (by simp))
           have n2_:=Aside0.mk (KeepBut.trans (by repeat (first|(with_reducible first|exact HK.out|apply KeepBut.set_|apply keep_drewN|apply keep_drew|apply keep_alloc|refine keep_far ?_ GW398.out _|refine keep_far ?_ GW408.out _)|exact HK.out)) hk (.inl rfl))
           have n3_:=Aside0.mk (hb)
           have n4_:=Aside0.mk (hi)
           clear BK398
           clear BK408
           clear HK
           clear HB
           clear HI0
           have BK398:=n0_
           have BK408:=n1_
           have HK:=n2_
           have HB:=n3_
           have HI0:=n4_
           clear n0_ n1_ n2_ n3_ n4_
           (try clear hb)
           (try clear hb2)
           (try clear hk)
           (try clear hi)
           refine hK.out _ _ trivial (fun hHeld=>?_)
           clear hK K
           refine norm_ (a':=?_) ?_ ?_
           rotate_left
           ·show Act.put _ (some 18) _=_
            simp only [Act.put,yK,yL,yM,i64_w,i32_w]
            rfl
           exact norm_ (by first|(simp only [putAll,Act.put,yK,yL,yM];done)|(simp only [putAll,Act.put,yK,yL,yM];rfl)) (hJ4_8_10 (gb408) _ ⟨(by (with_reducible repeat (first|refine yE ?_ _|refine yF ?_|refine yG ?_ _));exact BK398.out),(by (with_reducible repeat (first|refine yE ?_ _|refine yF ?_|refine yG ?_ _));exact BK408.out),GW408.out,GE408.out,NB0_408.out,NB408_0.out,NB398_408.out,NB408_398.out,(by repeat (first|(with_reducible first|exact HI0.out|apply IsS74.alloc|apply IsS74.drewN|apply IsS74.drew|apply IsS74.set_1|refine IsS74.far ?_ NB0_398.out _|refine IsS74.far ?_ NB0_408.out _)|exact HI0.out)),(by repeat (first|(with_reducible first|exact HK.out|apply KeepBut.set_|apply keep_drewN|apply keep_drew|apply keep_alloc|refine keep_far ?_ GW398.out _|refine keep_far ?_ GW408.out _)|exact HK.out)),(by repeat (first|(with_reducible first|exact HB.out|apply yA|apply yB|apply yC|refine yD ?_ (IsS74.ge HI0.out)|refine yD ?_ GE398.out|refine yD ?_ GE408.out)|exact HB.out))⟩)
        ·skip
         rintro _ w16 ⟨h0_,h1_,h2_,h3_⟩
         have n0_:Aside0 (w16.heap[gb398]?=some (.cells #[.slice none 0 0,.int .i64 0,.int .i64 0] 31 (0,0))):=⟨h0_⟩
         have n1_:Aside0 (IsS74 w0 w16 g s0_0 t407):=⟨h1_⟩
         have n2_:Aside0 (KeepBut w w16 g none):=⟨h2_⟩
         have n3_:Aside0 (Below w0.heap.size w0 w16):=⟨h3_⟩
         clear BK398
         clear HI0
         clear HK
         clear HB
         clear h0_ h1_ h2_ h3_
         have BK398:=n0_
         have HI0:=n1_
         have HK:=n2_
         have HB:=n3_
         clear n0_ n1_ n2_ n3_
         have hHeld:=trivial
         refine norm_ (a':=?_) ?_ ?_
         rotate_left
         ·simp only [putAll,Act.put,yK,yL,yM]
          rfl
         refine two_ (i:=0) (j:=10) (Ni:=some 10) (Nj:=some 4) #[true,true,true,true,true,true,true,true,true,false,false,false] #[false,true,true,true,true,true,true,true,true,false,true,false] rfl rfl rfl rfl (two_of HT_.out (by kernel_rfl)) (by decide) (by decide) (fun K hK=>?_) (fun K hK=>?_)
         ·skip
          refine Kd.R_lit_step (Kd.int .i64) _ 3 ?hg (N:=10) ?hd (xs:=([]:List Int)) (inner:=[]) (ok:=fun _=>True) (okp:=fun _=>True) ?hr ?hp (fun _ hk=>hk) trivial (Below.refl _ _) (Nat.le_refl _) (by simp) ?_;(case hd=>rfl);(case hg=>rfl);(case hr=>first|(go_simp;done)|(go_simp;rfl));(case hp=>exact (Reps.none _ _))
          intro v402 w17 ho18 hb hg_ hnew_
          clear hg_ hnew_
          (first|rw [← Ny401.out] at ho18|(simp only [Int.reduceToNat] at ho18;rw [← Ny401.out] at ho18))
          have n0_:=Aside0.mk (Kd.R_lower ho18 (keep_size (w:=w) (g:=g) (row:=none) (by repeat (first|(with_reducible first|exact HK.out|apply KeepBut.set_|apply keep_drewN|apply keep_drew|apply keep_alloc|refine keep_far ?_ GW398.out _)|exact HK.out))))
          have n1_:=Aside0.mk (IsS74.below (by repeat (first|(with_reducible first|exact HI0.out|apply IsS74.alloc|apply IsS74.drewN|apply IsS74.drew|apply IsS74.set_1|refine IsS74.far ?_ NB0_398.out _)|exact HI0.out)) hb)
          have n2_:=Aside0.mk (blk_below (g:=gb398) (o:=.cells #[.slice none 0 0,.int .i64 0,.int .i64 0] 31 (0,0)) (by (with_reducible repeat (first|refine yE ?_ _|refine yF ?_|refine yG ?_ _));exact BK398.out) hb)
          have n3_:=Aside0.mk (KeepBut.trans (by repeat (first|(with_reducible first|exact HK.out|apply KeepBut.set_|apply keep_drewN|apply keep_drew|apply keep_alloc|refine keep_far ?_ GW398.out _)|exact HK.out)) (KeepBut.of_below hb g none) (.inl rfl))
          have n4_:=Aside0.mk (yP (by repeat (first|(with_reducible first|exact HB.out|apply yA|apply yB|apply yC|refine yD ?_ (IsS74.ge HI0.out)|refine yD ?_ GE398.out)|exact HB.out)) hb)
          clear HI0
          clear BK398
          clear HK
          clear HB
          have HO403:=n0_
          have HI0:=n1_
          have BK398:=n2_
          have HK:=n3_
          have HB:=n4_
          clear n0_ n1_ n2_ n3_ n4_
          clear hb ho18
          obtain ⟨Ao19,co19,eo19⟩:=Kd.R_slice HO403.out
          (first|subst eo19|(injection eo19 with f1_ f2_ f3_;have f4_:=f1_.symm;have f5_:=f3_.symm;clear f1_ f2_ f3_;subst f4_;subst f5_))
          refine hK.out _ _ trivial (fun hHeld=>?_)
          clear hK K
          refine norm_ (a':=?_) ?_ ?_
          rotate_left
          ·show Act.put _ (some 10) _=_
           simp only [Act.put,yK,yL,yM,i64_w,i32_w]
           rfl
          refine pure_ (i:=9) (N:=some 19) (v:=?_) (a':=?_) #[true,true,true,true,true,true,true,true,true,true,false,false] rfl rfl (any_of HT_.out (by kernel_rfl)) (fun _ _ _ h=>h) (Or.inl ⟨by rfl,?_⟩) ?_ ?_
          rotate_left
          ·intro w'
           go_simp
           with_reducible rfl
          rotate_left
          ·simp only [Act.put,yK,yL,yM,i64_w,i32_w]
           rfl
          exact norm_ (by first|(simp only [putAll,Act.put,yK,yL,yM];done)|(simp only [putAll,Act.put,yK,yL,yM];rfl)) (hJ0_4_8 (.slice Ao19 y401.length co19) _ ⟨(by (with_reducible repeat (first|apply yH|apply yI|apply yJ));exact HO403.out),(by (with_reducible repeat (first|refine yE ?_ _|refine yF ?_|refine yG ?_ _));exact BK398.out),(by repeat (first|(with_reducible first|exact HI0.out|apply IsS74.alloc|apply IsS74.drewN|apply IsS74.drew|apply IsS74.set_1|refine IsS74.far ?_ NB0_398.out _)|exact HI0.out)),(by repeat (first|(with_reducible first|exact HK.out|apply KeepBut.set_|apply keep_drewN|apply keep_drew|apply keep_alloc|refine keep_far ?_ GW398.out _)|exact HK.out)),(by repeat (first|(with_reducible first|exact HB.out|apply yA|apply yB|apply yC|refine yD ?_ (IsS74.ge HI0.out)|refine yD ?_ GE398.out)|exact HB.out))⟩)
         ·skip
          refine box_step ?hg (N:=4) ?hd (cs:=#[.slice none 0 0,.int .i64 0,.int .i64 0]) (t:=31) ?hr ?_;(case hd=>rfl);(case hg=>rfl);(case hr=>first|(go_simp;done)|(go_simp;rfl))
          intro gb408 hg w17 hbox hb
          have n0_:=Aside0.mk (IsS74.below (by repeat (first|(with_reducible first|exact HI0.out|apply IsS74.alloc|apply IsS74.drewN|apply IsS74.drew|apply IsS74.set_1|refine IsS74.far ?_ NB0_398.out _)|exact HI0.out)) hb)
          have n1_:=Aside0.mk (blk_below (g:=gb398) (o:=.cells #[.slice none 0 0,.int .i64 0,.int .i64 0] 31 (0,0)) (by (with_reducible repeat (first|refine yE ?_ _|refine yF ?_|refine yG ?_ _));exact BK398.out) hb)
          have n2_:=Aside0.mk (KeepBut.trans (by repeat (first|(with_reducible first|exact HK.out|apply KeepBut.set_|apply keep_drewN|apply keep_drew|apply keep_alloc|refine keep_far ?_ GW398.out _)|exact HK.out)) (KeepBut.of_below hb g none) (.inl rfl))
          have n3_:=Aside0.mk (yP (by repeat (first|(with_reducible first|exact HB.out|apply yA|apply yB|apply yC|refine yD ?_ (IsS74.ge HI0.out)|refine yD ?_ GE398.out)|exact HB.out)) hb)
          have n4_:=Aside0.mk (hbox)
          have n5_:=Aside0.mk ((by rw [hg];exact (keep_size (w:=w) (g:=g) (row:=none) (by repeat (first|(with_reducible first|exact HK.out|apply KeepBut.set_|apply keep_drewN|apply keep_drew|apply keep_alloc|refine keep_far ?_ GW398.out _)|exact HK.out))):w.heap.size≤gb408))
          have n6_:=Aside0.mk ((Nat.le_trans HW0.out (by rw [hg];exact (keep_size (w:=w) (g:=g) (row:=none) (by repeat (first|(with_reducible first|exact HK.out|apply KeepBut.set_|apply keep_drewN|apply keep_drew|apply keep_alloc|refine keep_far ?_ GW398.out _)|exact HK.out))):w.heap.size≤gb408):w0.heap.size≤gb408))
          have n7_:=Aside0.mk ((by rw [hg];exact Nat.ne_of_lt (blk_lt (g:=gb398) (o:=.cells #[.slice none 0 0,.int .i64 0,.int .i64 0] 31 (0,0)) (by (with_reducible repeat (first|refine yE ?_ _|refine yF ?_|refine yG ?_ _));exact BK398.out)):gb398≠gb408))
          have n8_:=Aside0.mk ((by rw [hg];exact Nat.ne_of_gt (blk_lt (g:=gb398) (o:=.cells #[.slice none 0 0,.int .i64 0,.int .i64 0] 31 (0,0)) (by (with_reducible repeat (first|refine yE ?_ _|refine yF ?_|refine yG ?_ _));exact BK398.out)):gb408≠gb398))
          have n9_:=Aside0.mk ((by rw [hg];exact Nat.ne_of_lt (IsS74.lt (show IsS74 w0 _ g s0_0 t407 from by repeat (first|(with_reducible first|exact HI0.out|apply IsS74.alloc|apply IsS74.drewN|apply IsS74.drew|apply IsS74.set_1|refine IsS74.far ?_ NB0_398.out _)|exact HI0.out))):g≠gb408))
          have n10_:=Aside0.mk ((by rw [hg];exact Nat.ne_of_gt (IsS74.lt (show IsS74 w0 _ g s0_0 t407 from by repeat (first|(with_reducible first|exact HI0.out|apply IsS74.alloc|apply IsS74.drewN|apply IsS74.drew|apply IsS74.set_1|refine IsS74.far ?_ NB0_398.out _)|exact HI0.out))):gb408≠g))
          clear HI0
          clear BK398
          clear HK
          clear HB
          have HI0:=n0_
          have BK398:=n1_
          have HK:=n2_
          have HB:=n3_
          have BK408:=n4_
          have GW408:=n5_
          have GE408:=n6_
          have NB398_408:=n7_
          have NB408_398:=n8_
          have NB0_408:=n9_
          have NB408_0:=n10_
          clear n0_ n1_ n2_ n3_ n4_ n5_ n6_ n7_ n8_ n9_ n10_
          clear hb hbox hg
          refine hK.out _ _ trivial (fun hHeld=>?_)
          clear hK K
          refine norm_ (a':=?_) ?_ ?_
          rotate_left
          ·show Act.put _ (some 4) _=_
           simp only [Act.put,yK,yL,yM,i64_w,i32_w]
           rfl
          exact norm_ (by first|(simp only [putAll,Act.put,yK,yL,yM];done)|(simp only [putAll,Act.put,yK,yL,yM];rfl)) (hJ4_8_10 (gb408) _ ⟨(by (with_reducible repeat (first|refine yE ?_ _|refine yF ?_|refine yG ?_ _));exact BK398.out),(by (with_reducible repeat (first|refine yE ?_ _|refine yF ?_|refine yG ?_ _));exact BK408.out),GW408.out,GE408.out,NB0_408.out,NB408_0.out,NB398_408.out,NB408_398.out,(by repeat (first|(with_reducible first|exact HI0.out|apply IsS74.alloc|apply IsS74.drewN|apply IsS74.drew|apply IsS74.set_1|refine IsS74.far ?_ NB0_398.out _|refine IsS74.far ?_ NB0_408.out _)|exact HI0.out)),(by repeat (first|(with_reducible first|exact HK.out|apply KeepBut.set_|apply keep_drewN|apply keep_drew|apply keep_alloc|refine keep_far ?_ GW398.out _|refine keep_far ?_ GW408.out _)|exact HK.out)),(by repeat (first|(with_reducible first|exact HB.out|apply yA|apply yB|apply yC|refine yD ?_ (IsS74.ge HI0.out)|refine yD ?_ GE398.out|refine yD ?_ GE408.out)|exact HB.out))⟩)
       ·skip
        rintro ⟨v402,gb408⟩ w17 ⟨h0_,h1_,h2_,h3_,h4_,h5_,h6_,h7_,h8_,h9_,h10_,h11_⟩
        have n0_:Aside0 (Kd.R (Kd.int .i64) 3 w17 w.heap.size (fun _=>True) v402 y401):=⟨h0_⟩
        have n1_:Aside0 (w17.heap[gb398]?=some (.cells #[.slice none 0 0,.int .i64 0,.int .i64 0] 31 (0,0))):=⟨h1_⟩
        have n2_:Aside0 (w17.heap[gb408]?=some (.cells #[.slice none 0 0,.int .i64 0,.int .i64 0] 31 (0,0))):=⟨h2_⟩
        have n3_:Aside0 (w.heap.size≤gb408):=⟨h3_⟩
        have n4_:Aside0 (w0.heap.size≤gb408):=⟨h4_⟩
        have n5_:Aside0 (g≠gb408):=⟨h5_⟩
        have n6_:Aside0 (gb408≠g):=⟨h6_⟩
        have n7_:Aside0 (gb398≠gb408):=⟨h7_⟩
        have n8_:Aside0 (gb408≠gb398):=⟨h8_⟩
        have n9_:Aside0 (IsS74 w0 w17 g s0_0 t400):=⟨h9_⟩
        have n10_:Aside0 (KeepBut w w17 g none):=⟨h10_⟩
        have n11_:Aside0 (Below w0.heap.size w0 w17):=⟨h11_⟩
        clear BK398
        clear HI0
        clear HK
        clear HB
        clear h0_ h1_ h2_ h3_ h4_ h5_ h6_ h7_ h8_ h9_ h10_ h11_
        have HO403:=n0_
        have BK398:=n1_
        have BK408:=n2_
        have GW408:=n3_
        have GE408:=n4_
        have NB0_408:=n5_
        have NB408_0:=n6_
        have NB398_408:=n7_
        have NB408_398:=n8_
        have HI0:=n9_
        have HK:=n10_
        have HB:=n11_
        clear n0_ n1_ n2_ n3_ n4_ n5_ n6_ n7_ n8_ n9_ n10_ n11_
        have hHeld:=trivial
        refine norm_ (a':=?_) ?_ ?_
        rotate_left
        ·simp only [putAll,Act.put,yK,yL,yM]
         rfl
        refine one_ (i:=4) (N:=some 14) #[true,true,true,true,true,true,true,true,false,false,true,false] rfl rfl (one_of HT_.out (by kernel_rfl)) (by decide) (fun K hK=>?_)
        refine goes_ Try.func54 (by kernel_rfl) rfl #[.pointer (some ⟨g,0,none⟩),.int .i64 ji5] (by rfl) rfl rfl (by (try simp only [List.map_toArray,List.map_cons,List.map_nil]);first|done|(simp only [hji5];rfl)|rfl|(simp only [List.length_drop,List.length_take];rfl)) ?_
        with_reducible refine (spec_l6Rd_pick.calls k g s0_0 t400 ji5 t404 t405 w0 _ ?side1 ?side2 A6.out).mono ?_
        (case side1=>repeat (first|(with_reducible first|exact HI0.out|apply IsS74.alloc|apply IsS74.drewN|apply IsS74.drew|apply IsS74.set_1|refine IsS74.far ?_ NB0_398.out _|refine IsS74.far ?_ NB0_408.out _)|exact HI0.out))
        (case side2=>repeat (first|(with_reducible first|exact HB.out|apply yA|apply yB|apply yC|refine yD ?_ (IsS74.ge HI0.out)|refine yD ?_ GE398.out|refine yD ?_ GE408.out)|exact HB.out))
        rintro e w18 ⟨rfl,hi,hb,hk⟩
        refine ⟨_,rfl,?_⟩
        have n0_:=Aside0.mk (KeepBut.blk hk (g':=gb398) (o:=.cells #[.slice none 0 0,.int .i64 0,.int .i64 0] 31 (0,0)) (by (with_reducible repeat (first|refine yE ?_ _|refine yF ?_|refine yG ?_ _));exact BK398.out) NB398_0.out (by simp))
        have n1_:=Aside0.mk (Kd.R_mono (Kd.R_keep (IsS74.apart (show IsS74 w0 _ g s0_0 t400 from by repeat (first|(with_reducible first|exact HI0.out|apply IsS74.alloc|apply IsS74.drewN|apply IsS74.drew|apply IsS74.set_1|refine IsS74.far ?_ NB0_398.out _|refine IsS74.far ?_ NB0_408.out _)|exact HI0.out)) (by (with_reducible repeat (first|apply yH|apply yI|apply yJ));exact HO403.out) (by decide)) hk (fun _ h=>h.2)) (fun _ h=>h.1))
        have n2_:=Aside0.mk (KeepBut.blk hk (g':=gb408) (o:=.cells #[.slice none 0 0,.int .i64 0,.int .i64 0] 31 (0,0)) (by (with_reducible repeat (first|refine yE ?_ _|refine yF ?_|refine yG ?_ _));exact BK408.out) NB408_0.out (by simp))
        have n3_:=Aside0.mk (KeepBut.trans (by repeat (first|(with_reducible first|exact HK.out|apply KeepBut.set_|apply keep_drewN|apply keep_drew|apply keep_alloc|refine keep_far ?_ GW398.out _|refine keep_far ?_ GW408.out _)|exact HK.out)) hk (.inl rfl))
        have n4_:=Aside0.mk (hb)
        have n5_:=Aside0.mk (hi)
        clear BK398
        clear HO403
        clear BK408
        clear HK
        clear HB
        clear HI0
        have BK398:=n0_
        have HO403:=n1_
        have BK408:=n2_
        have HK:=n3_
        have HB:=n4_
        have HI0:=n5_
        clear n0_ n1_ n2_ n3_ n4_ n5_
        (try clear hb)
        (try clear hb2)
        (try clear hk)
        (try clear hi)
        refine hK.out _ _ trivial (fun hHeld=>?_)
        clear hK K
        refine norm_ (a':=?_) ?_ ?_
        rotate_left
        ·show Act.put _ (some 14) _=_
         simp only [Act.put,yK,yL,yM,i64_w,i32_w]
         rfl
        exact norm_ (by first|(simp only [putAll,Act.put,yK,yL,yM];done)|(simp only [putAll,Act.put,yK,yL,yM];rfl)) (hJ0_4_10 (v402,gb408) _ ⟨(by (with_reducible repeat (first|apply yH|apply yI|apply yJ));exact HO403.out),(by (with_reducible repeat (first|refine yE ?_ _|refine yF ?_|refine yG ?_ _));exact BK398.out),(by (with_reducible repeat (first|refine yE ?_ _|refine yF ?_|refine yG ?_ _));exact BK408.out),GW408.out,GE408.out,NB0_408.out,NB408_0.out,NB398_408.out,NB408_398.out,(by repeat (first|(with_reducible first|exact HI0.out|apply IsS74.alloc|apply IsS74.drewN|apply IsS74.drew|apply IsS74.set_1|refine IsS74.far ?_ NB0_398.out _|refine IsS74.far ?_ NB0_408.out _)|exact HI0.out)),(by repeat (first|(with_reducible first|exact HK.out|apply KeepBut.set_|apply keep_drewN|apply keep_drew|apply keep_alloc|refine keep_far ?_ GW398.out _|refine keep_far ?_ GW408.out _)|exact HK.out)),(by repeat (first|(with_reducible first|exact HB.out|apply yA|apply yB|apply yC|refine yD ?_ (IsS74.ge HI0.out)|refine yD ?_ GE398.out|refine yD ?_ GE408.out)|exact HB.out))⟩)
      ·skip
       rintro v402 w17 ⟨h0_,h1_,h2_,h3_,h4_⟩
       have n0_:Aside0 (Kd.R (Kd.int .i64) 3 w17 w.heap.size (fun _=>True) v402 y401):=⟨h0_⟩
       have n1_:Aside0 (w17.heap[gb398]?=some (.cells #[.slice none 0 0,.int .i64 0,.int .i64 0] 31 (0,0))):=⟨h1_⟩
       have n2_:Aside0 (IsS74 w0 w17 g s0_0 t405):=⟨h2_⟩
       have n3_:Aside0 (KeepBut w w17 g none):=⟨h3_⟩
       have n4_:Aside0 (Below w0.heap.size w0 w17):=⟨h4_⟩
       clear BK398
       clear HI0
       clear HK
       clear HB
       clear h0_ h1_ h2_ h3_ h4_
       have HO403:=n0_
       have BK398:=n1_
       have HI0:=n2_
       have HK:=n3_
       have HB:=n4_
       clear n0_ n1_ n2_ n3_ n4_
       have hHeld:=trivial
       refine norm_ (a':=?_) ?_ ?_
       rotate_left
       ·simp only [putAll,Act.put,yK,yL,yM]
        rfl
       refine two_ (i:=8) (j:=10) (Ni:=some 18) (Nj:=some 4) #[true,true,true,true,true,true,true,true,true,false,false,false] #[true,true,true,true,true,true,true,true,false,false,true,false] rfl rfl rfl rfl (two_of HT_.out (by kernel_rfl)) (by decide) (by decide) (fun K hK=>?_) (fun K hK=>?_)
       ·skip
        refine goes_ Try.func54 (by kernel_rfl) rfl #[.pointer (some ⟨g,0,none⟩),.int .i64 ji5] (by rfl) rfl rfl (by (try simp only [List.map_toArray,List.map_cons,List.map_nil]);first|done|(simp only [hji5];rfl)|rfl|(simp only [List.length_drop,List.length_take];rfl)) ?_
        with_reducible refine (spec_l6Rd_pick.calls k g s0_0 t405 ji5 t406 t407 w0 _ ?side1 ?side2 A9.out).mono ?_
        (case side1=>repeat (first|(with_reducible first|exact HI0.out|apply IsS74.alloc|apply IsS74.drewN|apply IsS74.drew|apply IsS74.set_1|refine IsS74.far ?_ NB0_398.out _)|exact HI0.out))
        (case side2=>repeat (first|(with_reducible first|exact HB.out|apply yA|apply yB|apply yC|refine yD ?_ (IsS74.ge HI0.out)|refine yD ?_ GE398.out)|exact HB.out))
        rintro e w18 ⟨rfl,hi,hb,hk⟩
        refine ⟨_,rfl,?_⟩
        have n0_:=Aside0.mk (KeepBut.blk hk (g':=gb398) (o:=.cells #[.slice none 0 0,.int .i64 0,.int .i64 0] 31 (0,0)) (by (with_reducible repeat (first|refine yE ?_ _|refine yF ?_|refine yG ?_ _));exact BK398.out) NB398_0.out (by simp))
        have n1_:=Aside0.mk (Kd.R_mono (Kd.R_keep (IsS74.apart (show IsS74 w0 _ g s0_0 t405 from by repeat (first|(with_reducible first|exact HI0.out|apply IsS74.alloc|apply IsS74.drewN|apply IsS74.drew|apply IsS74.set_1|refine IsS74.far ?_ NB0_398.out _)|exact HI0.out)) (by (with_reducible repeat (first|apply yH|apply yI|apply yJ));exact HO403.out) (by decide)) hk (fun _ h=>h.2)) (fun _ h=>h.1))
        have n2_:=Aside0.mk (KeepBut.trans (by repeat (first|(with_reducible first|exact HK.out|apply KeepBut.set_|apply keep_drewN|apply keep_drew|apply keep_alloc|refine keep_far ?_ GW398.out _)|exact HK.out)) hk (.inl rfl))
        have n3_:=Aside0.mk (hb)
        have n4_:=Aside0.mk (hi)
        clear BK398
        clear HO403
        clear HK
        clear HB
        clear HI0
        have BK398:=n0_
        have HO403:=n1_
        have HK:=n2_
        have HB:=n3_
        have HI0:=n4_
        clear n0_ n1_ n2_ n3_ n4_
        (try clear hb)
        (try clear hb2)
        (try clear hk)
        (try clear hi)
        obtain ⟨Ao19,co19,eo19⟩:=Kd.R_slice HO403.out
        (first|subst eo19|(injection eo19 with f1_ f2_ f3_;have f4_:=f1_.symm;have f5_:=f3_.symm;clear f1_ f2_ f3_;subst f4_;subst f5_))
        refine hK.out _ _ trivial (fun hHeld=>?_)
        clear hK K
        refine norm_ (a':=?_) ?_ ?_
        rotate_left
        ·show Act.put _ (some 18) _=_
         simp only [Act.put,yK,yL,yM,i64_w,i32_w]
         rfl
        refine pure_ (i:=9) (N:=some 19) (v:=?_) (a':=?_) #[true,true,true,true,true,true,true,true,true,true,false,false] rfl rfl (any_of HT_.out (by kernel_rfl)) (fun _ _ _ h=>h) (Or.inl ⟨by rfl,?_⟩) ?_ ?_
        rotate_left
        ·intro w'
         go_simp
         with_reducible rfl
        rotate_left
        ·simp only [Act.put,yK,yL,yM,i64_w,i32_w]
         rfl
        exact norm_ (by first|(simp only [putAll,Act.put,yK,yL,yM];done)|(simp only [putAll,Act.put,yK,yL,yM];rfl)) (hJ0_4_8 (.slice Ao19 y401.length co19) _ ⟨(by (with_reducible repeat (first|apply yH|apply yI|apply yJ));exact HO403.out),(by (with_reducible repeat (first|refine yE ?_ _|refine yF ?_|refine yG ?_ _));exact BK398.out),(by repeat (first|(with_reducible first|exact HI0.out|apply IsS74.alloc|apply IsS74.drewN|apply IsS74.drew|apply IsS74.set_1|refine IsS74.far ?_ NB0_398.out _)|exact HI0.out)),(by repeat (first|(with_reducible first|exact HK.out|apply KeepBut.set_|apply keep_drewN|apply keep_drew|apply keep_alloc|refine keep_far ?_ GW398.out _)|exact HK.out)),(by repeat (first|(with_reducible first|exact HB.out|apply yA|apply yB|apply yC|refine yD ?_ (IsS74.ge HI0.out)|refine yD ?_ GE398.out)|exact HB.out))⟩)
       ·skip
        refine box_step ?hg (N:=4) ?hd (cs:=#[.slice none 0 0,.int .i64 0,.int .i64 0]) (t:=31) ?hr ?_;(case hd=>rfl);(case hg=>rfl);(case hr=>first|(go_simp;done)|(go_simp;rfl))
        intro gb408 hg w18 hbox hb
        have n0_:=Aside0.mk (Kd.R_below (by (with_reducible repeat (first|apply yH|apply yI|apply yJ));exact HO403.out) hb)
        have n1_:=Aside0.mk (IsS74.below (by repeat (first|(with_reducible first|exact HI0.out|apply IsS74.alloc|apply IsS74.drewN|apply IsS74.drew|apply IsS74.set_1|refine IsS74.far ?_ NB0_398.out _)|exact HI0.out)) hb)
        have n2_:=Aside0.mk (blk_below (g:=gb398) (o:=.cells #[.slice none 0 0,.int .i64 0,.int .i64 0] 31 (0,0)) (by (with_reducible repeat (first|refine yE ?_ _|refine yF ?_|refine yG ?_ _));exact BK398.out) hb)
        have n3_:=Aside0.mk (KeepBut.trans (by repeat (first|(with_reducible first|exact HK.out|apply KeepBut.set_|apply keep_drewN|apply keep_drew|apply keep_alloc|refine keep_far ?_ GW398.out _)|exact HK.out)) (KeepBut.of_below hb g none) (.inl rfl))
        have n4_:=Aside0.mk (yP (by repeat (first|(with_reducible first|exact HB.out|apply yA|apply yB|apply yC|refine yD ?_ (IsS74.ge HI0.out)|refine yD ?_ GE398.out)|exact HB.out)) hb)
        have n5_:=Aside0.mk (hbox)
        have n6_:=Aside0.mk ((by rw [hg];exact (keep_size (w:=w) (g:=g) (row:=none) (by repeat (first|(with_reducible first|exact HK.out|apply KeepBut.set_|apply keep_drewN|apply keep_drew|apply keep_alloc|refine keep_far ?_ GW398.out _)|exact HK.out))):w.heap.size≤gb408))
        have n7_:=Aside0.mk ((Nat.le_trans HW0.out (by rw [hg];exact (keep_size (w:=w) (g:=g) (row:=none) (by repeat (first|(with_reducible first|exact HK.out|apply KeepBut.set_|apply keep_drewN|apply keep_drew|apply keep_alloc|refine keep_far ?_ GW398.out _)|exact HK.out))):w.heap.size≤gb408):w0.heap.size≤gb408))
        have n8_:=Aside0.mk ((by rw [hg];exact Nat.ne_of_lt (blk_lt (g:=gb398) (o:=.cells #[.slice none 0 0,.int .i64 0,.int .i64 0] 31 (0,0)) (by (with_reducible repeat (first|refine yE ?_ _|refine yF ?_|refine yG ?_ _));exact BK398.out)):gb398≠gb408))
        have n9_:=Aside0.mk ((by rw [hg];exact Nat.ne_of_gt (blk_lt (g:=gb398) (o:=.cells #[.slice none 0 0,.int .i64 0,.int .i64 0] 31 (0,0)) (by (with_reducible repeat (first|refine yE ?_ _|refine yF ?_|refine yG ?_ _));exact BK398.out)):gb408≠gb398))
        have n10_:=Aside0.mk ((by rw [hg];exact Nat.ne_of_lt (IsS74.lt (show IsS74 w0 _ g s0_0 t405 from by repeat (first|(with_reducible first|exact HI0.out|apply IsS74.alloc|apply IsS74.drewN|apply IsS74.drew|apply IsS74.set_1|refine IsS74.far ?_ NB0_398.out _)|exact HI0.out))):g≠gb408))
        have n11_:=Aside0.mk ((by rw [hg];exact Nat.ne_of_gt (IsS74.lt (show IsS74 w0 _ g s0_0 t405 from by repeat (first|(with_reducible first|exact HI0.out|apply IsS74.alloc|apply IsS74.drewN|apply IsS74.drew|apply IsS74.set_1|refine IsS74.far ?_ NB0_398.out _)|exact HI0.out))):gb408≠g))
        clear HO403
        clear HI0
        clear BK398
        clear HK
        clear HB
        have HO403:=n0_
        have HI0:=n1_
        have BK398:=n2_
        have HK:=n3_
        have HB:=n4_
        have BK408:=n5_
        have GW408:=n6_
        have GE408:=n7_
        have NB398_408:=n8_
        have NB408_398:=n9_
        have NB0_408:=n10_
        have NB408_0:=n11_
        clear n0_ n1_ n2_ n3_ n4_ n5_ n6_ n7_ n8_ n9_ n10_ n11_
        clear hb hbox hg
        refine hK.out _ _ trivial (fun hHeld=>?_)
        clear hK K
        refine norm_ (a':=?_) ?_ ?_
        rotate_left
        ·show Act.put _ (some 4) _=_
         simp only [Act.put,yK,yL,yM,i64_w,i32_w]
         rfl
        exact norm_ (by first|(simp only [putAll,Act.put,yK,yL,yM];done)|(simp only [putAll,Act.put,yK,yL,yM];rfl)) (hJ0_4_10 (v402,gb408) _ ⟨(by (with_reducible repeat (first|apply yH|apply yI|apply yJ));exact HO403.out),(by (with_reducible repeat (first|refine yE ?_ _|refine yF ?_|refine yG ?_ _));exact BK398.out),(by (with_reducible repeat (first|refine yE ?_ _|refine yF ?_|refine yG ?_ _));exact BK408.out),GW408.out,GE408.out,NB0_408.out,NB408_0.out,NB398_408.out,NB408_398.out,(by repeat (first|(with_reducible first|exact HI0.out|apply IsS74.alloc|apply IsS74.drewN|apply IsS74.drew|apply IsS74.set_1|refine IsS74.far ?_ NB0_398.out _|refine IsS74.far ?_ NB0_408.out _)|exact HI0.out)),(by repeat (first|(with_reducible first|exact HK.out|apply KeepBut.set_|apply keep_drewN|apply keep_drew|apply keep_alloc|refine keep_far ?_ GW398.out _|refine keep_far ?_ GW408.out _)|exact HK.out)),(by repeat (first|(with_reducible first|exact HB.out|apply yA|apply yB|apply yC|refine yD ?_ (IsS74.ge HI0.out)|refine yD ?_ GE398.out|refine yD ?_ GE408.out)|exact HB.out))⟩)
     ·skip
      rintro gb408 w17 ⟨h0_,h1_,h2_,h3_,h4_,h5_,h6_,h7_,h8_,h9_,h10_⟩
      have n0_:Aside0 (w17.heap[gb398]?=some (.cells #[.slice none 0 0,.int .i64 0,.int .i64 0] 31 (0,0))):=⟨h0_⟩
      have n1_:Aside0 (w17.heap[gb408]?=some (.cells #[.slice none 0 0,.int .i64 0,.int .i64 0] 31 (0,0))):=⟨h1_⟩
      have n2_:Aside0 (w.heap.size≤gb408):=⟨h2_⟩
      have n3_:Aside0 (w0.heap.size≤gb408):=⟨h3_⟩
      have n4_:Aside0 (g≠gb408):=⟨h4_⟩
      have n5_:Aside0 (gb408≠g):=⟨h5_⟩
      have n6_:Aside0 (gb398≠gb408):=⟨h6_⟩
      have n7_:Aside0 (gb408≠gb398):=⟨h7_⟩
      have n8_:Aside0 (IsS74 w0 w17 g s0_0 t407):=⟨h8_⟩
      have n9_:Aside0 (KeepBut w w17 g none):=⟨h9_⟩
      have n10_:Aside0 (Below w0.heap.size w0 w17):=⟨h10_⟩
      clear BK398
      clear HI0
      clear HK
      clear HB
      clear h0_ h1_ h2_ h3_ h4_ h5_ h6_ h7_ h8_ h9_ h10_
      have BK398:=n0_
      have BK408:=n1_
      have GW408:=n2_
      have GE408:=n3_
      have NB0_408:=n4_
      have NB408_0:=n5_
      have NB398_408:=n6_
      have NB408_398:=n7_
      have HI0:=n8_
      have HK:=n9_
      have HB:=n10_
      clear n0_ n1_ n2_ n3_ n4_ n5_ n6_ n7_ n8_ n9_ n10_
      have hHeld:=trivial
      refine norm_ (a':=?_) ?_ ?_
      rotate_left
      ·simp only [putAll,Act.put,yK,yL,yM]
       rfl
      refine one_ (i:=0) (N:=some 10) #[true,true,true,true,true,true,true,true,true,false,true,false] rfl rfl (one_of HT_.out (by kernel_rfl)) (by decide) (fun K hK=>?_)
      refine Kd.R_lit_step (Kd.int .i64) _ 3 ?hg (N:=10) ?hd (xs:=([]:List Int)) (inner:=[]) (ok:=fun _=>True) (okp:=fun _=>True) ?hr ?hp (fun _ hk=>hk) trivial (Below.refl _ _) (Nat.le_refl _) (by simp) ?_;(case hd=>rfl);(case hg=>rfl);(case hr=>first|(go_simp;done)|(go_simp;rfl));(case hp=>exact (Reps.none _ _))
      intro v402 w18 ho19 hb hg_ hnew_
      clear hg_ hnew_
      (first|rw [← Ny401.out] at ho19|(simp only [Int.reduceToNat] at ho19;rw [← Ny401.out] at ho19))
      have n0_:=Aside0.mk (Kd.R_lower ho19 (keep_size (w:=w) (g:=g) (row:=none) (by repeat (first|(with_reducible first|exact HK.out|apply KeepBut.set_|apply keep_drewN|apply keep_drew|apply keep_alloc|refine keep_far ?_ GW398.out _|refine keep_far ?_ GW408.out _)|exact HK.out))))
      have n1_:=Aside0.mk (IsS74.below (by repeat (first|(with_reducible first|exact HI0.out|apply IsS74.alloc|apply IsS74.drewN|apply IsS74.drew|apply IsS74.set_1|refine IsS74.far ?_ NB0_398.out _|refine IsS74.far ?_ NB0_408.out _)|exact HI0.out)) hb)
      have n2_:=Aside0.mk (blk_below (g:=gb398) (o:=.cells #[.slice none 0 0,.int .i64 0,.int .i64 0] 31 (0,0)) (by (with_reducible repeat (first|refine yE ?_ _|refine yF ?_|refine yG ?_ _));exact BK398.out) hb)
      have n3_:=Aside0.mk (blk_below (g:=gb408) (o:=.cells #[.slice none 0 0,.int .i64 0,.int .i64 0] 31 (0,0)) (by (with_reducible repeat (first|refine yE ?_ _|refine yF ?_|refine yG ?_ _));exact BK408.out) hb)
      have n4_:=Aside0.mk (KeepBut.trans (by repeat (first|(with_reducible first|exact HK.out|apply KeepBut.set_|apply keep_drewN|apply keep_drew|apply keep_alloc|refine keep_far ?_ GW398.out _|refine keep_far ?_ GW408.out _)|exact HK.out)) (KeepBut.of_below hb g none) (.inl rfl))
      have n5_:=Aside0.mk (yP (by repeat (first|(with_reducible first|exact HB.out|apply yA|apply yB|apply yC|refine yD ?_ (IsS74.ge HI0.out)|refine yD ?_ GE398.out|refine yD ?_ GE408.out)|exact HB.out)) hb)
      clear HI0
      clear BK398
      clear BK408
      clear HK
      clear HB
      have HO403:=n0_
      have HI0:=n1_
      have BK398:=n2_
      have BK408:=n3_
      have HK:=n4_
      have HB:=n5_
      clear n0_ n1_ n2_ n3_ n4_ n5_
      clear hb ho19
      obtain ⟨Ao20,co20,eo20⟩:=Kd.R_slice HO403.out
      (first|subst eo20|(injection eo20 with f1_ f2_ f3_;have f4_:=f1_.symm;have f5_:=f3_.symm;clear f1_ f2_ f3_;subst f4_;subst f5_))
      refine hK.out _ _ trivial (fun hHeld=>?_)
      clear hK K
      refine norm_ (a':=?_) ?_ ?_
      rotate_left
      ·show Act.put _ (some 10) _=_
       simp only [Act.put,yK,yL,yM,i64_w,i32_w]
       rfl
      refine pure_ (i:=9) (N:=some 19) (v:=?_) (a':=?_) #[true,true,true,true,true,true,true,true,true,true,true,false] rfl rfl (any_of HT_.out (by kernel_rfl)) (fun _ _ _ h=>h) (Or.inl ⟨by rfl,?_⟩) ?_ ?_
      rotate_left
      ·intro w'
       go_simp
       with_reducible rfl
      rotate_left
      ·simp only [Act.put,yK,yL,yM,i64_w,i32_w]
       rfl
      exact norm_ (by first|(simp only [putAll,Act.put,yK,yL,yM];done)|(simp only [putAll,Act.put,yK,yL,yM];rfl)) (hJ0_4_8_10 (.slice Ao20 y401.length co20,gb408) _ ⟨(by (with_reducible repeat (first|apply yH|apply yI|apply yJ));exact HO403.out),(by (with_reducible repeat (first|refine yE ?_ _|refine yF ?_|refine yG ?_ _));exact BK398.out),(by (with_reducible repeat (first|refine yE ?_ _|refine yF ?_|refine yG ?_ _));exact BK408.out),GW408.out,GE408.out,NB0_408.out,NB408_0.out,NB398_408.out,NB408_398.out,(by repeat (first|(with_reducible first|exact HI0.out|apply IsS74.alloc|apply IsS74.drewN|apply IsS74.drew|apply IsS74.set_1|refine IsS74.far ?_ NB0_398.out _|refine IsS74.far ?_ NB0_408.out _)|exact HI0.out)),(by repeat (first|(with_reducible first|exact HK.out|apply KeepBut.set_|apply keep_drewN|apply keep_drew|apply keep_alloc|refine keep_far ?_ GW398.out _|refine keep_far ?_ GW408.out _)|exact HK.out)),(by repeat (first|(with_reducible first|exact HB.out|apply yA|apply yB|apply yC|refine yD ?_ (IsS74.ge HI0.out)|refine yD ?_ GE398.out|refine yD ?_ GE408.out)|exact HB.out))⟩)
    ·skip
     rintro ⟨v402,gb408⟩ w18 ⟨h0_,h1_,h2_,h3_,h4_,h5_,h6_,h7_,h8_,h9_,h10_,h11_⟩
     have n0_:Aside0 (Kd.R (Kd.int .i64) 3 w18 w.heap.size (fun _=>True) v402 y401):=⟨h0_⟩
     have n1_:Aside0 (w18.heap[gb398]?=some (.cells #[.slice none 0 0,.int .i64 0,.int .i64 0] 31 (0,0))):=⟨h1_⟩
     have n2_:Aside0 (w18.heap[gb408]?=some (.cells #[.slice none 0 0,.int .i64 0,.int .i64 0] 31 (0,0))):=⟨h2_⟩
     have n3_:Aside0 (w.heap.size≤gb408):=⟨h3_⟩
     have n4_:Aside0 (w0.heap.size≤gb408):=⟨h4_⟩
     have n5_:Aside0 (g≠gb408):=⟨h5_⟩
     have n6_:Aside0 (gb408≠g):=⟨h6_⟩
     have n7_:Aside0 (gb398≠gb408):=⟨h7_⟩
     have n8_:Aside0 (gb408≠gb398):=⟨h8_⟩
     have n9_:Aside0 (IsS74 w0 w18 g s0_0 t405):=⟨h9_⟩
     have n10_:Aside0 (KeepBut w w18 g none):=⟨h10_⟩
     have n11_:Aside0 (Below w0.heap.size w0 w18):=⟨h11_⟩
     clear BK398
     clear HI0
     clear HK
     clear HB
     clear h0_ h1_ h2_ h3_ h4_ h5_ h6_ h7_ h8_ h9_ h10_ h11_
     have HO403:=n0_
     have BK398:=n1_
     have BK408:=n2_
     have GW408:=n3_
     have GE408:=n4_
     have NB0_408:=n5_
     have NB408_0:=n6_
     have NB398_408:=n7_
     have NB408_398:=n8_
     have HI0:=n9_
     have HK:=n10_
     have HB:=n11_
     clear n0_ n1_ n2_ n3_ n4_ n5_ n6_ n7_ n8_ n9_ n10_ n11_
     have hHeld:=trivial
     refine norm_ (a':=?_) ?_ ?_
     rotate_left
     ·simp only [putAll,Act.put,yK,yL,yM]
      rfl
     refine one_ (i:=8) (N:=some 18) #[true,true,true,true,true,true,true,true,true,false,true,false] rfl rfl (one_of HT_.out (by kernel_rfl)) (by decide) (fun K hK=>?_)
     refine goes_ Try.func54 (by kernel_rfl) rfl #[.pointer (some ⟨g,0,none⟩),.int .i64 ji5] (by rfl) rfl rfl (by (try simp only [List.map_toArray,List.map_cons,List.map_nil]);first|done|(simp only [hji5];rfl)|rfl|(simp only [List.length_drop,List.length_take];rfl)) ?_
     with_reducible refine (spec_l6Rd_pick.calls k g s0_0 t405 ji5 t406 t407 w0 _ ?side1 ?side2 A9.out).mono ?_
     (case side1=>repeat (first|(with_reducible first|exact HI0.out|apply IsS74.alloc|apply IsS74.drewN|apply IsS74.drew|apply IsS74.set_1|refine IsS74.far ?_ NB0_398.out _|refine IsS74.far ?_ NB0_408.out _)|exact HI0.out))
     (case side2=>repeat (first|(with_reducible first|exact HB.out|apply yA|apply yB|apply yC|refine yD ?_ (IsS74.ge HI0.out)|refine yD ?_ GE398.out|refine yD ?_ GE408.out)|exact HB.out))
     rintro e w19 ⟨rfl,hi,hb,hk⟩
     refine ⟨_,rfl,?_⟩
     have n0_:=Aside0.mk (KeepBut.blk hk (g':=gb398) (o:=.cells #[.slice none 0 0,.int .i64 0,.int .i64 0] 31 (0,0)) (by (with_reducible repeat (first|refine yE ?_ _|refine yF ?_|refine yG ?_ _));exact BK398.out) NB398_0.out (by simp))
     have n1_:=Aside0.mk (Kd.R_mono (Kd.R_keep (IsS74.apart (show IsS74 w0 _ g s0_0 t405 from by repeat (first|(with_reducible first|exact HI0.out|apply IsS74.alloc|apply IsS74.drewN|apply IsS74.drew|apply IsS74.set_1|refine IsS74.far ?_ NB0_398.out _|refine IsS74.far ?_ NB0_408.out _)|exact HI0.out)) (by (with_reducible repeat (first|apply yH|apply yI|apply yJ));exact HO403.out) (by decide)) hk (fun _ h=>h.2)) (fun _ h=>h.1))
     have n2_:=Aside0.mk (KeepBut.blk hk (g':=gb408) (o:=.cells #[.slice none 0 0,.int .i64 0,.int .i64 0] 31 (0,0)) (by (with_reducible repeat (first|refine yE ?_ _|refine yF ?_|refine yG ?_ _));exact BK408.out) NB408_0.out (by simp))
     have n3_:=Aside0.mk (KeepBut.trans (by repeat (first|(with_reducible first|exact HK.out|apply KeepBut.set_|apply keep_drewN|apply keep_drew|apply keep_alloc|refine keep_far ?_ GW398.out _|refine keep_far ?_ GW408.out _)|exact HK.out)) hk (.inl rfl))
     have n4_:=Aside0.mk (hb)
     have n5_:=Aside0.mk (hi)
     clear BK398
     clear HO403
     clear BK408
     clear HK
     clear HB
     clear HI0
     have BK398:=n0_
     have HO403:=n1_
     have BK408:=n2_
     have HK:=n3_
     have HB:=n4_
     have HI0:=n5_
     clear n0_ n1_ n2_ n3_ n4_ n5_
     (try clear hb)
     (try clear hb2)
     (try clear hk)
     (try clear hi)
     obtain ⟨Ao20,co20,eo20⟩:=Kd.R_slice HO403.out
     (first|subst eo20|(injection eo20 with f1_ f2_ f3_;have f4_:=f1_.symm;have f5_:=f3_.symm;clear f1_ f2_ f3_;subst f4_;subst f5_))
     refine hK.out _ _ trivial (fun hHeld=>?_)
     clear hK K
     refine norm_ (a':=?_) ?_ ?_
     rotate_left
     ·show Act.put _ (some 18) _=_
      simp only [Act.put,yK,yL,yM,i64_w,i32_w]
      rfl
     refine pure_ (i:=9) (N:=some 19) (v:=?_) (a':=?_) #[true,true,true,true,true,true,true,true,true,true,true,false] rfl rfl (any_of HT_.out (by kernel_rfl)) (fun _ _ _ h=>h) (Or.inl ⟨by rfl,?_⟩) ?_ ?_
     rotate_left
     ·intro w'
      go_simp
      with_reducible rfl
     rotate_left
     ·simp only [Act.put,yK,yL,yM,i64_w,i32_w]
      rfl
     exact norm_ (by first|(simp only [putAll,Act.put,yK,yL,yM];done)|(simp only [putAll,Act.put,yK,yL,yM];rfl)) (hJ0_4_8_10 (.slice Ao20 y401.length co20,gb408) _ ⟨(by (with_reducible repeat (first|apply yH|apply yI|apply yJ));exact HO403.out),(by (with_reducible repeat (first|refine yE ?_ _|refine yF ?_|refine yG ?_ _));exact BK398.out),(by (with_reducible repeat (first|refine yE ?_ _|refine yF ?_|refine yG ?_ _));exact BK408.out),GW408.out,GE408.out,NB0_408.out,NB408_0.out,NB398_408.out,NB408_398.out,(by repeat (first|(with_reducible first|exact HI0.out|apply IsS74.alloc|apply IsS74.drewN|apply IsS74.drew|apply IsS74.set_1|refine IsS74.far ?_ NB0_398.out _|refine IsS74.far ?_ NB0_408.out _)|exact HI0.out)),(by repeat (first|(with_reducible first|exact HK.out|apply KeepBut.set_|apply keep_drewN|apply keep_drew|apply keep_alloc|refine keep_far ?_ GW398.out _|refine keep_far ?_ GW408.out _)|exact HK.out)),(by repeat (first|(with_reducible first|exact HB.out|apply yA|apply yB|apply yC|refine yD ?_ (IsS74.ge HI0.out)|refine yD ?_ GE398.out|refine yD ?_ GE408.out)|exact HB.out))⟩)
   ·skip
    rintro v402 w19 ⟨h0_,h1_,h2_,h3_,h4_⟩
    have n0_:Aside0 (Kd.R (Kd.int .i64) 3 w19 w.heap.size (fun _=>True) v402 y401):=⟨h0_⟩
    have n1_:Aside0 (w19.heap[gb398]?=some (.cells #[.slice none 0 0,.int .i64 0,.int .i64 0] 31 (0,0))):=⟨h1_⟩
    have n2_:Aside0 (IsS74 w0 w19 g s0_0 t407):=⟨h2_⟩
    have n3_:Aside0 (KeepBut w w19 g none):=⟨h3_⟩
    have n4_:Aside0 (Below w0.heap.size w0 w19):=⟨h4_⟩
    clear BK398
    clear HI0
    clear HK
    clear HB
    clear h0_ h1_ h2_ h3_ h4_
    have HO403:=n0_
    have BK398:=n1_
    have HI0:=n2_
    have HK:=n3_
    have HB:=n4_
    clear n0_ n1_ n2_ n3_ n4_
    have hHeld:=trivial
    obtain ⟨Ao20,co20,eo20⟩:=Kd.R_slice HO403.out
    (first|subst eo20|(injection eo20 with f1_ f2_ f3_;have f4_:=f1_.symm;have f5_:=f3_.symm;clear f1_ f2_ f3_;subst f4_;subst f5_))
    refine norm_ (a':=?_) ?_ ?_
    rotate_left
    ·simp only [putAll,Act.put,yK,yL,yM]
     rfl
    refine one_ (i:=10) (N:=some 4) #[true,true,true,true,true,true,true,true,true,true,true,false] rfl rfl (one_of HT_.out (by kernel_rfl)) (by decide) (fun K hK=>?_)
    refine box_step ?hg (N:=4) ?hd (cs:=#[.slice none 0 0,.int .i64 0,.int .i64 0]) (t:=31) ?hr ?_;(case hd=>rfl);(case hg=>rfl);(case hr=>first|(go_simp;done)|(go_simp;rfl))
    intro gb408 hg w21 hbox hb
    have n0_:=Aside0.mk (Kd.R_below (by (with_reducible repeat (first|apply yH|apply yI|apply yJ));exact HO403.out) hb)
    have n1_:=Aside0.mk (IsS74.below (by repeat (first|(with_reducible first|exact HI0.out|apply IsS74.alloc|apply IsS74.drewN|apply IsS74.drew|apply IsS74.set_1|refine IsS74.far ?_ NB0_398.out _)|exact HI0.out)) hb)
    have n2_:=Aside0.mk (blk_below (g:=gb398) (o:=.cells #[.slice none 0 0,.int .i64 0,.int .i64 0] 31 (0,0)) (by (with_reducible repeat (first|refine yE ?_ _|refine yF ?_|refine yG ?_ _));exact BK398.out) hb)
    have n3_:=Aside0.mk (KeepBut.trans (by repeat (first|(with_reducible first|exact HK.out|apply KeepBut.set_|apply keep_drewN|apply keep_drew|apply keep_alloc|refine keep_far ?_ GW398.out _)|exact HK.out)) (KeepBut.of_below hb g none) (.inl rfl))
    have n4_:=Aside0.mk (yP (by repeat (first|(with_reducible first|exact HB.out|apply yA|apply yB|apply yC|refine yD ?_ (IsS74.ge HI0.out)|refine yD ?_ GE398.out)|exact HB.out)) hb)
    have n5_:=Aside0.mk (hbox)
    have n6_:=Aside0.mk ((by rw [hg];exact (keep_size (w:=w) (g:=g) (row:=none) (by repeat (first|(with_reducible first|exact HK.out|apply KeepBut.set_|apply keep_drewN|apply keep_drew|apply keep_alloc|refine keep_far ?_ GW398.out _)|exact HK.out))):w.heap.size≤gb408))
    have n7_:=Aside0.mk ((Nat.le_trans HW0.out (by rw [hg];exact (keep_size (w:=w) (g:=g) (row:=none) (by repeat (first|(with_reducible first|exact HK.out|apply KeepBut.set_|apply keep_drewN|apply keep_drew|apply keep_alloc|refine keep_far ?_ GW398.out _)|exact HK.out))):w.heap.size≤gb408):w0.heap.size≤gb408))
    have n8_:=Aside0.mk ((by rw [hg];exact Nat.ne_of_lt (blk_lt (g:=gb398) (o:=.cells #[.slice none 0 0,.int .i64 0,.int .i64 0] 31 (0,0)) (by (with_reducible repeat (first|refine yE ?_ _|refine yF ?_|refine yG ?_ _));exact BK398.out)):gb398≠gb408))
    have n9_:=Aside0.mk ((by rw [hg];exact Nat.ne_of_gt (blk_lt (g:=gb398) (o:=.cells #[.slice none 0 0,.int .i64 0,.int .i64 0] 31 (0,0)) (by (with_reducible repeat (first|refine yE ?_ _|refine yF ?_|refine yG ?_ _));exact BK398.out)):gb408≠gb398))
    have n10_:=Aside0.mk ((by rw [hg];exact Nat.ne_of_lt (IsS74.lt (show IsS74 w0 _ g s0_0 t407 from by repeat (first|(with_reducible first|exact HI0.out|apply IsS74.alloc|apply IsS74.drewN|apply IsS74.drew|apply IsS74.set_1|refine IsS74.far ?_ NB0_398.out _)|exact HI0.out))):g≠gb408))
    have n11_:=Aside0.mk ((by rw [hg];exact Nat.ne_of_gt (IsS74.lt (show IsS74 w0 _ g s0_0 t407 from by repeat (first|(with_reducible first|exact HI0.out|apply IsS74.alloc|apply IsS74.drewN|apply IsS74.drew|apply IsS74.set_1|refine IsS74.far ?_ NB0_398.out _)|exact HI0.out))):gb408≠g))
    clear HO403
    clear HI0
    clear BK398
    clear HK
    clear HB
    have HO403:=n0_
    have HI0:=n1_
    have BK398:=n2_
    have HK:=n3_
    have HB:=n4_
    have BK408:=n5_
    have GW408:=n6_
    have GE408:=n7_
    have NB398_408:=n8_
    have NB408_398:=n9_
    have NB0_408:=n10_
    have NB408_0:=n11_
    clear n0_ n1_ n2_ n3_ n4_ n5_ n6_ n7_ n8_ n9_ n10_ n11_
    clear hb hbox hg
    refine hK.out _ _ trivial (fun hHeld=>?_)
    clear hK K
    refine norm_ (a':=?_) ?_ ?_
    rotate_left
    ·show Act.put _ (some 4) _=_
     simp only [Act.put,yK,yL,yM,i64_w,i32_w]
     rfl
    exact norm_ (by first|(simp only [putAll,Act.put,yK,yL,yM];done)|(simp only [putAll,Act.put,yK,yL,yM];rfl)) (hJ0_4_8_10 (.slice Ao20 y401.length co20,gb408) _ ⟨(by (with_reducible repeat (first|apply yH|apply yI|apply yJ));exact HO403.out),(by (with_reducible repeat (first|refine yE ?_ _|refine yF ?_|refine yG ?_ _));exact BK398.out),(by (with_reducible repeat (first|refine yE ?_ _|refine yF ?_|refine yG ?_ _));exact BK408.out),GW408.out,GE408.out,NB0_408.out,NB408_0.out,NB398_408.out,NB408_398.out,(by repeat (first|(with_reducible first|exact HI0.out|apply IsS74.alloc|apply IsS74.drewN|apply IsS74.drew|apply IsS74.set_1|refine IsS74.far ?_ NB0_398.out _|refine IsS74.far ?_ NB0_408.out _)|exact HI0.out)),(by repeat (first|(with_reducible first|exact HK.out|apply KeepBut.set_|apply keep_drewN|apply keep_drew|apply keep_alloc|refine keep_far ?_ GW398.out _|refine keep_far ?_ GW408.out _)|exact HK.out)),(by repeat (first|(with_reducible first|exact HB.out|apply yA|apply yB|apply yC|refine yD ?_ (IsS74.ge HI0.out)|refine yD ?_ GE398.out|refine yD ?_ GE408.out)|exact HB.out))⟩)
  rintro ⟨v402,gb408⟩ w20 ⟨h0_,h1_,h2_,h3_,h4_,h5_,h6_,h7_,h8_,h9_,h10_,h11_⟩
  have n0_:Aside0 (Kd.R (Kd.int .i64) 3 w20 w.heap.size (fun _=>True) v402 y401):=⟨h0_⟩
  have n1_:Aside0 (w20.heap[gb398]?=some (.cells #[.slice none 0 0,.int .i64 0,.int .i64 0] 31 (0,0))):=⟨h1_⟩
  have n2_:Aside0 (w20.heap[gb408]?=some (.cells #[.slice none 0 0,.int .i64 0,.int .i64 0] 31 (0,0))):=⟨h2_⟩
  have n3_:Aside0 (w.heap.size≤gb408):=⟨h3_⟩
  have n4_:Aside0 (w0.heap.size≤gb408):=⟨h4_⟩
  have n5_:Aside0 (g≠gb408):=⟨h5_⟩
  have n6_:Aside0 (gb408≠g):=⟨h6_⟩
  have n7_:Aside0 (gb398≠gb408):=⟨h7_⟩
  have n8_:Aside0 (gb408≠gb398):=⟨h8_⟩
  have n9_:Aside0 (IsS74 w0 w20 g s0_0 t407):=⟨h9_⟩
  have n10_:Aside0 (KeepBut w w20 g none):=⟨h10_⟩
  have n11_:Aside0 (Below w0.heap.size w0 w20):=⟨h11_⟩
  clear BK398
  clear HI0
  clear HK
  clear HB
  clear h0_ h1_ h2_ h3_ h4_ h5_ h6_ h7_ h8_ h9_ h10_ h11_
  have HO403:=n0_
  have BK398:=n1_
  have BK408:=n2_
  have GW408:=n3_
  have GE408:=n4_
  have NB0_408:=n5_
  have NB408_0:=n6_
  have NB398_408:=n7_
  have NB408_398:=n8_
  have HI0:=n9_
  have HK:=n10_
  have HB:=n11_
  clear n0_ n1_ n2_ n3_ n4_ n5_ n6_ n7_ n8_ n9_ n10_ n11_
  have hHeld:=trivial
  obtain ⟨Ao21,co21,eo21⟩:=Kd.R_slice HO403.out
  (first|subst eo21|(injection eo21 with f1_ f2_ f3_;have f4_:=f1_.symm;have f5_:=f3_.symm;clear f1_ f2_ f3_;subst f4_;subst f5_))
  refine norm_ (a':=?_) ?_ ?_
  rotate_left
  ·simp only [putAll,Act.put,yK,yL,yM]
   rfl
  refine one_ (i:=11) (N:=none) #[true,true,true,true,true,true,true,true,true,true,true,true] rfl rfl (one_of HT_.out (by kernel_rfl)) (by decide) (fun K hK=>?_)
  have hs22:w20.cell? ⟨gb408,0,none⟩=some (.slice none 0 0):=(blk_cell BK408.out 0).trans rfl
  have hfs22:=blk_frozen BK408.out 0
  have hns22_0:=NB398_408.out
  have hms22_0:=NB408_398.out
  have hs23:w20.cell? ⟨gb408,1,none⟩=some (.int .i64 0):=(blk_cell BK408.out 1).trans rfl
  have hfs23:=blk_frozen BK408.out 1
  have hns23_0:=NB398_408.out
  have hms23_0:=NB408_398.out
  have hs24:w20.cell? ⟨gb408,2,none⟩=some (.int .i64 0):=(blk_cell BK408.out 2).trans rfl
  have hfs24:=blk_frozen BK408.out 2
  have hns24_0:=NB398_408.out
  have hms24_0:=NB408_398.out
  refine skip_ (w1:=?_) (by rfl) rfl ?_ ?_
  rotate_left
  ·go_simp
   rfl
  refine hK.out _ _ trivial (fun hHeld=>?_)
  clear hK K
  refine done_ (done_of HT_.out (by kernel_rfl)) ?_
  try go_wp2_with (first|((with_reducible refine gate_callee (f:=54) rfl ?_);refine goesL_ (some 21) rfl rfl Try.func54 (by kernel_rfl) rfl #[.pointer (some ⟨g,0,none⟩),.int .i64 2] rfl (by (try simp only [List.map_toArray,List.map_cons,List.map_nil]);first|done|rfl|(simp only [List.length_drop,List.length_take];rfl)) ?_;(with_reducible refine (spec_l6Rd_pick.calls k g s0_0 t407 2 t409 t410 w0 _ ?side1 ?side2 A10.out).mono ?_);(case side1=>repeat (first|(with_reducible first|exact HI0.out|apply IsS74.alloc|apply IsS74.drewN|apply IsS74.drew|apply IsS74.set_1|refine IsS74.far ?_ NB0_398.out _|refine IsS74.far ?_ NB0_408.out _)|exact HI0.out));(case side2=>repeat (first|(with_reducible first|exact HB.out|apply yA|apply yB|apply yC|refine yD ?_ (IsS74.ge HI0.out)|refine yD ?_ GE398.out|refine yD ?_ GE408.out)|exact HB.out));rintro e w25 ⟨rfl,hi,hb,hk⟩;refine ⟨_,rfl,?_⟩;have n0_:=Aside0.mk (KeepBut.blk hk (g':=gb398) (o:=.cells #[.slice none 0 0,.int .i64 0,.int .i64 0] 31 (0,0)) (by (with_reducible repeat (first|refine yE ?_ _|refine yF ?_|refine yG ?_ _));refine blk_far ?_ NB398_408.out _;(with_reducible repeat (first|refine yE ?_ _|refine yF ?_|refine yG ?_ _));refine blk_far ?_ NB398_408.out _;(with_reducible repeat (first|refine yE ?_ _|refine yF ?_|refine yG ?_ _));refine blk_far ?_ NB398_408.out _;(with_reducible repeat (first|refine yE ?_ _|refine yF ?_|refine yG ?_ _));exact BK398.out) NB398_0.out (by simp));have n1_:=Aside0.mk (Kd.R_mono (Kd.R_keep (IsS74.apart (show IsS74 w0 _ g s0_0 t407 from by repeat (first|(with_reducible first|exact HI0.out|apply IsS74.alloc|apply IsS74.drewN|apply IsS74.drew|apply IsS74.set_1|refine IsS74.far ?_ NB0_398.out _|refine IsS74.far ?_ NB0_408.out _)|exact HI0.out)) (by (with_reducible repeat (first|apply yH|apply yI|apply yJ));exact (Kd.R_mono (Kd.R_far (p:=⟨gb408,2,none⟩) (Kd.R_far (p:=⟨gb408,1,none⟩) (Kd.R_far (p:=⟨gb408,0,none⟩) (Kd.R_types HO403.out BK408.out (by decide)) (fun _ hk=>hk.2) (.slice Ao21 y401.length co21)) (fun _ hk=>hk.2) (.int .i64 t404)) (fun _ hk=>hk.2) (.int .i64 t406)) (fun _ h_=>h_.1))) (by decide)) hk (fun _ h=>h.2)) (fun _ h=>h.1));have n2_:=Aside0.mk (KeepBut.blk hk (g':=gb408) (o:=.cells #[.slice Ao21 y401.length co21,.int .i64 t404,.int .i64 t406] 31 (0,0)) (by (with_reducible repeat (first|refine yE ?_ _|refine yF ?_|refine yG ?_ _));refine blk_put (cs:=#[.slice Ao21 y401.length co21,.int .i64 t404,.int .i64 0]) ?_ 2 _ rfl;(with_reducible repeat (first|refine yE ?_ _|refine yF ?_|refine yG ?_ _));refine blk_put (cs:=#[.slice Ao21 y401.length co21,.int .i64 0,.int .i64 0]) ?_ 1 _ rfl;(with_reducible repeat (first|refine yE ?_ _|refine yF ?_|refine yG ?_ _));refine blk_put (cs:=#[.slice none 0 0,.int .i64 0,.int .i64 0]) ?_ 0 _ rfl;(with_reducible repeat (first|refine yE ?_ _|refine yF ?_|refine yG ?_ _));exact BK408.out) NB408_0.out (by simp));have n3_:=Aside0.mk (KeepBut.trans (by repeat (first|(with_reducible first|exact HK.out|apply KeepBut.set_|apply keep_drewN|apply keep_drew|apply keep_alloc|refine keep_far ?_ GW398.out _|refine keep_far ?_ GW408.out _)|exact HK.out)) hk (.inl rfl));have n4_:=Aside0.mk (hb);have n5_:=Aside0.mk (hi);clear BK398;clear HO403;clear BK408;clear HK;clear HB;clear HI0;have BK398:=n0_;have HO403:=n1_;have BK408:=n2_;have HK:=n3_;have HB:=n4_;have HI0:=n5_;clear n0_ n1_ n2_ n3_ n4_ n5_;(try clear hb);(try clear hb2);(try clear hk);(try clear hi)))
  go_loopg [6] k (fun kq v6 w'=>∃ (x6_1:Int) (x1001_1:Int) (x409000_1:List Int) (u409000:Value),v6=.int .i64 x6_1∧Aside0 (spec_l91Machine.l0 kq ji3 (t409 == 0) x6_1 s0_0 x1001_1 x409000_1 t404 t406=some (r1,r2,r3,r4))∧Aside0 (kq≤k)∧Aside0 (Kd.R (Kd.int .i64) 3 w' w.heap.size (fun _=>True) u409000 x409000_1)∧Aside0 (w'.heap[gb398]?=some (.cells #[(.slice none 0 0),.int .i64 0,.int .i64 0] 31 (0,0)))∧Aside0 (w'.heap[gb408]?=some (.cells #[u409000,.int .i64 t404,.int .i64 t406] 31 (0,0)))∧Aside0 (IsS74 w0 w' g s0_0 x1001_1)∧Aside0 (KeepBut w w' g none)∧Aside0 (Below w0.heap.size w0 w'))
  case atStart=>exact ⟨(0),(t410),(y401),(.slice Ao21 y401.length co21),(by first|rfl|(simp;done)|(simp [*];done)|(simp [Int.tmod_eq_emod_of_nonneg];done)),H',⟨Nat.le_refl _⟩,⟨by (with_reducible repeat (first|apply yH|apply yI|apply yJ));exact HO403.out⟩,⟨by (with_reducible repeat (first|refine yE ?_ _|refine yF ?_|refine yG ?_ _));exact BK398.out⟩,⟨by (with_reducible repeat (first|refine yE ?_ _|refine yF ?_|refine yG ?_ _));exact BK408.out⟩,⟨by repeat (first|(with_reducible first|exact HI0.out|apply IsS74.alloc|apply IsS74.drewN|apply IsS74.drew|apply IsS74.set_1|refine IsS74.far ?_ NB0_398.out _|refine IsS74.far ?_ NB0_408.out _)|exact HI0.out)⟩,⟨by repeat (first|(with_reducible first|exact HK.out|apply KeepBut.set_|apply keep_drewN|apply keep_drew|apply keep_alloc|refine keep_far ?_ GW398.out _|refine keep_far ?_ GW408.out _)|exact HK.out)⟩,⟨by repeat (first|(with_reducible first|exact HB.out|apply yA|apply yB|apply yC|refine yD ?_ (IsS74.ge HI0.out)|refine yD ?_ GE398.out|refine yD ?_ GE408.out)|exact HB.out)⟩⟩
  case round =>
   clear H'
   try clear p2
   try clear c5
   obtain ⟨x6_1,x1001_1,x409000_1,u409000,rfl,HA,HK1,HO_409000,BK398,BK408,HI0,HK,HB⟩:=hrel
   cases gk with
   | zero=>exact absurd HA.out (by simp [spec_l91Machine.l0])
   | succ k1 =>
    have H:=HA.out
    clear HA
    simp only [spec_l91Machine.l0] at H
    by_cases c26:x6_1<ji3
    ·rw [if_pos c26] at H
     have c26b0:decide (x6_1<ji3)=true:=decide_eq_true c26
     clear c26
     by_cases c27:(t409 == 0)=true
     ·rw [if_pos c27] at H
      have c27b0:(t409 == 0)=true:=c27
      (try (have c27b1:decide (t409=0)=true:=by simpa using c27))
      (try (have c27b2:(t409 == 0)=true:=by simpa using c27))
      clear c27
      replace H:=Option.bind_eq_some_iff.mp H
      obtain ⟨⟨t411,t412⟩,A280,H⟩:=H
      replace H:(if 0≤t411 then (if x409000_1.length<17592186044416 then (spec_l91Machine.l0 k1 ji3 (t409 == 0) (wrap64 (x6_1+1)) s0_0 t412 (x409000_1++[shl .i64 1 t411]) t404 t406) else (none)) else (none))=some (r1,r2,r3,r4):=H
      have A28:=Aside0.mk A280
      clear A280
      by_cases c29:0≤t411
      ·rw [if_pos c29] at H
       have c29b0:=eq_true c29
       have c29b1:decide (0≤t411)=true:=decide_eq_true c29
       clear c29
       obtain ⟨ji30,hji30⟩:∃ j_:Int,(shl .i64 1 t411)=j_:=⟨_,rfl⟩
       replace H:(if x409000_1.length<17592186044416 then (spec_l91Machine.l0 k1 ji3 (t409 == 0) (wrap64 (x6_1+1)) s0_0 t412 (x409000_1++[ji30]) t404 t406) else (none))=some (r1,r2,r3,r4):=by first|(rw [hji30] at H;exact H)|(simp only [hji30] at H ⊢;exact H)
       (try rw [hji30] at A28)
       have hji30_:(IntKind.i64.wrap (1 * 2 ^ min t411.toNat 64))=ji30:=hji30
       have hji30z:t411≤64→(IntKind.i64.wrap (1 * 2 ^ t411.toNat))=ji30:=shl_small hji30
       have hji30u:(IntKind.i64.wrap (2 ^ min t411.toNat 64))=ji30:=by have h_:=hji30_;rw [Int.one_mul] at h_;exact h_
       have hji30v:t411≤64→(IntKind.i64.wrap (2 ^ t411.toNat))=ji30:=fun hle_=>by have h_:=hji30z hle_;rw [Int.one_mul] at h_;exact h_
       have hji30y:(wrap64 (1 * 2 ^ min t411.toNat 64))=ji30:=(i64_w _).symm.trans hji30_
       have hji30x:t411≤64→(wrap64 (1 * 2 ^ t411.toNat))=ji30:=fun h_=>(i64_w _).symm.trans (hji30z h_)
       by_cases c31:x409000_1.length<17592186044416
       ·rw [if_pos c31] at H
        have LMc31:=Aside0.mk c31
        clear c31
        obtain ⟨y413,hy413⟩:∃ y_:List Int,y_=(x409000_1++[ji30]):=⟨_,rfl⟩
        replace H:(spec_l91Machine.l0 k1 ji3 (t409 == 0) (wrap64 (x6_1+1)) s0_0 t412 y413 t404 t406)=some (r1,r2,r3,r4):=by first|(rw [hy413];with_reducible exact H)|(have H2_:=(Option.bind_some _ _).symm.trans H;rw [hy413];with_reducible exact H2_)|(have H2_:=(Option.bind_some _ _).symm.trans H;with_reducible exact H2_)|with_reducible exact H|(rw [hy413];exact H)|exact H
        have Ny413:=Aside0.mk hy413
        clear hy413
        have H':=Aside0.mk H
        clear H
        try go_wp2
        have n0_:=Aside0.mk (yJ HO_409000.out)
        have n1_:=Aside0.mk (yF BK398.out)
        have n2_:=Aside0.mk (yF BK408.out)
        have n3_:=Aside0.mk (IsS74.drew HI0.out)
        have n4_:=Aside0.mk (keep_drew HK.out)
        have n5_:=Aside0.mk (yC HB.out)
        clear HO_409000
        clear BK398
        clear BK408
        clear HI0
        clear HK
        clear HB
        have HO_409000:=n0_
        have BK398:=n1_
        have BK408:=n2_
        have HI0:=n3_
        have HK:=n4_
        have HB:=n5_
        clear n0_ n1_ n2_ n3_ n4_ n5_
        refine start_ (n:=10) (S:=fun w'=>w'.cell? ⟨gb408,0,none⟩=some (u409000)∧w'.cell? ⟨gb408,1,none⟩=some (.int .i64 t404)∧w'.cell? ⟨gb408,2,none⟩=some (.int .i64 t406)) (ds:=[9]) #[false,false,false,false,false,false,false,false,false,false] (by kernel_rfl) rfl rfl ⟨(blk_cell BK408.out 0).trans rfl,(blk_cell BK408.out 1).trans rfl,(blk_cell BK408.out 2).trans rfl⟩ (fun hHeld=>?_);refine with_tabW spec_l91Machine.tab8 spec_l91Machine.bits8 (fun HT_ HW_=>?_)
        generalize wr.drew=w32 at HO_409000 BK398 BK408 HI0 HK HB hHeld ⊢
        refine pure_ (i:=0) (N:=some 29) (v:=?_) (a':=?_) #[true,false,false,false,false,false,false,false,false,false] rfl rfl (any_of HT_.out (by kernel_rfl)) (fun _ _ _ h=>h) (Or.inl ⟨by rfl,?_⟩) ?_ ?_
        rotate_left
        ·intro w'
         go_simp
         with_reducible rfl
        rotate_left
        ·simp only [Act.put,yK,yL,yM,i64_w,i32_w]
         rfl
        refine pure_ (i:=2) (N:=some 31) (v:=?_) (a':=?_) #[true,false,true,false,false,false,false,false,false,false] rfl rfl (any_of HT_.out (by kernel_rfl)) (fun _ _ _ h=>h) (Or.inl ⟨by rfl,?_⟩) ?_ ?_
        rotate_left
        ·intro w'
         go_simp
         with_reducible rfl
        rotate_left
        ·simp only [Act.put,yK,yL,yM,i64_w,i32_w]
         rfl
        refine pure_ (i:=3) (N:=some 32) (v:=?_) (a':=?_) #[true,false,true,true,false,false,false,false,false,false] rfl rfl (any_of HT_.out (by kernel_rfl)) (fun _ _ _ h=>h) (Or.inl ⟨by rfl,?_⟩) ?_ ?_
        rotate_left
        ·intro w'
         go_simp
         with_reducible rfl
        rotate_left
        ·simp only [Act.put,yK,yL,yM,i64_w,i32_w]
         rfl
        refine take_ (i:=1) (N:=some 30) (v:=?_) (a':=?_) #[true,true,true,true,false,false,false,false,false,false] rfl rfl (take_ofW HT_.out HW_.out (by kernel_rfl)) (fun _ _ _ h=>h) (Or.inl ⟨by rfl,?_⟩) hHeld ?_ ?_
        rotate_left
        ·rintro w' ⟨s0,s1,s2⟩
         go_simp
         with_reducible rfl
        rotate_left
        ·simp only [Act.put,yK,yL,yM,i64_w,i32_w]
         rfl
        refine one_ (i:=4) (N:=some 33) #[true,true,true,true,true,false,false,false,false,false] rfl rfl (one_of HT_.out (by kernel_rfl)) (by decide) (fun K hK=>?_)
        refine goes_ Try.func54 (by kernel_rfl) rfl #[.pointer (some ⟨g,0,none⟩),.int .i64 ji3] (by rfl) rfl rfl (by (try simp only [List.map_toArray,List.map_cons,List.map_nil]);first|done|(simp only [hji3];rfl)|rfl|(simp only [List.length_drop,List.length_take];rfl)) ?_
        with_reducible refine (spec_l6Rd_pick.calls k1 g s0_0 x1001_1 ji3 t411 t412 w0 _ ?side1 ?side2 A28.out).mono ?_
        (case side1=>repeat (first|(with_reducible first|exact HI0.out|apply IsS74.alloc|apply IsS74.drewN|apply IsS74.drew|apply IsS74.set_1|refine IsS74.far ?_ NB0_398.out _|refine IsS74.far ?_ NB0_408.out _)|exact HI0.out))
        (case side2=>repeat (first|(with_reducible first|exact HB.out|apply yA|apply yB|apply yC|refine yD ?_ (IsS74.ge HI0.out)|refine yD ?_ GE398.out|refine yD ?_ GE408.out)|exact HB.out))
        rintro e w33 ⟨rfl,hi,hb,hk⟩
        refine ⟨_,rfl,?_⟩
        have n0_:=Aside0.mk (Kd.R_mono (Kd.R_keep (IsS74.apart (show IsS74 w0 _ g s0_0 x1001_1 from by repeat (first|(with_reducible first|exact HI0.out|apply IsS74.alloc|apply IsS74.drewN|apply IsS74.drew|apply IsS74.set_1|refine IsS74.far ?_ NB0_398.out _|refine IsS74.far ?_ NB0_408.out _)|exact HI0.out)) (by (with_reducible repeat (first|apply yH|apply yI|apply yJ));exact HO_409000.out) (by decide)) hk (fun _ h=>h.2)) (fun _ h=>h.1))
        have n1_:=Aside0.mk (KeepBut.blk hk (g':=gb398) (o:=.cells #[.slice none 0 0,.int .i64 0,.int .i64 0] 31 (0,0)) (by (with_reducible repeat (first|refine yE ?_ _|refine yF ?_|refine yG ?_ _));exact BK398.out) NB398_0.out (by simp))
        have n2_:=Aside0.mk (KeepBut.blk hk (g':=gb408) (o:=.cells #[u409000,.int .i64 t404,.int .i64 t406] 31 (0,0)) (by (with_reducible repeat (first|refine yE ?_ _|refine yF ?_|refine yG ?_ _));exact BK408.out) NB408_0.out (by simp))
        have n3_:=Aside0.mk (KeepBut.trans (by repeat (first|(with_reducible first|exact HK.out|apply KeepBut.set_|apply keep_drewN|apply keep_drew|apply keep_alloc|refine keep_far ?_ GW398.out _|refine keep_far ?_ GW408.out _)|exact HK.out)) hk (.inl rfl))
        have n4_:=Aside0.mk (hb)
        have n5_:=Aside0.mk (hi)
        clear HO_409000
        clear BK398
        clear BK408
        clear HK
        clear HB
        clear HI0
        have HO_409000:=n0_
        have BK398:=n1_
        have BK408:=n2_
        have HK:=n3_
        have HB:=n4_
        have HI0:=n5_
        clear n0_ n1_ n2_ n3_ n4_ n5_
        (try clear hb)
        (try clear hb2)
        (try clear hk)
        (try clear hi)
        refine hK.out _ _ ⟨(blk_cell BK408.out 0).trans rfl,(blk_cell BK408.out 1).trans rfl,(blk_cell BK408.out 2).trans rfl⟩ (fun hHeld=>?_)
        clear hK K
        refine norm_ (a':=?_) ?_ ?_
        rotate_left
        ·show Act.put _ (some 33) _=_
         simp only [Act.put,yK,yL,yM,i64_w,i32_w]
         rfl
        refine pure_ (i:=5) (N:=some 34) (v:=?_) (a':=?_) #[true,true,true,true,true,true,false,false,false,false] rfl rfl (any_of HT_.out (by kernel_rfl)) (fun _ _ _ h=>h) (Or.inl ⟨by rfl,?_⟩) ?_ ?_
        rotate_left
        ·intro w'
         go_simp
         with_reducible rfl
        rotate_left
        ·simp only [Act.put,yK,yL,yM,i64_w,i32_w]
         rfl
        refine one_ (i:=6) (N:=some 35) #[true,true,true,true,true,true,true,false,false,false] rfl rfl (one_of HT_.out (by kernel_rfl)) (by decide) (fun K hK=>?_)
        refine value_ (w1:=?_) (v:=?_) (by rfl) rfl ?_ ?_
        rotate_left 2
        ·go_simp
         constructor
         ·rfl
         ·rfl
        refine hK.out _ _ ⟨(blk_cell (yG BK408.out _) 0).trans rfl,(blk_cell (yG BK408.out _) 1).trans rfl,(blk_cell (yG BK408.out _) 2).trans rfl⟩ (fun hHeld=>?_)
        clear hK K
        refine norm_ (a':=?_) ?_ ?_
        rotate_left
        ·show Act.put _ (some 35) _=_
         simp only [Act.put,yK,yL,yM,i64_w,i32_w]
         rfl
        refine one_ (i:=7) (N:=some 36) #[true,true,true,true,true,true,true,true,false,false] rfl rfl (one_of HT_.out (by kernel_rfl)) (by decide) (fun K hK=>?_)
        refine Kd.R_append_step (Kd.int .i64) w.heap.size (by rfl) (.tmp 30) (.tmp 35) 29 3 (.int .i64 0) 8 rfl Try.underlying29 info3 rfl (by decide) (by omega) u409000 x409000_1 ji30 [.int .i64 ji30] (fun _=>True) (fun _=>False) rfl rfl ?aP (fun _ hk=>hk.elim) ?aF ?aO (Below.refl _ _) ?aS ?aL ?_
        (case aP=>exact rfl)
        (case aF=>exact (fun _ _=>trivial))
        (case aO=>exact (by (with_reducible repeat (first|apply yH|apply yI|apply yJ));exact HO_409000.out))
        (case aS=>exact (keep_size (w:=w) (g:=g) (row:=none) (by repeat (first|(with_reducible first|exact HK.out|apply KeepBut.set_|apply keep_drewN|apply keep_drew|apply keep_alloc|refine keep_far ?_ GW398.out _|refine keep_far ?_ GW408.out _)|exact HK.out))))
        (case aL=>have:=LMc31.out;omega)
        intro v414 w34 ho hb hg hat
        rw [← Ny413.out] at ho
        have n0_:=Aside0.mk (blk_grown (g:=gb398) (o:=.cells #[.slice none 0 0,.int .i64 0,.int .i64 0] 31 (0,0)) (by (with_reducible repeat (first|refine yE ?_ _|refine yF ?_|refine yG ?_ _));exact BK398.out) hg (Kd.R_ne HO_409000.out BK398.out (by decide)))
        have n1_:=Aside0.mk (blk_grown (g:=gb408) (o:=.cells #[u409000,.int .i64 t404,.int .i64 t406] 31 (0,0)) (by (with_reducible repeat (first|refine yE ?_ _|refine yF ?_|refine yG ?_ _));exact BK408.out) hg (Kd.R_ne HO_409000.out BK408.out (by decide)))
        have n2_:=Aside0.mk (IsS74.grown (by repeat (first|(with_reducible first|exact HI0.out|apply IsS74.alloc|apply IsS74.drewN|apply IsS74.drew|apply IsS74.set_1|refine IsS74.far ?_ NB0_398.out _|refine IsS74.far ?_ NB0_408.out _)|exact HI0.out)) hg (IsS74.own_ne HI0.out HO_409000.out (by decide)))
        have n3_:=Aside0.mk (below_weaken (by repeat (first|(with_reducible first|exact HB.out|apply yA|apply yB|apply yC|refine yD ?_ (IsS74.ge HI0.out)|refine yD ?_ GE398.out|refine yD ?_ GE408.out)|exact HB.out)) HL.out hb)
        have n4_:=Aside0.mk (KeepBut.trans (by repeat (first|(with_reducible first|exact HK.out|apply KeepBut.set_|apply keep_drewN|apply keep_drew|apply keep_alloc|refine keep_far ?_ GW398.out _|refine keep_far ?_ GW408.out _)|exact HK.out)) (KeepBut.of_grown hg g) (Kd.R_base2 HO_409000.out))
        have n5_:=Aside0.mk (ho)
        clear BK398
        clear BK408
        clear HI0
        clear HB
        clear HK
        clear HO_409000
        have BK398:=n0_
        have BK408:=n1_
        have HI0:=n2_
        have HB:=n3_
        have HK:=n4_
        have HO415:=n5_
        clear n0_ n1_ n2_ n3_ n4_ n5_
        clear ho hb hg hat
        obtain ⟨Ao35,co35,eo35⟩:=Kd.R_slice HO415.out
        (first|subst eo35|(injection eo35 with f1_ f2_ f3_;have f4_:=f1_.symm;have f5_:=f3_.symm;clear f1_ f2_ f3_;subst f4_;subst f5_))
        refine hK.out _ _ ⟨(blk_cell BK408.out 0).trans rfl,(blk_cell BK408.out 1).trans rfl,(blk_cell BK408.out 2).trans rfl⟩ (fun hHeld=>?_)
        clear hK K
        refine norm_ (a':=?_) ?_ ?_
        rotate_left
        ·show Act.put _ (some 36) _=_
         simp only [Act.put,yK,yL,yM,i64_w,i32_w]
         rfl
        refine pure_ (i:=8) (N:=some 37) (v:=?_) (a':=?_) #[true,true,true,true,true,true,true,true,true,false] rfl rfl (any_of HT_.out (by kernel_rfl)) (fun _ _ _ h=>h) (Or.inl ⟨by rfl,?_⟩) ?_ ?_
        rotate_left
        ·intro w'
         go_simp
         with_reducible rfl
        rotate_left
        ·simp only [Act.put,yK,yL,yM,i64_w,i32_w]
         rfl
        refine last_ (i:=9) (N:=none) #[true,true,true,true,true,true,true,true,true,true] rfl rfl (one_of HT_.out (by kernel_rfl)) (by decide) (fun K hK=>?_)
        have hs36:w34.cell? ⟨gb408,0,none⟩=some (u409000):=(blk_cell BK408.out 0).trans rfl
        have hfs36:=blk_frozen BK408.out 0
        have hns36_0:=NB398_408.out
        have hms36_0:=NB408_398.out
        refine skip_ (w1:=?_) (by rfl) rfl ?_ ?_
        rotate_left
        ·go_simp
         rfl
        refine hK.out _ _ ?_
        clear hK K
        refine done_ (done_of HT_.out (by kernel_rfl)) ?_
        try go_wp2
        go_roundg k1
        case measure=>have:=HK1.out;omega
        case rel=>exact ⟨(wrap64 (x6_1+1)),(t412),(y413),(.slice Ao35 y413.length co35),(by first|rfl|(simp;done)|(simp [*];done)|(simp [Int.tmod_eq_emod_of_nonneg];done)),H',⟨by have:=HK1.out;omega⟩,⟨by (with_reducible repeat (first|apply yH|apply yI|apply yJ));exact Kd.R_mono (Kd.R_far (p:=⟨gb408,0,none⟩) (Kd.R_types HO415.out BK408.out (by decide)) (fun _ hk=>hk.2) (.slice Ao35 y413.length co35)) (fun _ hk=>trivial)⟩,⟨by (with_reducible repeat (first|refine yE ?_ _|refine yF ?_|refine yG ?_ _));refine blk_far ?_ NB398_408.out _;(with_reducible repeat (first|refine yE ?_ _|refine yF ?_|refine yG ?_ _));exact BK398.out⟩,⟨by (with_reducible repeat (first|refine yE ?_ _|refine yF ?_|refine yG ?_ _));refine blk_put (cs:=#[u409000,.int .i64 t404,.int .i64 t406]) ?_ 0 _ rfl;(with_reducible repeat (first|refine yE ?_ _|refine yF ?_|refine yG ?_ _));exact BK408.out⟩,⟨by repeat (first|(with_reducible first|exact HI0.out|apply IsS74.alloc|apply IsS74.drewN|apply IsS74.drew|apply IsS74.set_1|refine IsS74.far ?_ NB0_398.out _|refine IsS74.far ?_ NB0_408.out _)|exact HI0.out)⟩,⟨by repeat (first|(with_reducible first|exact HK.out|apply KeepBut.set_|apply keep_drewN|apply keep_drew|apply keep_alloc|refine keep_far ?_ GW398.out _|refine keep_far ?_ GW408.out _)|exact HK.out)⟩,⟨by repeat (first|(with_reducible first|exact HB.out|apply yA|apply yB|apply yC|refine yD ?_ (IsS74.ge HI0.out)|refine yD ?_ GE398.out|refine yD ?_ GE408.out)|exact HB.out)⟩⟩
       ·rw [if_neg c31] at H
        exact absurd H (by simp)
      ·rw [if_neg c29] at H
       exact absurd H (by simp)
     ·rw [if_neg c27] at H
      have c27b0:(t409 == 0)=false:=by simpa using c27
      (try (have c27b1:decide (t409=0)=false:=by simpa using c27))
      (try (have c27b2:(t409 == 0)=false:=by simpa using c27))
      (try (have c27b3:¬ (t409=0):=by simpa using c27))
      clear c27
      by_cases c37:0≤ji3
      ·rw [if_pos c37] at H
       have c37b0:=eq_true c37
       have c37b1:decide (0≤ji3)=true:=decide_eq_true c37
       clear c37
       replace H:((spec_l6Rd_pick.f k1 s0_0 x1001_1 (ji5)).bind fun bt416=>((spec_l6Rd_pick.f k1 s0_0 bt416.2 (ji5)).bind fun bt418=>(if x409000_1.length<17592186044416 then (spec_l91Machine.l0 k1 ji3 (t409 == 0) (wrap64 (x6_1+1)) s0_0 bt418.2 (x409000_1++[Go.bits .and .i64 bt416.1 bt418.1]) t404 t406) else (none))))=some (r1,r2,r3,r4):=by first|(rw [hji5] at H;exact H)|(simp only [hji5] at H ⊢;exact H)
       have hji5_:(IntKind.i64.wrap (1 * 2 ^ min ji3.toNat 64))=ji5:=hji5
       have hji5z:ji3≤64→(IntKind.i64.wrap (1 * 2 ^ ji3.toNat))=ji5:=shl_small hji5
       have hji5u:(IntKind.i64.wrap (2 ^ min ji3.toNat 64))=ji5:=by have h_:=hji5_;rw [Int.one_mul] at h_;exact h_
       have hji5v:ji3≤64→(IntKind.i64.wrap (2 ^ ji3.toNat))=ji5:=fun hle_=>by have h_:=hji5z hle_;rw [Int.one_mul] at h_;exact h_
       have hji5y:(wrap64 (1 * 2 ^ min ji3.toNat 64))=ji5:=(i64_w _).symm.trans hji5_
       have hji5x:ji3≤64→(wrap64 (1 * 2 ^ ji3.toNat))=ji5:=fun h_=>(i64_w _).symm.trans (hji5z h_)
       replace H:=Option.bind_eq_some_iff.mp H
       obtain ⟨⟨t416,t417⟩,A390,H⟩:=H
       replace H:((spec_l6Rd_pick.f k1 s0_0 t417 (ji5)).bind fun bt418=>(if x409000_1.length<17592186044416 then (spec_l91Machine.l0 k1 ji3 (t409 == 0) (wrap64 (x6_1+1)) s0_0 bt418.2 (x409000_1++[Go.bits .and .i64 t416 bt418.1]) t404 t406) else (none)))=some (r1,r2,r3,r4):=H
       have A39:=Aside0.mk A390
       clear A390
       have c40b0:=eq_true (of_decide_eq_true (by first|(with_reducible assumption)|assumption):0≤ji3)
       replace H:=Option.bind_eq_some_iff.mp H
       obtain ⟨⟨t418,t419⟩,A420,H⟩:=H
       replace H:(if x409000_1.length<17592186044416 then (spec_l91Machine.l0 k1 ji3 (t409 == 0) (wrap64 (x6_1+1)) s0_0 t419 (x409000_1++[Go.bits .and .i64 t416 t418]) t404 t406) else (none))=some (r1,r2,r3,r4):=H
       have A42:=Aside0.mk A420
       clear A420
       by_cases c43:x409000_1.length<17592186044416
       ·rw [if_pos c43] at H
        have LMc43:=Aside0.mk c43
        clear c43
        obtain ⟨y420,hy420⟩:∃ y_:List Int,y_=(x409000_1++[Go.bits .and .i64 t416 t418]):=⟨_,rfl⟩
        replace H:(spec_l91Machine.l0 k1 ji3 (t409 == 0) (wrap64 (x6_1+1)) s0_0 t419 y420 t404 t406)=some (r1,r2,r3,r4):=by first|(rw [hy420];with_reducible exact H)|(have H2_:=(Option.bind_some _ _).symm.trans H;rw [hy420];with_reducible exact H2_)|(have H2_:=(Option.bind_some _ _).symm.trans H;with_reducible exact H2_)|with_reducible exact H|(rw [hy420];exact H)|exact H
        have Ny420:=Aside0.mk hy420
        clear hy420
        have H':=Aside0.mk H
        clear H
        try go_wp2
        have n0_:=Aside0.mk (yJ HO_409000.out)
        have n1_:=Aside0.mk (yF BK398.out)
        have n2_:=Aside0.mk (yF BK408.out)
        have n3_:=Aside0.mk (IsS74.drew HI0.out)
        have n4_:=Aside0.mk (keep_drew HK.out)
        have n5_:=Aside0.mk (yC HB.out)
        clear HO_409000
        clear BK398
        clear BK408
        clear HI0
        clear HK
        clear HB
        have HO_409000:=n0_
        have BK398:=n1_
        have BK408:=n2_
        have HI0:=n3_
        have HK:=n4_
        have HB:=n5_
        clear n0_ n1_ n2_ n3_ n4_ n5_
        refine start_ (n:=15) (S:=fun w'=>w'.cell? ⟨gb408,0,none⟩=some (u409000)∧w'.cell? ⟨gb408,1,none⟩=some (.int .i64 t404)∧w'.cell? ⟨gb408,2,none⟩=some (.int .i64 t406)) (ds:=[14]) #[false,false,false,false,false,false,false,false,false,false,false,false,false,false,false] (by kernel_rfl) rfl rfl ⟨(blk_cell BK408.out 0).trans rfl,(blk_cell BK408.out 1).trans rfl,(blk_cell BK408.out 2).trans rfl⟩ (fun hHeld=>?_);refine with_tabW spec_l91Machine.tab9 spec_l91Machine.bits9 (fun HT_ HW_=>?_)
        generalize wr.drew=w44 at HO_409000 BK398 BK408 HI0 HK HB hHeld ⊢
        refine pure_ (i:=0) (N:=some 38) (v:=?_) (a':=?_) #[true,false,false,false,false,false,false,false,false,false,false,false,false,false,false] rfl rfl (any_of HT_.out (by kernel_rfl)) (fun _ _ _ h=>h) (Or.inl ⟨by rfl,?_⟩) ?_ ?_
        rotate_left
        ·intro w'
         go_simp
         with_reducible rfl
        rotate_left
        ·simp only [Act.put,yK,yL,yM,i64_w,i32_w]
         rfl
        refine pure_ (i:=2) (N:=some 40) (v:=?_) (a':=?_) #[true,false,true,false,false,false,false,false,false,false,false,false,false,false,false] rfl rfl (any_of HT_.out (by kernel_rfl)) (fun _ _ _ h=>h) (Or.inl ⟨by rfl,?_⟩) ?_ ?_
        rotate_left
        ·intro w'
         go_simp
         with_reducible rfl
        rotate_left
        ·simp only [Act.put,yK,yL,yM,i64_w,i32_w]
         rfl
        refine pure_ (i:=3) (N:=some 41) (v:=?_) (a':=?_) #[true,false,true,true,false,false,false,false,false,false,false,false,false,false,false] rfl rfl (any_of HT_.out (by kernel_rfl)) (fun _ _ _ h=>h) (Or.inl ⟨by rfl,?_⟩) ?_ ?_
        rotate_left
        ·intro w'
         go_simp
         with_reducible rfl
        rotate_left
        ·simp only [Act.put,yK,yL,yM,i64_w,i32_w]
         rfl
        refine pure_ (i:=4) (N:=some 42) (v:=?_) (a':=?_) #[true,false,true,true,true,false,false,false,false,false,false,false,false,false,false] rfl rfl (any_of HT_.out (by kernel_rfl)) (fun _ _ _ h=>h) (Or.inl ⟨by rfl,?_⟩) ?_ ?_
        rotate_left
        ·intro w'
         go_simp
         with_reducible rfl
        rotate_left
        ·simp only [Act.put,yK,yL,yM,i64_w,i32_w]
         rfl
        refine pure_ (i:=6) (N:=some 44) (v:=?_) (a':=?_) #[true,false,true,true,true,false,true,false,false,false,false,false,false,false,false] rfl rfl (any_of HT_.out (by kernel_rfl)) (fun _ _ _ h=>h) (Or.inl ⟨by rfl,?_⟩) ?_ ?_
        rotate_left
        ·intro w'
         go_simp
         with_reducible rfl
        rotate_left
        ·simp only [Act.put,yK,yL,yM,i64_w,i32_w]
         rfl
        refine pure_ (i:=7) (N:=some 45) (v:=?_) (a':=?_) #[true,false,true,true,true,false,true,true,false,false,false,false,false,false,false] rfl rfl (any_of HT_.out (by kernel_rfl)) (fun _ _ _ h=>h) (Or.inl ⟨by rfl,?_⟩) ?_ ?_
        rotate_left
        ·intro w'
         go_simp
         with_reducible rfl
        rotate_left
        ·simp only [Act.put,yK,yL,yM,i64_w,i32_w]
         rfl
        refine pure_ (i:=8) (N:=some 46) (v:=?_) (a':=?_) #[true,false,true,true,true,false,true,true,true,false,false,false,false,false,false] rfl rfl (any_of HT_.out (by kernel_rfl)) (fun _ _ _ h=>h) (Or.inl ⟨by rfl,?_⟩) ?_ ?_
        rotate_left
        ·intro w'
         go_simp
         with_reducible rfl
        rotate_left
        ·simp only [Act.put,yK,yL,yM,i64_w,i32_w]
         rfl
        refine take_ (i:=1) (N:=some 39) (v:=?_) (a':=?_) #[true,true,true,true,true,false,true,true,true,false,false,false,false,false,false] rfl rfl (take_ofW HT_.out HW_.out (by kernel_rfl)) (fun _ _ _ h=>h) (Or.inl ⟨by rfl,?_⟩) hHeld ?_ ?_
        rotate_left
        ·rintro w' ⟨s0,s1,s2⟩
         go_simp
         with_reducible rfl
        rotate_left
        ·simp only [Act.put,yK,yL,yM,i64_w,i32_w]
         rfl
        refine one_ (i:=5) (N:=some 43) #[true,true,true,true,true,true,true,true,true,false,false,false,false,false,false] rfl rfl (one_of HT_.out (by kernel_rfl)) (by decide) (fun K hK=>?_)
        refine goes_ Try.func54 (by kernel_rfl) rfl #[.pointer (some ⟨g,0,none⟩),.int .i64 ji5] (by rfl) rfl rfl (by (try simp only [List.map_toArray,List.map_cons,List.map_nil]);first|done|(simp only [hji5];rfl)|rfl|(simp only [List.length_drop,List.length_take];rfl)) ?_
        with_reducible refine (spec_l6Rd_pick.calls k1 g s0_0 x1001_1 ji5 t416 t417 w0 _ ?side1 ?side2 A39.out).mono ?_
        (case side1=>repeat (first|(with_reducible first|exact HI0.out|apply IsS74.alloc|apply IsS74.drewN|apply IsS74.drew|apply IsS74.set_1|refine IsS74.far ?_ NB0_398.out _|refine IsS74.far ?_ NB0_408.out _)|exact HI0.out))
        (case side2=>repeat (first|(with_reducible first|exact HB.out|apply yA|apply yB|apply yC|refine yD ?_ (IsS74.ge HI0.out)|refine yD ?_ GE398.out|refine yD ?_ GE408.out)|exact HB.out))
        rintro e w45 ⟨rfl,hi,hb,hk⟩
        refine ⟨_,rfl,?_⟩
        have n0_:=Aside0.mk (Kd.R_mono (Kd.R_keep (IsS74.apart (show IsS74 w0 _ g s0_0 x1001_1 from by repeat (first|(with_reducible first|exact HI0.out|apply IsS74.alloc|apply IsS74.drewN|apply IsS74.drew|apply IsS74.set_1|refine IsS74.far ?_ NB0_398.out _|refine IsS74.far ?_ NB0_408.out _)|exact HI0.out)) (by (with_reducible repeat (first|apply yH|apply yI|apply yJ));exact HO_409000.out) (by decide)) hk (fun _ h=>h.2)) (fun _ h=>h.1))
        have n1_:=Aside0.mk (KeepBut.blk hk (g':=gb398) (o:=.cells #[.slice none 0 0,.int .i64 0,.int .i64 0] 31 (0,0)) (by (with_reducible repeat (first|refine yE ?_ _|refine yF ?_|refine yG ?_ _));exact BK398.out) NB398_0.out (by simp))
        have n2_:=Aside0.mk (KeepBut.blk hk (g':=gb408) (o:=.cells #[u409000,.int .i64 t404,.int .i64 t406] 31 (0,0)) (by (with_reducible repeat (first|refine yE ?_ _|refine yF ?_|refine yG ?_ _));exact BK408.out) NB408_0.out (by simp))
        have n3_:=Aside0.mk (KeepBut.trans (by repeat (first|(with_reducible first|exact HK.out|apply KeepBut.set_|apply keep_drewN|apply keep_drew|apply keep_alloc|refine keep_far ?_ GW398.out _|refine keep_far ?_ GW408.out _)|exact HK.out)) hk (.inl rfl))
        have n4_:=Aside0.mk (hb)
        have n5_:=Aside0.mk (hi)
        clear HO_409000
        clear BK398
        clear BK408
        clear HK
        clear HB
        clear HI0
        have HO_409000:=n0_
        have BK398:=n1_
        have BK408:=n2_
        have HK:=n3_
        have HB:=n4_
        have HI0:=n5_
        clear n0_ n1_ n2_ n3_ n4_ n5_
        (try clear hb)
        (try clear hb2)
        (try clear hk)
        (try clear hi)
        refine hK.out _ _ ⟨(blk_cell BK408.out 0).trans rfl,(blk_cell BK408.out 1).trans rfl,(blk_cell BK408.out 2).trans rfl⟩ (fun hHeld=>?_)
        clear hK K
        refine norm_ (a':=?_) ?_ ?_
        rotate_left
        ·show Act.put _ (some 43) _=_
         simp only [Act.put,yK,yL,yM,i64_w,i32_w]
         rfl
        refine one_ (i:=9) (N:=some 47) #[true,true,true,true,true,true,true,true,true,true,false,false,false,false,false] rfl rfl (one_of HT_.out (by kernel_rfl)) (by decide) (fun K hK=>?_)
        refine goes_ Try.func54 (by kernel_rfl) rfl #[.pointer (some ⟨g,0,none⟩),.int .i64 ji5] (by rfl) rfl rfl (by (try simp only [List.map_toArray,List.map_cons,List.map_nil]);first|done|(simp only [hji5];rfl)|rfl|(simp only [List.length_drop,List.length_take];rfl)) ?_
        with_reducible refine (spec_l6Rd_pick.calls k1 g s0_0 t417 ji5 t418 t419 w0 _ ?side1 ?side2 A42.out).mono ?_
        (case side1=>repeat (first|(with_reducible first|exact HI0.out|apply IsS74.alloc|apply IsS74.drewN|apply IsS74.drew|apply IsS74.set_1|refine IsS74.far ?_ NB0_398.out _|refine IsS74.far ?_ NB0_408.out _)|exact HI0.out))
        (case side2=>repeat (first|(with_reducible first|exact HB.out|apply yA|apply yB|apply yC|refine yD ?_ (IsS74.ge HI0.out)|refine yD ?_ GE398.out|refine yD ?_ GE408.out)|exact HB.out))
        rintro e w46 ⟨rfl,hi,hb,hk⟩
        refine ⟨_,rfl,?_⟩
        have n0_:=Aside0.mk (Kd.R_mono (Kd.R_keep (IsS74.apart (show IsS74 w0 _ g s0_0 t417 from by repeat (first|(with_reducible first|exact HI0.out|apply IsS74.alloc|apply IsS74.drewN|apply IsS74.drew|apply IsS74.set_1|refine IsS74.far ?_ NB0_398.out _|refine IsS74.far ?_ NB0_408.out _)|exact HI0.out)) (by (with_reducible repeat (first|apply yH|apply yI|apply yJ));exact HO_409000.out) (by decide)) hk (fun _ h=>h.2)) (fun _ h=>h.1))
        have n1_:=Aside0.mk (KeepBut.blk hk (g':=gb398) (o:=.cells #[.slice none 0 0,.int .i64 0,.int .i64 0] 31 (0,0)) (by (with_reducible repeat (first|refine yE ?_ _|refine yF ?_|refine yG ?_ _));exact BK398.out) NB398_0.out (by simp))
        have n2_:=Aside0.mk (KeepBut.blk hk (g':=gb408) (o:=.cells #[u409000,.int .i64 t404,.int .i64 t406] 31 (0,0)) (by (with_reducible repeat (first|refine yE ?_ _|refine yF ?_|refine yG ?_ _));exact BK408.out) NB408_0.out (by simp))
        have n3_:=Aside0.mk (KeepBut.trans (by repeat (first|(with_reducible first|exact HK.out|apply KeepBut.set_|apply keep_drewN|apply keep_drew|apply keep_alloc|refine keep_far ?_ GW398.out _|refine keep_far ?_ GW408.out _)|exact HK.out)) hk (.inl rfl))
        have n4_:=Aside0.mk (hb)
        have n5_:=Aside0.mk (hi)
        clear HO_409000
        clear BK398
        clear BK408
        clear HK
        clear HB
        clear HI0
        have HO_409000:=n0_
        have BK398:=n1_
        have BK408:=n2_
        have HK:=n3_
        have HB:=n4_
        have HI0:=n5_
        clear n0_ n1_ n2_ n3_ n4_ n5_
        (try clear hb)
        (try clear hb2)
        (try clear hk)
        (try clear hi)
        refine hK.out _ _ ⟨(blk_cell BK408.out 0).trans rfl,(blk_cell BK408.out 1).trans rfl,(blk_cell BK408.out 2).trans rfl⟩ (fun hHeld=>?_)
        clear hK K
        refine norm_ (a':=?_) ?_ ?_
        rotate_left
        ·show Act.put _ (some 47) _=_
         simp only [Act.put,yK,yL,yM,i64_w,i32_w]
         rfl
        refine pure_ (i:=10) (N:=some 48) (v:=?_) (a':=?_) #[true,true,true,true,true,true,true,true,true,true,true,false,false,false,false] rfl rfl (any_of HT_.out (by kernel_rfl)) (fun _ _ _ h=>h) (Or.inl ⟨by rfl,?_⟩) ?_ ?_
        rotate_left
        ·intro w'
         go_simp
         with_reducible rfl
        rotate_left
        ·simp only [Act.put,yK,yL,yM,i64_w,i32_w]
         rfl
        refine one_ (i:=11) (N:=some 49) #[true,true,true,true,true,true,true,true,true,true,true,true,false,false,false] rfl rfl (one_of HT_.out (by kernel_rfl)) (by decide) (fun K hK=>?_)
        refine value_ (w1:=?_) (v:=?_) (by rfl) rfl ?_ ?_
        rotate_left 2
        ·go_simp
         constructor
         ·rfl
         ·rfl
        refine hK.out _ _ ⟨(blk_cell (yG BK408.out _) 0).trans rfl,(blk_cell (yG BK408.out _) 1).trans rfl,(blk_cell (yG BK408.out _) 2).trans rfl⟩ (fun hHeld=>?_)
        clear hK K
        refine norm_ (a':=?_) ?_ ?_
        rotate_left
        ·show Act.put _ (some 49) _=_
         simp only [Act.put,yK,yL,yM,i64_w,i32_w]
         rfl
        refine one_ (i:=12) (N:=some 50) #[true,true,true,true,true,true,true,true,true,true,true,true,true,false,false] rfl rfl (one_of HT_.out (by kernel_rfl)) (by decide) (fun K hK=>?_)
        refine Kd.R_append_step (Kd.int .i64) w.heap.size (by rfl) (.tmp 39) (.tmp 49) 29 3 (.int .i64 0) 8 rfl Try.underlying29 info3 rfl (by decide) (by omega) u409000 x409000_1 (Go.bits .and .i64 t416 t418) [.int .i64 (Go.bits .and .i64 t416 t418)] (fun _=>True) (fun _=>False) rfl rfl ?aP (fun _ hk=>hk.elim) ?aF ?aO (Below.refl _ _) ?aS ?aL ?_
        (case aP=>exact rfl)
        (case aF=>exact (fun _ _=>trivial))
        (case aO=>exact (by (with_reducible repeat (first|apply yH|apply yI|apply yJ));exact HO_409000.out))
        (case aS=>exact (keep_size (w:=w) (g:=g) (row:=none) (by repeat (first|(with_reducible first|exact HK.out|apply KeepBut.set_|apply keep_drewN|apply keep_drew|apply keep_alloc|refine keep_far ?_ GW398.out _|refine keep_far ?_ GW408.out _)|exact HK.out))))
        (case aL=>have:=LMc43.out;omega)
        intro v421 w47 ho hb hg hat
        rw [← Ny420.out] at ho
        have n0_:=Aside0.mk (blk_grown (g:=gb398) (o:=.cells #[.slice none 0 0,.int .i64 0,.int .i64 0] 31 (0,0)) (by (with_reducible repeat (first|refine yE ?_ _|refine yF ?_|refine yG ?_ _));exact BK398.out) hg (Kd.R_ne HO_409000.out BK398.out (by decide)))
        have n1_:=Aside0.mk (blk_grown (g:=gb408) (o:=.cells #[u409000,.int .i64 t404,.int .i64 t406] 31 (0,0)) (by (with_reducible repeat (first|refine yE ?_ _|refine yF ?_|refine yG ?_ _));exact BK408.out) hg (Kd.R_ne HO_409000.out BK408.out (by decide)))
        have n2_:=Aside0.mk (IsS74.grown (by repeat (first|(with_reducible first|exact HI0.out|apply IsS74.alloc|apply IsS74.drewN|apply IsS74.drew|apply IsS74.set_1|refine IsS74.far ?_ NB0_398.out _|refine IsS74.far ?_ NB0_408.out _)|exact HI0.out)) hg (IsS74.own_ne HI0.out HO_409000.out (by decide)))
        have n3_:=Aside0.mk (below_weaken (by repeat (first|(with_reducible first|exact HB.out|apply yA|apply yB|apply yC|refine yD ?_ (IsS74.ge HI0.out)|refine yD ?_ GE398.out|refine yD ?_ GE408.out)|exact HB.out)) HL.out hb)
        have n4_:=Aside0.mk (KeepBut.trans (by repeat (first|(with_reducible first|exact HK.out|apply KeepBut.set_|apply keep_drewN|apply keep_drew|apply keep_alloc|refine keep_far ?_ GW398.out _|refine keep_far ?_ GW408.out _)|exact HK.out)) (KeepBut.of_grown hg g) (Kd.R_base2 HO_409000.out))
        have n5_:=Aside0.mk (ho)
        clear BK398
        clear BK408
        clear HI0
        clear HB
        clear HK
        clear HO_409000
        have BK398:=n0_
        have BK408:=n1_
        have HI0:=n2_
        have HB:=n3_
        have HK:=n4_
        have HO422:=n5_
        clear n0_ n1_ n2_ n3_ n4_ n5_
        clear ho hb hg hat
        obtain ⟨Ao48,co48,eo48⟩:=Kd.R_slice HO422.out
        (first|subst eo48|(injection eo48 with f1_ f2_ f3_;have f4_:=f1_.symm;have f5_:=f3_.symm;clear f1_ f2_ f3_;subst f4_;subst f5_))
        refine hK.out _ _ ⟨(blk_cell BK408.out 0).trans rfl,(blk_cell BK408.out 1).trans rfl,(blk_cell BK408.out 2).trans rfl⟩ (fun hHeld=>?_)
        clear hK K
        refine norm_ (a':=?_) ?_ ?_
        rotate_left
        ·show Act.put _ (some 50) _=_
         simp only [Act.put,yK,yL,yM,i64_w,i32_w]
         rfl
        refine pure_ (i:=13) (N:=some 51) (v:=?_) (a':=?_) #[true,true,true,true,true,true,true,true,true,true,true,true,true,true,false] rfl rfl (any_of HT_.out (by kernel_rfl)) (fun _ _ _ h=>h) (Or.inl ⟨by rfl,?_⟩) ?_ ?_
        rotate_left
        ·intro w'
         go_simp
         with_reducible rfl
        rotate_left
        ·simp only [Act.put,yK,yL,yM,i64_w,i32_w]
         rfl
        refine last_ (i:=14) (N:=none) #[true,true,true,true,true,true,true,true,true,true,true,true,true,true,true] rfl rfl (one_of HT_.out (by kernel_rfl)) (by decide) (fun K hK=>?_)
        have hs49:w47.cell? ⟨gb408,0,none⟩=some (u409000):=(blk_cell BK408.out 0).trans rfl
        have hfs49:=blk_frozen BK408.out 0
        have hns49_0:=NB398_408.out
        have hms49_0:=NB408_398.out
        refine skip_ (w1:=?_) (by rfl) rfl ?_ ?_
        rotate_left
        ·go_simp
         rfl
        refine hK.out _ _ ?_
        clear hK K
        refine done_ (done_of HT_.out (by kernel_rfl)) ?_
        try go_wp2
        go_roundg k1
        case measure=>have:=HK1.out;omega
        case rel=>exact ⟨(wrap64 (x6_1+1)),(t419),(y420),(.slice Ao48 y420.length co48),(by first|rfl|(simp;done)|(simp [*];done)|(simp [Int.tmod_eq_emod_of_nonneg];done)),H',⟨by have:=HK1.out;omega⟩,⟨by (with_reducible repeat (first|apply yH|apply yI|apply yJ));exact Kd.R_mono (Kd.R_far (p:=⟨gb408,0,none⟩) (Kd.R_types HO422.out BK408.out (by decide)) (fun _ hk=>hk.2) (.slice Ao48 y420.length co48)) (fun _ hk=>trivial)⟩,⟨by (with_reducible repeat (first|refine yE ?_ _|refine yF ?_|refine yG ?_ _));refine blk_far ?_ NB398_408.out _;(with_reducible repeat (first|refine yE ?_ _|refine yF ?_|refine yG ?_ _));exact BK398.out⟩,⟨by (with_reducible repeat (first|refine yE ?_ _|refine yF ?_|refine yG ?_ _));refine blk_put (cs:=#[u409000,.int .i64 t404,.int .i64 t406]) ?_ 0 _ rfl;(with_reducible repeat (first|refine yE ?_ _|refine yF ?_|refine yG ?_ _));exact BK408.out⟩,⟨by repeat (first|(with_reducible first|exact HI0.out|apply IsS74.alloc|apply IsS74.drewN|apply IsS74.drew|apply IsS74.set_1|refine IsS74.far ?_ NB0_398.out _|refine IsS74.far ?_ NB0_408.out _)|exact HI0.out)⟩,⟨by repeat (first|(with_reducible first|exact HK.out|apply KeepBut.set_|apply keep_drewN|apply keep_drew|apply keep_alloc|refine keep_far ?_ GW398.out _|refine keep_far ?_ GW408.out _)|exact HK.out)⟩,⟨by repeat (first|(with_reducible first|exact HB.out|apply yA|apply yB|apply yC|refine yD ?_ (IsS74.ge HI0.out)|refine yD ?_ GE398.out|refine yD ?_ GE408.out)|exact HB.out)⟩⟩
       ·rw [if_neg c43] at H
        exact absurd H (by simp)
      ·rw [if_neg c37] at H
       exact absurd H (by simp)
    ·rw [if_neg c26] at H
     have c26b0:decide (x6_1<ji3)=false:=decide_eq_false c26
     clear c26
     have HC50:=Aside0.mk H
     clear H
     go_upto_if 52 with (fail)
     go_cut [5] (fun v5 wc=>∃ (kq:Nat) (x1001_49:Int) (x409001_49:Int),v5=.bool (t409 == 0)∧Aside0 (spec_l91Machine.j1 kq ji3 s0_0 x1001_49 x409000_1 x409001_49 t406=some (r1,r2,r3,r4))∧Aside0 (kq≤k1)∧Aside0 (Kd.R (Kd.int .i64) 3 wc w.heap.size (fun _=>True) u409000 x409000_1)∧Aside0 (wc.heap[gb398]?=some (.cells #[(.slice none 0 0),.int .i64 0,.int .i64 0] 31 (0,0)))∧Aside0 (wc.heap[gb408]?=some (.cells #[u409000,.int .i64 x409001_49,.int .i64 t406] 31 (0,0)))∧Aside0 (IsS74 w0 wc g s0_0 x1001_49)∧Aside0 (KeepBut w wc g none)∧Aside0 (Below w0.heap.size w0 wc))
     case first =>
      have H:=HC50.out
      clear HC50
      by_cases c51:(t409 == 0)=true
      ·rw [if_pos c51] at H
       have c51b0:(t409 == 0)=true:=c51
       (try (have c51b1:decide (t409=0)=true:=by simpa using c51))
       (try (have c51b2:(t409 == 0)=true:=by simpa using c51))
       clear c51
       (first|rw [c51b0]|(simp only [i64_w,i32_w];rw [c51b0])|skip)
       replace H:=Option.bind_eq_some_iff.mp H
       obtain ⟨⟨t423,t424⟩,A520,H⟩:=H
       replace H:(if 0≤t423 then (spec_l91Machine.j1 k1 ji3 s0_0 t424 x409000_1 (shl .i64 1 t423) t406) else (none))=some (r1,r2,r3,r4):=H
       have A52:=Aside0.mk A520
       clear A520
       by_cases c53:0≤t423
       ·rw [if_pos c53] at H
        have c53b0:=eq_true c53
        have c53b1:decide (0≤t423)=true:=decide_eq_true c53
        clear c53
        obtain ⟨ji54,hji54⟩:∃ j_:Int,(shl .i64 1 t423)=j_:=⟨_,rfl⟩
        replace H:(spec_l91Machine.j1 k1 ji3 s0_0 t424 x409000_1 ji54 t406)=some (r1,r2,r3,r4):=by first|(rw [hji54] at H;exact H)|(simp only [hji54] at H ⊢;exact H)
        (try rw [hji54] at A52)
        have hji54_:(IntKind.i64.wrap (1 * 2 ^ min t423.toNat 64))=ji54:=hji54
        have hji54z:t423≤64→(IntKind.i64.wrap (1 * 2 ^ t423.toNat))=ji54:=shl_small hji54
        have hji54u:(IntKind.i64.wrap (2 ^ min t423.toNat 64))=ji54:=by have h_:=hji54_;rw [Int.one_mul] at h_;exact h_
        have hji54v:t423≤64→(IntKind.i64.wrap (2 ^ t423.toNat))=ji54:=fun hle_=>by have h_:=hji54z hle_;rw [Int.one_mul] at h_;exact h_
        have hji54y:(wrap64 (1 * 2 ^ min t423.toNat 64))=ji54:=(i64_w _).symm.trans hji54_
        have hji54x:t423≤64→(wrap64 (1 * 2 ^ t423.toNat))=ji54:=fun h_=>(i64_w _).symm.trans (hji54z h_)
        have H':=Aside0.mk H
        clear H
        go_wp2_with (first|((with_reducible refine gate_callee (f:=54) rfl ?_);refine goesL_ (some 55) rfl rfl Try.func54 (by kernel_rfl) rfl #[.pointer (some ⟨g,0,none⟩),.int .i64 ji3] rfl (by (try simp only [List.map_toArray,List.map_cons,List.map_nil]);first|done|(simp only [hji3];rfl)|rfl|(simp only [List.length_drop,List.length_take];rfl)) ?_;(with_reducible refine (spec_l6Rd_pick.calls k1 g s0_0 x1001_1 ji3 t423 t424 w0 _ ?side1 ?side2 A52.out).mono ?_);(case side1=>repeat (first|(with_reducible first|exact HI0.out|apply IsS74.alloc|apply IsS74.drewN|apply IsS74.drew|apply IsS74.set_1|refine IsS74.far ?_ NB0_398.out _|refine IsS74.far ?_ NB0_408.out _)|exact HI0.out));(case side2=>repeat (first|(with_reducible first|exact HB.out|apply yA|apply yB|apply yC|refine yD ?_ (IsS74.ge HI0.out)|refine yD ?_ GE398.out|refine yD ?_ GE408.out)|exact HB.out));rintro e w55 ⟨rfl,hi,hb,hk⟩;refine ⟨_,rfl,?_⟩;have n0_:=Aside0.mk (Kd.R_mono (Kd.R_keep (IsS74.apart (show IsS74 w0 _ g s0_0 x1001_1 from by repeat (first|(with_reducible first|exact HI0.out|apply IsS74.alloc|apply IsS74.drewN|apply IsS74.drew|apply IsS74.set_1|refine IsS74.far ?_ NB0_398.out _|refine IsS74.far ?_ NB0_408.out _)|exact HI0.out)) (by (with_reducible repeat (first|apply yH|apply yI|apply yJ));exact HO_409000.out) (by decide)) hk (fun _ h=>h.2)) (fun _ h=>h.1));have n1_:=Aside0.mk (KeepBut.blk hk (g':=gb398) (o:=.cells #[.slice none 0 0,.int .i64 0,.int .i64 0] 31 (0,0)) (by (with_reducible repeat (first|refine yE ?_ _|refine yF ?_|refine yG ?_ _));exact BK398.out) NB398_0.out (by simp));have n2_:=Aside0.mk (KeepBut.blk hk (g':=gb408) (o:=.cells #[u409000,.int .i64 t404,.int .i64 t406] 31 (0,0)) (by (with_reducible repeat (first|refine yE ?_ _|refine yF ?_|refine yG ?_ _));exact BK408.out) NB408_0.out (by simp));have n3_:=Aside0.mk (KeepBut.trans (by repeat (first|(with_reducible first|exact HK.out|apply KeepBut.set_|apply keep_drewN|apply keep_drew|apply keep_alloc|refine keep_far ?_ GW398.out _|refine keep_far ?_ GW408.out _)|exact HK.out)) hk (.inl rfl));have n4_:=Aside0.mk (hb);have n5_:=Aside0.mk (hi);clear HO_409000;clear BK398;clear BK408;clear HK;clear HB;clear HI0;have HO_409000:=n0_;have BK398:=n1_;have BK408:=n2_;have HK:=n3_;have HB:=n4_;have HI0:=n5_;clear n0_ n1_ n2_ n3_ n4_ n5_;(try clear hb);(try clear hb2);(try clear hk);(try clear hi);have hnb56:=NB408_398.out;have hnc56:=NB398_408.out;have hnb57:=NB408_0.out;have hnc57:=NB0_408.out;have hcz58_0:w55.cell? ⟨gb408,0,none⟩=some (u409000):=(blk_cell BK408.out 0).trans rfl;have hcz58_1:w55.cell? ⟨gb408,1,none⟩=some (.int .i64 t404):=(blk_cell BK408.out 1).trans rfl;have hcz58_2:w55.cell? ⟨gb408,2,none⟩=some (.int .i64 t406):=(blk_cell BK408.out 2).trans rfl;have hfz58_0:=blk_frozen BK408.out 0;have hfz58_1:=blk_frozen BK408.out 1;have hfz58_2:=blk_frozen BK408.out 2))
        go_meet
        case rel=>exact ⟨_,(t424),(ji54),(by first|rfl|(simp [*];done)),H',⟨by have:=HK1.out;first|omega|exact Nat.le_refl _⟩,⟨by (with_reducible repeat (first|apply yH|apply yI|apply yJ));exact Kd.R_mono (Kd.R_far (p:=⟨gb408,1,none⟩) (Kd.R_types HO_409000.out BK408.out (by decide)) (fun _ hk=>hk.2) (.int .i64 ji54)) (fun _ hk=>trivial)⟩,⟨by (with_reducible repeat (first|refine yE ?_ _|refine yF ?_|refine yG ?_ _));refine blk_far ?_ NB398_408.out _;(with_reducible repeat (first|refine yE ?_ _|refine yF ?_|refine yG ?_ _));exact BK398.out⟩,⟨by (with_reducible repeat (first|refine yE ?_ _|refine yF ?_|refine yG ?_ _));refine blk_put (cs:=#[u409000,.int .i64 t404,.int .i64 t406]) ?_ 1 _ rfl;(with_reducible repeat (first|refine yE ?_ _|refine yF ?_|refine yG ?_ _));exact BK408.out⟩,⟨by repeat (first|(with_reducible first|exact HI0.out|apply IsS74.alloc|apply IsS74.drewN|apply IsS74.drew|apply IsS74.set_1|refine IsS74.far ?_ NB0_398.out _|refine IsS74.far ?_ NB0_408.out _)|exact HI0.out)⟩,⟨by repeat (first|(with_reducible first|exact HK.out|apply KeepBut.set_|apply keep_drewN|apply keep_drew|apply keep_alloc|refine keep_far ?_ GW398.out _|refine keep_far ?_ GW408.out _)|exact HK.out)⟩,⟨by repeat (first|(with_reducible first|exact HB.out|apply yA|apply yB|apply yC|refine yD ?_ (IsS74.ge HI0.out)|refine yD ?_ GE398.out|refine yD ?_ GE408.out)|exact HB.out)⟩⟩
       ·rw [if_neg c53] at H
        exact absurd H (by simp)
      ·rw [if_neg c51] at H
       have c51b0:(t409 == 0)=false:=by simpa using c51
       (try (have c51b1:decide (t409=0)=false:=by simpa using c51))
       (try (have c51b2:(t409 == 0)=false:=by simpa using c51))
       (try (have c51b3:¬ (t409=0):=by simpa using c51))
       clear c51
       (first|rw [c51b0]|(simp only [i64_w,i32_w];rw [c51b0])|skip)
       have H':=Aside0.mk H
       clear H
       go_wp2
       go_meet
       case rel=>exact ⟨_,(x1001_1),(t404),(by first|rfl|(simp [*];done)),H',⟨by have:=HK1.out;first|omega|exact Nat.le_refl _⟩,⟨by (with_reducible repeat (first|apply yH|apply yI|apply yJ));exact HO_409000.out⟩,⟨by (with_reducible repeat (first|refine yE ?_ _|refine yF ?_|refine yG ?_ _));exact BK398.out⟩,⟨by (with_reducible repeat (first|refine yE ?_ _|refine yF ?_|refine yG ?_ _));exact BK408.out⟩,⟨by repeat (first|(with_reducible first|exact HI0.out|apply IsS74.alloc|apply IsS74.drewN|apply IsS74.drew|apply IsS74.set_1|refine IsS74.far ?_ NB0_398.out _|refine IsS74.far ?_ NB0_408.out _)|exact HI0.out)⟩,⟨by repeat (first|(with_reducible first|exact HK.out|apply KeepBut.set_|apply keep_drewN|apply keep_drew|apply keep_alloc|refine keep_far ?_ GW398.out _|refine keep_far ?_ GW408.out _)|exact HK.out)⟩,⟨by repeat (first|(with_reducible first|exact HB.out|apply yA|apply yB|apply yC|refine yD ?_ (IsS74.ge HI0.out)|refine yD ?_ GE398.out|refine yD ?_ GE408.out)|exact HB.out)⟩⟩
     case rest =>
      clear HC50
      try clear c2
      try clear p2
      try clear c3
      try clear c4
      try clear c5
      try clear p6
      try clear c26
      try clear c26b0
      try clear c27
      try clear c27b0
      try clear c27b1
      try clear c27b2
      try clear c29
      try clear c29b0
      try clear c29b1
      try clear c31
      try clear c37
      try clear c37b0
      try clear c37b1
      try clear c40
      try clear c40b0
      try clear c41
      try clear c41b0
      try clear c43
      try clear c51
      try clear c51b0
      try clear c51b1
      try clear c51b2
      try clear c53
      try clear c53b0
      try clear c53b1
      try clear c54
      try clear c56
      try clear c57
      try clear hcz58_0
      try clear hcz58_1
      try clear hcz58_2
      try clear hfz58_0
      try clear hfz58_1
      try clear hfz58_2
      try clear p2
      obtain ⟨kq,x1001_49,x409001_49,rfl,HA,HJ49,HO_409000,BK398,BK408,HI0,HK,HB⟩:=hcut
      cases kq with
      | zero=>exact absurd HA.out (by simp [spec_l91Machine.j1])
      | succ kj49 =>
       have H:=HA.out
       clear HA
       simp only [spec_l91Machine.j1] at H
       replace H:=Option.bind_eq_some_iff.mp H
       obtain ⟨⟨t425,t426⟩,A590,H⟩:=H
       replace H:(if t425=0 then (if 0≤ji3 then ((some (([(-1),shl .i64 1 ji3]:List Int):List Int)).bind fun y427=>((spec_l6Rd_pick.f kj49 s0_0 t426 2).bind fun bt430=>(if 0≤bt430.1 then (if bt430.1<(y427.length:Int) then (some (x409000_1,x409001_49,rd y427 bt430.1,bt430.2)) else (none)) else (none)))) else (none)) else (if t425=1 then ((some (([1,1,1,1,1]:List Int):List Int)).bind fun y433=>(if x409000_1.length+y433.length<17592186044416 then (some ((x409000_1++y433),x409001_49,t406,t426)) else (none))) else (if t425=2 then (some ((([]:List Int)),x409001_49,t406,t426)) else (some (x409000_1,x409001_49,t406,t426)))))=some (r1,r2,r3,r4):=H
       have A59:=Aside0.mk A590
       clear A590
       by_cases c60:t425=0
       ·rw [if_pos c60] at H
        have c60b0:(t425 == 0)=true:=beq_iff_eq.mpr c60
        have c60b1:(t425 != 0)=false:=bne_eq_false_iff_eq.mpr c60
        clear c60
        by_cases c61:0≤ji3
        ·rw [if_pos c61] at H
         have c61b0:=eq_true c61
         have c61b1:decide (0≤ji3)=true:=decide_eq_true c61
         clear c61
         replace H:((some (([(-1),ji5]:List Int):List Int)).bind fun y427=>((spec_l6Rd_pick.f kj49 s0_0 t426 2).bind fun bt430=>(if 0≤bt430.1 then (if bt430.1<(y427.length:Int) then (some (x409000_1,x409001_49,rd y427 bt430.1,bt430.2)) else (none)) else (none))))=some (r1,r2,r3,r4):=by first|(rw [hji5] at H;exact H)|(simp only [hji5] at H ⊢;exact H)
         (try rw [hji5] at A59)
         have hji5_:(IntKind.i64.wrap (1 * 2 ^ min ji3.toNat 64))=ji5:=hji5
         have hji5z:ji3≤64→(IntKind.i64.wrap (1 * 2 ^ ji3.toNat))=ji5:=shl_small hji5
         have hji5u:(IntKind.i64.wrap (2 ^ min ji3.toNat 64))=ji5:=by have h_:=hji5_;rw [Int.one_mul] at h_;exact h_
         have hji5v:ji3≤64→(IntKind.i64.wrap (2 ^ ji3.toNat))=ji5:=fun hle_=>by have h_:=hji5z hle_;rw [Int.one_mul] at h_;exact h_
         have hji5y:(wrap64 (1 * 2 ^ min ji3.toNat 64))=ji5:=(i64_w _).symm.trans hji5_
         have hji5x:ji3≤64→(wrap64 (1 * 2 ^ ji3.toNat))=ji5:=fun h_=>(i64_w _).symm.trans (hji5z h_)
         obtain ⟨y427,hy427⟩:∃ y_:List Int,y_=(([(-1),ji5]:List Int)):=⟨_,rfl⟩
         replace H:((spec_l6Rd_pick.f kj49 s0_0 t426 2).bind fun bt430=>(if 0≤bt430.1 then (if bt430.1<(y427.length:Int) then (some (x409000_1,x409001_49,rd y427 bt430.1,bt430.2)) else (none)) else (none)))=some (r1,r2,r3,r4):=by first|(rw [hy427];with_reducible exact H)|(have H2_:=(Option.bind_some _ _).symm.trans H;rw [hy427];with_reducible exact H2_)|(have H2_:=(Option.bind_some _ _).symm.trans H;with_reducible exact H2_)|with_reducible exact H|(rw [hy427];exact H)|exact H
         have Ny427:=Aside0.mk hy427
         clear hy427
         replace H:=Option.bind_eq_some_iff.mp H
         obtain ⟨⟨t430,t431⟩,A630,H⟩:=H
         replace H:(if 0≤t430 then (if t430<(y427.length:Int) then (some (x409000_1,x409001_49,rd y427 t430,t431)) else (none)) else (none))=some (r1,r2,r3,r4):=H
         have A63:=Aside0.mk A630
         clear A630
         by_cases c64:0≤t430
         ·rw [if_pos c64] at H
          have c64b0:decide (0≤t430)=true:=decide_eq_true c64
          clear c64
          by_cases c65:t430<(y427.length:Int)
          ·rw [if_pos c65] at H
           have c65b0:decide (t430<(y427.length:Int))=true:=decide_eq_true c65
           clear c65
           simp only [Option.some.injEq,Prod.mk.injEq] at H
           obtain ⟨rfl,rfl,rfl,rfl⟩:=H
           try go_wp2_with (first|((with_reducible refine gate_callee (f:=54) rfl ?_);refine goesL_ (some 59) rfl rfl Try.func54 (by kernel_rfl) rfl #[.pointer (some ⟨g,0,none⟩),.int .i64 20] rfl (by (try simp only [List.map_toArray,List.map_cons,List.map_nil]);first|done|rfl|(simp only [List.length_drop,List.length_take];rfl)) ?_;(with_reducible refine (spec_l6Rd_pick.calls kj49 g s0_0 x1001_49 20 t425 t426 w0 _ ?side1 ?side2 A59.out).mono ?_);(case side1=>repeat (first|(with_reducible first|exact HI0.out|apply IsS74.alloc|apply IsS74.drewN|apply IsS74.drew|apply IsS74.set_1|refine IsS74.far ?_ NB0_398.out _|refine IsS74.far ?_ NB0_408.out _)|exact HI0.out));(case side2=>repeat (first|(with_reducible first|exact HB.out|apply yA|apply yB|apply yC|refine yD ?_ (IsS74.ge HI0.out)|refine yD ?_ GE398.out|refine yD ?_ GE408.out)|exact HB.out));rintro e w66 ⟨rfl,hi,hb,hk⟩;refine ⟨_,rfl,?_⟩;have n0_:=Aside0.mk (Kd.R_mono (Kd.R_keep (IsS74.apart (show IsS74 w0 _ g s0_0 x1001_49 from by repeat (first|(with_reducible first|exact HI0.out|apply IsS74.alloc|apply IsS74.drewN|apply IsS74.drew|apply IsS74.set_1|refine IsS74.far ?_ NB0_398.out _|refine IsS74.far ?_ NB0_408.out _)|exact HI0.out)) (by (with_reducible repeat (first|apply yH|apply yI|apply yJ));exact HO_409000.out) (by decide)) hk (fun _ h=>h.2)) (fun _ h=>h.1));have n1_:=Aside0.mk (KeepBut.blk hk (g':=gb398) (o:=.cells #[.slice none 0 0,.int .i64 0,.int .i64 0] 31 (0,0)) (by (with_reducible repeat (first|refine yE ?_ _|refine yF ?_|refine yG ?_ _));exact BK398.out) NB398_0.out (by simp));have n2_:=Aside0.mk (KeepBut.blk hk (g':=gb408) (o:=.cells #[u409000,.int .i64 x409001_49,.int .i64 t406] 31 (0,0)) (by (with_reducible repeat (first|refine yE ?_ _|refine yF ?_|refine yG ?_ _));exact BK408.out) NB408_0.out (by simp));have n3_:=Aside0.mk (KeepBut.trans (by repeat (first|(with_reducible first|exact HK.out|apply KeepBut.set_|apply keep_drewN|apply keep_drew|apply keep_alloc|refine keep_far ?_ GW398.out _|refine keep_far ?_ GW408.out _)|exact HK.out)) hk (.inl rfl));have n4_:=Aside0.mk (hb);have n5_:=Aside0.mk (hi);clear HO_409000;clear BK398;clear BK408;clear HK;clear HB;clear HI0;have HO_409000:=n0_;have BK398:=n1_;have BK408:=n2_;have HK:=n3_;have HB:=n4_;have HI0:=n5_;clear n0_ n1_ n2_ n3_ n4_ n5_;(try clear hb);(try clear hb2);(try clear hk);(try clear hi)))
           have pi432:(0≤(t430:Int))=True:=eq_true (of_decide_eq_true (by first|(with_reducible assumption)|assumption))
           have qi432:(t430<(y427.length:Int))=True:=eq_true (of_decide_eq_true (by first|(with_reducible assumption)|assumption))
           have n0_:=Aside0.mk (yJ HO_409000.out)
           have n1_:=Aside0.mk (yF BK398.out)
           have n2_:=Aside0.mk (yF BK408.out)
           have n3_:=Aside0.mk (IsS74.drew HI0.out)
           have n4_:=Aside0.mk (keep_drew HK.out)
           have n5_:=Aside0.mk (yC HB.out)
           clear HO_409000
           clear BK398
           clear BK408
           clear HI0
           clear HK
           clear HB
           have HO_409000:=n0_
           have BK398:=n1_
           have BK408:=n2_
           have HI0:=n3_
           have HK:=n4_
           have HB:=n5_
           clear n0_ n1_ n2_ n3_ n4_ n5_
           refine start_ (n:=9) (S:=fun w'=>True) (ds:=[]) #[false,false,false,false,false,false,false,false,false] (by kernel_rfl) rfl rfl trivial (fun hHeld=>?_);refine with_tabW spec_l91Machine.tab14 spec_l91Machine.bits14 (fun HT_ HW_=>?_)
           generalize w66.drew=w67 at HO_409000 BK398 BK408 HI0 HK HB hHeld ⊢
           refine pure_ (i:=0) (N:=some 62) (v:=?_) (a':=?_) #[true,false,false,false,false,false,false,false,false] rfl rfl (any_of HT_.out (by kernel_rfl)) (fun _ _ _ h=>h) (Or.inl ⟨by rfl,?_⟩) ?_ ?_
           rotate_left
           ·intro w'
            go_simp
            with_reducible rfl
           rotate_left
           ·simp only [Act.put,yK,yL,yM,i64_w,i32_w]
            rfl
           refine pure_ (i:=3) (N:=some 65) (v:=?_) (a':=?_) #[true,false,false,true,false,false,false,false,false] rfl rfl (any_of HT_.out (by kernel_rfl)) (fun _ _ _ h=>h) (Or.inl ⟨by rfl,?_⟩) ?_ ?_
           rotate_left
           ·intro w'
            go_simp
            with_reducible rfl
           rotate_left
           ·simp only [Act.put,yK,yL,yM,i64_w,i32_w]
            rfl
           refine inv_at [1,2,4,5,6,7,8] (fun a0_ b a w'=>∃ (v428:Value) (adz_v428:Addr) (m5_:Value),a=putSel a0_ b [(1,63,.int .i64 ji5),(2,64,v428),(4,66,.int .i64 t430),(5,67,m5_),(6,68,.int .i64 (rd y427 t430)),(7,69,.pointer (some ⟨gb408,2,none⟩))]∧(Kd.R (Kd.int .i64) 3 w' w.heap.size (fun _=>True) u409000 x409000_1)∧(w'.heap[gb398]?=some (.cells #[.slice none 0 0,.int .i64 0,.int .i64 0] 31 (0,0)))∧(b 8=false→w'.heap[gb408]?=some (.cells #[u409000,.int .i64 x409001_49,.int .i64 t406] 31 (0,0)))∧(b 4=false→IsS74 w0 w' g s0_0 t426)∧(KeepBut w w' g none)∧(Below w0.heap.size w0 w')∧(b 2=true→Kd.R (Kd.int .i64) 3 w' w.heap.size (fun k_=>some k_≠(u409000:Value).ownBlock) v428 y427)∧(b 2=true→∃ c_,(v428:Value)=.slice (some adz_v428) y427.length c_)∧(b 4=true→IsS74 w0 w' g s0_0 t431)∧(b 8=true→w'.heap[gb408]?=some (.cells #[u409000,.int .i64 x409001_49,.int .i64 (rd y427 t430)] 31 (0,0)))∧(b 5=true→(m5_:Value)=.pointer (some (adz_v428.add (t430).toNat)))) HT_.out HW_.out (by kernel_rfl) (by kernel_rfl) ?_ ?_ ?_
           ·exact ⟨.bool false,⟨0,0,none⟩,.bool false,by simp only [putSel,Bool.false_eq_true,if_false],HO_409000.out,BK398.out,fun _=>BK408.out,fun _=>HI0.out,HK.out,HB.out,fun h_=>absurd h_ (by decide),fun h_=>absurd h_ (by decide),fun h_=>absurd h_ (by decide),fun h_=>absurd h_ (by decide),fun h_=>absurd h_ (by decide)⟩
           ·skip
            clear BK398 BK408 HB HI0 HK HO_409000
            refine steps_cons ?_ ?_
            ·rintro b a w' ⟨v428,adz_v428,m5_,ha,Q_HO_409000,Q_BK398,Q_BK408,Q_HI0,Q_HK,Q_HB,Q_HO429,Q_HA_HO429,Q_HI0_e4,Q_BK408_e8,Q_X5_⟩ hb_ hon hoff
             refine ⟨_,rfl,fun K hK=>?_⟩
             have e62:a.tmps[62]?=some (.int .i64 ji3):=by rw [ha];exact (putSel_off rfl).trans rfl
             replace ha:=Aside0.mk ha
             have HO_409000:=Aside0.mk Q_HO_409000
             have BK398:=Aside0.mk Q_BK398
             have BK408:=Aside0.mk (Q_BK408 (hoff 8 (by kernel_rfl)))
             have HK:=Aside0.mk Q_HK
             have HB:=Aside0.mk Q_HB
             refine value_ (w1:=w') (v:=.int .i64 ji5) (by rfl) rfl ?_ ?_
             ·go_simp
              (try simp only [i64_w])
              try rfl
             refine hK.out _ _ ⟨v428,adz_v428,m5_,(by rw [ha.out];exact putSel_upk 0 hb_ rfl rfl rfl),Q_HO_409000,Q_BK398,Q_BK408,Q_HI0,Q_HK,Q_HB,fun h0_=>absurd ((hoff 2 (by kernel_rfl)).symm.trans h0_) (by decide),fun h0_=>absurd ((hoff 2 (by kernel_rfl)).symm.trans h0_) (by decide),Q_HI0_e4,fun h0_=>absurd ((hoff 8 (by kernel_rfl)).symm.trans h0_) (by decide),fun h0_=>absurd ((hoff 5 (by kernel_rfl)).symm.trans h0_) (by decide)⟩
            refine steps_cons ?_ ?_
            ·rintro b a w' ⟨v428,adz_v428,m5_,ha,Q_HO_409000,Q_BK398,Q_BK408,Q_HI0,Q_HK,Q_HB,Q_HO429,Q_HA_HO429,Q_HI0_e4,Q_BK408_e8,Q_X5_⟩ hb_ hon hoff
             refine ⟨_,rfl,fun K hK=>?_⟩
             have e63:a.tmps[63]?=some (.int .i64 ji5):=by rw [ha];exact putSel_on (e:=(1,63,.int .i64 ji5)) 0 rfl rfl (hon 1 (by kernel_rfl)) rfl
             replace ha:=Aside0.mk ha
             have HO_409000:=Aside0.mk Q_HO_409000
             have BK398:=Aside0.mk Q_BK398
             have BK408:=Aside0.mk (Q_BK408 (hoff 8 (by kernel_rfl)))
             have HK:=Aside0.mk Q_HK
             have HB:=Aside0.mk Q_HB
             refine Kd.R_lit_step (Kd.int .i64) _ 3 ?hg (N:=64) ?hd (xs:=([(-1),ji5]:List Int)) (inner:=[.int .i64 (-1),.int .i64 ji5]) (ok:=fun _=>True) (okp:=fun _=>True) ?hr ?hp (fun _ hk=>hk) trivial (Below.refl _ _) (Nat.le_refl _) (by simp) ?_;(case hd=>rfl);(case hg=>rfl);(case hr=>first|(go_simp;done)|(go_simp;rfl));(case hp=>exact (Reps.one (show Kd.M (Kd.int .i64) _ _ _ (-1) [.int .i64 (-1)] from rfl) (Reps.one (show Kd.M (Kd.int .i64) _ _ _ ji5 [.int .i64 ji5] from rfl) (Reps.none _ _))))
             intro v428 w68 ho69 hb hg_ hnew_
             clear hg_ hnew_
             (first|rw [← Ny427.out] at ho69|(simp only [Int.reduceToNat] at ho69;rw [← Ny427.out] at ho69))
             have n0_:=Aside0.mk (Kd.R_elder' (by (with_reducible repeat (first|apply yH|apply yI|apply yJ));exact HO_409000.out) (Kd.R_base ho69) hb)
             have n1_:=Aside0.mk (Kd.R_lower (Kd.R_new' ho69 (Kd.R_lt (by (with_reducible repeat (first|apply yH|apply yI|apply yJ));exact HO_409000.out))) (keep_size (w:=w) (g:=g) (row:=none) (by repeat (first|(with_reducible first|exact HK.out|apply KeepBut.set_|apply keep_drewN|apply keep_drew|apply keep_alloc|refine keep_far ?_ GW398.out _|refine keep_far ?_ GW408.out _)|exact HK.out))))
             have n2_:=Aside0.mk (blk_below (g:=gb398) (o:=.cells #[.slice none 0 0,.int .i64 0,.int .i64 0] 31 (0,0)) (by (with_reducible repeat (first|refine yE ?_ _|refine yF ?_|refine yG ?_ _));exact BK398.out) hb)
             have n3_:=Aside0.mk (blk_below (g:=gb408) (o:=.cells #[u409000,.int .i64 x409001_49,.int .i64 t406] 31 (0,0)) (by (with_reducible repeat (first|refine yE ?_ _|refine yF ?_|refine yG ?_ _));exact BK408.out) hb)
             have n5_:=Aside0.mk (KeepBut.trans (by repeat (first|(with_reducible first|exact HK.out|apply KeepBut.set_|apply keep_drewN|apply keep_drew|apply keep_alloc|refine keep_far ?_ GW398.out _|refine keep_far ?_ GW408.out _)|exact HK.out)) (KeepBut.of_below hb g none) (.inl rfl))
             have n6_:=Aside0.mk (yP (by repeat (first|(with_reducible first|exact HB.out|apply yA|apply yB|apply yC|refine yD ?_ GE398.out|refine yD ?_ GE408.out)|exact HB.out)) hb)
             have z_HI0:=fun (h0_:b 4=false)=>(show IsS74 w0 w68 g s0_0 t426 from by first|exact (IsS74.below (by repeat (first|(with_reducible first|exact (Q_HI0 h0_)|apply IsS74.alloc|apply IsS74.drewN|apply IsS74.drew|apply IsS74.set_1|refine IsS74.far ?_ NB0_398.out _|refine IsS74.far ?_ NB0_408.out _)|exact (Q_HI0 h0_))) hb))
             have z_HI0_e4:=fun (h0_:b 4=true)=>(show IsS74 w0 w68 g s0_0 t431 from by first|exact (IsS74.below (by repeat (first|(with_reducible first|exact (Q_HI0_e4 h0_)|apply IsS74.alloc|apply IsS74.drewN|apply IsS74.drew|apply IsS74.set_1|refine IsS74.far ?_ NB0_398.out _|refine IsS74.far ?_ NB0_408.out _)|exact (Q_HI0_e4 h0_))) hb))
             clear HO_409000
             clear BK398
             clear BK408
             clear HK
             clear HB
             have HO_409000:=n0_
             have HO429:=n1_
             have BK398:=n2_
             have BK408:=n3_
             have HK:=n5_
             have HB:=n6_
             clear n0_ n1_ n2_ n3_ n5_ n6_
             clear hb ho69
             obtain ⟨Ao70,co70,eo70⟩:=Kd.R_slice HO429.out
             subst eo70
             obtain ⟨ado70,fo70,_⟩:=Kd.at_int (Kd.R_reads' HO429.out).2.2 0 (by decide) (by rw [Ny427.out];simp)
             cases fo70
             refine hK.out _ _ ⟨.slice (some ado70) y427.length co70,ado70,m5_,(by rw [ha.out];exact putSel_upk 1 hb_ rfl rfl rfl),(by (with_reducible repeat (first|apply yH|apply yI|apply yJ));exact Kd.R_mono HO_409000.out (fun _ hk=>by first|exact hk.2|trivial)),(by (with_reducible repeat (first|refine yE ?_ _|refine yF ?_|refine yG ?_ _));exact BK398.out),fun _=>(by (with_reducible repeat (first|refine yE ?_ _|refine yF ?_|refine yG ?_ _));exact BK408.out),z_HI0,(by repeat (first|(with_reducible first|exact HK.out|apply KeepBut.set_|apply keep_drewN|apply keep_drew|apply keep_alloc|refine keep_far ?_ GW398.out _|refine keep_far ?_ GW408.out _)|exact HK.out)),(by repeat (first|(with_reducible first|exact HB.out|apply yA|apply yB|apply yC|refine yD ?_ GE398.out|refine yD ?_ GE408.out)|exact HB.out)),fun _=>(by (with_reducible repeat (first|apply yH|apply yI|apply yJ));exact Kd.R_mono HO429.out (fun _ hk=>hk.2)),fun _=>⟨_,rfl⟩,z_HI0_e4,fun h0_=>absurd ((hoff 8 (by kernel_rfl)).symm.trans h0_) (by decide),fun h0_=>absurd ((hoff 5 (by kernel_rfl)).symm.trans h0_) (by decide)⟩
            refine steps_cons ?_ ?_
            ·rintro b a w' ⟨v428,adz_v428,m5_,ha,Q_HO_409000,Q_BK398,Q_BK408,Q_HI0,Q_HK,Q_HB,Q_HO429,Q_HA_HO429,Q_HI0_e4,Q_BK408_e8,Q_X5_⟩ hb_ hon hoff
             refine ⟨_,rfl,fun K hK=>?_⟩
             have e65:a.tmps[65]?=some (.pointer (some ⟨g,0,none⟩)):=by rw [ha];exact (putSel_off rfl).trans rfl
             replace ha:=Aside0.mk ha
             have HO_409000:=Aside0.mk Q_HO_409000
             have BK398:=Aside0.mk Q_BK398
             have BK408:=Aside0.mk (Q_BK408 (hoff 8 (by kernel_rfl)))
             have HI0:=Aside0.mk (Q_HI0 hb_)
             have HK:=Aside0.mk Q_HK
             have HB:=Aside0.mk Q_HB
             refine goes_ Try.func54 (by kernel_rfl) rfl #[.pointer (some ⟨g,0,none⟩),.int .i64 2] (by rfl) rfl rfl (by first|(simp only [List.map_toArray,List.map_cons,List.map_nil,Act.eval,Array.getD_eq_getD_getElem?,Option.getD_some,e65];done)|(simp only [List.map_toArray,List.map_cons,List.map_nil,Act.eval,Array.getD_eq_getD_getElem?,Option.getD_some,e65];rfl)) ?_
             with_reducible refine (spec_l6Rd_pick.calls kj49 g s0_0 t426 2 t430 t431 w0 _ ?side1 ?side2 A63.out).mono ?_
             (case side1=>repeat (first|(with_reducible first|exact HI0.out|apply IsS74.alloc|apply IsS74.drewN|apply IsS74.drew|apply IsS74.set_1|refine IsS74.far ?_ NB0_398.out _|refine IsS74.far ?_ NB0_408.out _)|exact HI0.out))
             (case side2=>repeat (first|(with_reducible first|exact HB.out|apply yA|apply yB|apply yC|refine yD ?_ (IsS74.ge HI0.out)|refine yD ?_ GE398.out|refine yD ?_ GE408.out)|exact HB.out))
             rintro e w68 ⟨rfl,hi,hb,hk⟩
             refine ⟨_,rfl,?_⟩
             have n0_:=Aside0.mk (Kd.R_mono (Kd.R_keep (IsS74.apart (show IsS74 w0 _ g s0_0 t426 from by repeat (first|(with_reducible first|exact HI0.out|apply IsS74.alloc|apply IsS74.drewN|apply IsS74.drew|apply IsS74.set_1|refine IsS74.far ?_ NB0_398.out _|refine IsS74.far ?_ NB0_408.out _)|exact HI0.out)) (by (with_reducible repeat (first|apply yH|apply yI|apply yJ));exact HO_409000.out) (by decide)) hk (fun _ h=>h.2)) (fun _ h=>h.1))
             have n1_:=Aside0.mk (KeepBut.blk hk (g':=gb398) (o:=.cells #[.slice none 0 0,.int .i64 0,.int .i64 0] 31 (0,0)) (by (with_reducible repeat (first|refine yE ?_ _|refine yF ?_|refine yG ?_ _));exact BK398.out) NB398_0.out (by simp))
             have n2_:=Aside0.mk (KeepBut.blk hk (g':=gb408) (o:=.cells #[u409000,.int .i64 x409001_49,.int .i64 t406] 31 (0,0)) (by (with_reducible repeat (first|refine yE ?_ _|refine yF ?_|refine yG ?_ _));exact BK408.out) NB408_0.out (by simp))
             have n3_:=Aside0.mk (KeepBut.trans (by repeat (first|(with_reducible first|exact HK.out|apply KeepBut.set_|apply keep_drewN|apply keep_drew|apply keep_alloc|refine keep_far ?_ GW398.out _|refine keep_far ?_ GW408.out _)|exact HK.out)) hk (.inl rfl))
             have n4_:=Aside0.mk (hb)
             have n5_:=Aside0.mk (hi)
             have z_HO429:=fun (h0_:b 2=true)=>(show Kd.R (Kd.int .i64) 3 w68 w.heap.size (fun k_=>some k_≠(u409000:Value).ownBlock) v428 y427 from by first|exact (Kd.R_mono (Kd.R_keep (IsS74.apart (show IsS74 w0 _ g s0_0 t426 from by repeat (first|(with_reducible first|exact HI0.out|apply IsS74.alloc|apply IsS74.drewN|apply IsS74.drew|apply IsS74.set_1|refine IsS74.far ?_ NB0_398.out _|refine IsS74.far ?_ NB0_408.out _)|exact HI0.out)) (by (with_reducible repeat (first|apply yH|apply yI|apply yJ));exact (Q_HO429 h0_)) (by decide)) hk (fun _ h=>h.2)) (fun _ h=>h.1))|exact Kd.R_mono (Kd.R_mono (Kd.R_keep (IsS74.apart (show IsS74 w0 _ g s0_0 t426 from by repeat (first|(with_reducible first|exact HI0.out|apply IsS74.alloc|apply IsS74.drewN|apply IsS74.drew|apply IsS74.set_1|refine IsS74.far ?_ NB0_398.out _|refine IsS74.far ?_ NB0_408.out _)|exact HI0.out)) (by (with_reducible repeat (first|apply yH|apply yI|apply yJ));exact (Q_HO429 h0_)) (by decide)) hk (fun _ h=>h.2)) (fun _ h=>h.1)) (fun _ h_=>by first|trivial|exact h_|exact h_.1))
             clear HO_409000
             clear BK398
             clear BK408
             clear HK
             clear HB
             clear HI0
             have HO_409000:=n0_
             have BK398:=n1_
             have BK408:=n2_
             have HK:=n3_
             have HB:=n4_
             have HI0:=n5_
             clear n0_ n1_ n2_ n3_ n4_ n5_
             (try clear hb)
             (try clear hb2)
             (try clear hk)
             (try clear hi)
             refine hK.out _ _ ⟨v428,adz_v428,m5_,(by rw [ha.out];exact putSel_upk 2 hb_ rfl rfl rfl),(by (with_reducible repeat (first|apply yH|apply yI|apply yJ));exact HO_409000.out),(by (with_reducible repeat (first|refine yE ?_ _|refine yF ?_|refine yG ?_ _));exact BK398.out),fun _=>(by (with_reducible repeat (first|refine yE ?_ _|refine yF ?_|refine yG ?_ _));exact BK408.out),fun h0_=>absurd ((up_self b 4).symm.trans h0_) (by decide),(by repeat (first|(with_reducible first|exact HK.out|apply KeepBut.set_|apply keep_drewN|apply keep_drew|apply keep_alloc|refine keep_far ?_ GW398.out _|refine keep_far ?_ GW408.out _)|exact HK.out)),(by repeat (first|(with_reducible first|exact HB.out|apply yA|apply yB|apply yC|refine yD ?_ (IsS74.ge HI0.out)|refine yD ?_ GE398.out|refine yD ?_ GE408.out)|exact HB.out)),z_HO429,Q_HA_HO429,fun _=>(by repeat (first|(with_reducible first|exact HI0.out|apply IsS74.alloc|apply IsS74.drewN|apply IsS74.drew|apply IsS74.set_1|refine IsS74.far ?_ NB0_398.out _|refine IsS74.far ?_ NB0_408.out _)|exact HI0.out)),fun h0_=>absurd ((hoff 8 (by kernel_rfl)).symm.trans h0_) (by decide),fun h0_=>absurd ((hoff 5 (by kernel_rfl)).symm.trans h0_) (by decide)⟩
            refine steps_cons ?_ ?_
            ·rintro b a w' ⟨v428,adz_v428,m5_,ha,Q_HO_409000,Q_BK398,Q_BK408,Q_HI0,Q_HK,Q_HB,Q_HO429,Q_HA_HO429,Q_HI0_e4,Q_BK408_e8,Q_X5_⟩ hb_ hon hoff
             refine ⟨_,rfl,fun K hK=>?_⟩
             have e64:a.tmps[64]?=some (v428):=by rw [ha];exact putSel_on (e:=(2,64,v428)) 1 rfl rfl (hon 2 (by kernel_rfl)) rfl
             have e66:a.tmps[66]?=some (.int .i64 t430):=by rw [ha];exact putSel_on (e:=(4,66,.int .i64 t430)) 2 rfl rfl (hon 4 (by kernel_rfl)) rfl
             replace ha:=Aside0.mk ha
             have HO_409000:=Aside0.mk Q_HO_409000
             have BK398:=Aside0.mk Q_BK398
             have BK408:=Aside0.mk (Q_BK408 (hoff 8 (by kernel_rfl)))
             have HK:=Aside0.mk Q_HK
             have HB:=Aside0.mk Q_HB
             have HO429:=Aside0.mk (Q_HO429 (hon 2 (by kernel_rfl)))
             have HA_HO429:=Aside0.mk (Q_HA_HO429 (hon 2 (by kernel_rfl)))
             have HI0:=Aside0.mk (Q_HI0_e4 (hon 4 (by kernel_rfl)))
             obtain ⟨c_,hv_⟩:=HA_HO429.out
             rw [hv_] at e64
             refine value_ (w1:=w') (v:=.pointer (some (adz_v428.add (t430).toNat))) (by rfl) rfl ?_ ?_
             ·go_simp
              (try simp only [i64_w])
              try rfl
             refine hK.out _ _ ⟨v428,adz_v428,(.pointer (some (adz_v428.add (t430).toNat))),(by rw [ha.out];exact putSel_upk 3 hb_ rfl rfl rfl),Q_HO_409000,Q_BK398,Q_BK408,fun h0_=>absurd ((hon 4 (by kernel_rfl)).symm.trans h0_) (by decide),Q_HK,Q_HB,Q_HO429,Q_HA_HO429,Q_HI0_e4,fun h0_=>absurd ((hoff 8 (by kernel_rfl)).symm.trans h0_) (by decide),fun _=>rfl⟩
            refine steps_cons ?_ ?_
            ·rintro b a w' ⟨v428,adz_v428,m5_,ha,Q_HO_409000,Q_BK398,Q_BK408,Q_HI0,Q_HK,Q_HB,Q_HO429,Q_HA_HO429,Q_HI0_e4,Q_BK408_e8,Q_X5_⟩ hb_ hon hoff
             refine ⟨_,rfl,fun K hK=>?_⟩
             have e67:a.tmps[67]?=some (m5_):=by rw [ha];exact putSel_on (e:=(5,67,m5_)) 3 rfl rfl (hon 5 (by kernel_rfl)) rfl
             rw [Q_X5_ (hon 5 (by kernel_rfl))] at e67
             replace ha:=Aside0.mk ha
             have HO_409000:=Aside0.mk Q_HO_409000
             have BK398:=Aside0.mk Q_BK398
             have BK408:=Aside0.mk (Q_BK408 (hoff 8 (by kernel_rfl)))
             have HK:=Aside0.mk Q_HK
             have HB:=Aside0.mk Q_HB
             have HO429:=Aside0.mk (Q_HO429 (hon 2 (by kernel_rfl)))
             have HA_HO429:=Aside0.mk (Q_HA_HO429 (hon 2 (by kernel_rfl)))
             have HI0:=Aside0.mk (Q_HI0_e4 (hon 4 (by kernel_rfl)))
             obtain ⟨c_,hv_⟩:=HA_HO429.out
             have hF_:=HO429.out
             rw [hv_] at hF_
             obtain ⟨ad_,ea_,hx_⟩:=Kd.at_int (Kd.R_reads' hF_).2.2 t430 (of_eq_true pi432) (of_eq_true qi432)
             cases ea_
             refine value_ (w1:=w') (v:=.int .i64 (rd y427 t430)) (by rfl) rfl ?_ ?_
             ·go_simp
              (try simp only [i64_w])
              try rfl
             refine hK.out _ _ ⟨v428,adz_v428,m5_,(by rw [ha.out];exact putSel_upk 4 hb_ rfl rfl rfl),Q_HO_409000,Q_BK398,Q_BK408,fun h0_=>absurd ((hon 4 (by kernel_rfl)).symm.trans h0_) (by decide),Q_HK,Q_HB,Q_HO429,Q_HA_HO429,Q_HI0_e4,fun h0_=>absurd ((hoff 8 (by kernel_rfl)).symm.trans h0_) (by decide),Q_X5_⟩
            refine steps_cons ?_ ?_
            ·rintro b a w' ⟨v428,adz_v428,m5_,ha,Q_HO_409000,Q_BK398,Q_BK408,Q_HI0,Q_HK,Q_HB,Q_HO429,Q_HA_HO429,Q_HI0_e4,Q_BK408_e8,Q_X5_⟩ hb_ hon hoff
             refine ⟨_,rfl,fun K hK=>?_⟩
             have e4:a.tmps[4]?=some (.pointer (some ⟨gb408,0,none⟩)):=by rw [ha];exact (putSel_off rfl).trans rfl
             replace ha:=Aside0.mk ha
             have HO_409000:=Aside0.mk Q_HO_409000
             have BK398:=Aside0.mk Q_BK398
             have BK408:=Aside0.mk (Q_BK408 (hoff 8 (by kernel_rfl)))
             have HK:=Aside0.mk Q_HK
             have HB:=Aside0.mk Q_HB
             have HO429:=Aside0.mk (Q_HO429 (hon 2 (by kernel_rfl)))
             have HA_HO429:=Aside0.mk (Q_HA_HO429 (hon 2 (by kernel_rfl)))
             have HI0:=Aside0.mk (Q_HI0_e4 (hon 4 (by kernel_rfl)))
             refine value_ (w1:=w') (v:=.pointer (some ⟨gb408,2,none⟩)) (by rfl) rfl ?_ ?_
             ·go_simp
              (try simp only [i64_w])
              try rfl
             refine hK.out _ _ ⟨v428,adz_v428,m5_,(by rw [ha.out];exact putSel_upk 5 hb_ rfl rfl rfl),Q_HO_409000,Q_BK398,Q_BK408,fun h0_=>absurd ((hon 4 (by kernel_rfl)).symm.trans h0_) (by decide),Q_HK,Q_HB,Q_HO429,Q_HA_HO429,Q_HI0_e4,fun h0_=>absurd ((hoff 8 (by kernel_rfl)).symm.trans h0_) (by decide),Q_X5_⟩
            refine steps_cons ?_ ?_
            ·rintro b a w' ⟨v428,adz_v428,m5_,ha,Q_HO_409000,Q_BK398,Q_BK408,Q_HI0,Q_HK,Q_HB,Q_HO429,Q_HA_HO429,Q_HI0_e4,Q_BK408_e8,Q_X5_⟩ hb_ hon hoff
             refine ⟨_,rfl,fun K hK=>?_⟩
             have e69:a.tmps[69]?=some (.pointer (some ⟨gb408,2,none⟩)):=by rw [ha];exact putSel_on (e:=(7,69,.pointer (some ⟨gb408,2,none⟩))) 5 rfl rfl (hon 7 (by kernel_rfl)) rfl
             have e68:a.tmps[68]?=some (.int .i64 (rd y427 t430)):=by rw [ha];exact putSel_on (e:=(6,68,.int .i64 (rd y427 t430))) 4 rfl rfl (hon 6 (by kernel_rfl)) rfl
             replace ha:=Aside0.mk ha
             have HO_409000:=Aside0.mk Q_HO_409000
             have BK398:=Aside0.mk Q_BK398
             have BK408:=Aside0.mk (Q_BK408 hb_)
             have HK:=Aside0.mk Q_HK
             have HB:=Aside0.mk Q_HB
             have HO429:=Aside0.mk (Q_HO429 (hon 2 (by kernel_rfl)))
             have HA_HO429:=Aside0.mk (Q_HA_HO429 (hon 2 (by kernel_rfl)))
             have HI0:=Aside0.mk (Q_HI0_e4 (hon 4 (by kernel_rfl)))
             obtain ⟨co73,eo73⟩:=HA_HO429.out
             clear HA_HO429
             subst eo73
             have hs74:w'.cell? ⟨gb408,2,none⟩=some (.int .i64 t406):=(blk_cell BK408.out 2).trans rfl
             have hfs74:=blk_frozen BK408.out 2
             have hns74_0:=NB398_408.out
             have hms74_0:=NB408_398.out
             refine skip_ (w1:=?_) (by rfl) rfl ?_ ?_
             rotate_left
             ·go_simp
              rfl
             refine hK.out _ _ ⟨.slice (some adz_v428) y427.length co73,adz_v428,m5_,(by rw [ha.out];exact putSel_none (v:=undef) rfl),(by (with_reducible repeat (first|apply yH|apply yI|apply yJ));exact Kd.R_mono (Kd.R_far (p:=⟨gb408,2,none⟩) (Kd.R_types HO_409000.out BK408.out (by decide)) (fun _ hk=>hk.2) (.int .i64 (rd y427 t430))) (fun _ hk=>hk.1)),(by (with_reducible repeat (first|refine yE ?_ _|refine yF ?_|refine yG ?_ _));refine blk_far ?_ NB398_408.out _;(with_reducible repeat (first|refine yE ?_ _|refine yF ?_|refine yG ?_ _));exact BK398.out),fun h0_=>absurd ((up_self b 8).symm.trans h0_) (by decide),fun h0_=>absurd ((hon 4 (by kernel_rfl)).symm.trans h0_) (by decide),(by repeat (first|(with_reducible first|exact HK.out|apply KeepBut.set_|apply keep_drewN|apply keep_drew|apply keep_alloc|refine keep_far ?_ GW398.out _|refine keep_far ?_ GW408.out _)|exact HK.out)),(by repeat (first|(with_reducible first|exact HB.out|apply yA|apply yB|apply yC|refine yD ?_ (IsS74.ge HI0.out)|refine yD ?_ GE398.out|refine yD ?_ GE408.out)|exact HB.out)),fun _=>(by (with_reducible repeat (first|apply yH|apply yI|apply yJ));exact Kd.R_mono (Kd.R_far (p:=⟨gb408,2,none⟩) (Kd.R_types HO429.out BK408.out (by decide)) (fun _ hk=>hk.2) (.int .i64 (rd y427 t430))) (fun _ hk=>hk.1)),fun _=>⟨_,rfl⟩,fun _=>(by repeat (first|(with_reducible first|exact HI0.out|apply IsS74.alloc|apply IsS74.drewN|apply IsS74.drew|apply IsS74.set_1|refine IsS74.far ?_ NB0_398.out _|refine IsS74.far ?_ NB0_408.out _)|exact HI0.out)),fun _=>(by (with_reducible repeat (first|refine yE ?_ _|refine yF ?_|refine yG ?_ _));refine blk_put (cs:=#[u409000,.int .i64 x409001_49,.int .i64 t406]) ?_ 2 _ rfl;(with_reducible repeat (first|refine yE ?_ _|refine yF ?_|refine yG ?_ _));exact BK408.out),Q_X5_⟩
            exact steps_nil
           rintro b a w73 hall ⟨v428,adz_v428,m5_,ha,Q_HO_409000,Q_BK398,Q_BK408,Q_HI0,Q_HK,Q_HB,Q_HO429,Q_HA_HO429,Q_HI0_e4,Q_BK408_e8,Q_X5_⟩
           clear BK398 BK408 HB HI0 HK HO_409000
           have hb1_:=hall 1 (by kernel_rfl)
           have hb2_:=hall 2 (by kernel_rfl)
           have hb4_:=hall 4 (by kernel_rfl)
           have hb5_:=hall 5 (by kernel_rfl)
           have hb6_:=hall 6 (by kernel_rfl)
           have hb7_:=hall 7 (by kernel_rfl)
           have hb8_:=hall 8 (by kernel_rfl)
           subst ha
           obtain rfl:=Q_X5_ hb5_
           simp only [putSel,hb1_,hb2_,hb4_,hb5_,hb6_,hb7_,hb8_,if_true,Act.put,yK,yL,yM]
           have HO_409000:=Aside0.mk Q_HO_409000
           clear Q_HO_409000
           have BK398:=Aside0.mk Q_BK398
           clear Q_BK398
           clear Q_BK408
           clear Q_HI0
           have HK:=Aside0.mk Q_HK
           clear Q_HK
           have HB:=Aside0.mk Q_HB
           clear Q_HB
           have HO429:=Aside0.mk (Q_HO429 hb2_)
           clear Q_HO429
           have HA_HO429:=Aside0.mk (Q_HA_HO429 hb2_)
           clear Q_HA_HO429
           have HI0:=Aside0.mk (Q_HI0_e4 hb4_)
           clear Q_HI0_e4
           have BK408:=Aside0.mk (Q_BK408_e8 hb8_)
           clear Q_BK408_e8
           clear hall hb1_ hb2_ hb4_ hb5_ hb6_ hb7_ hb8_
           obtain ⟨co74,eo74⟩:=HA_HO429.out
           clear HA_HO429
           subst eo74
           have hnb75:=NB408_398.out
           have hnc75:=NB398_408.out
           have hnb76:=NB408_0.out
           have hnc76:=NB0_408.out
           have hcz77_0:w73.cell? ⟨gb408,0,none⟩=some (u409000):=(blk_cell BK408.out 0).trans rfl
           have hcz77_1:w73.cell? ⟨gb408,1,none⟩=some (.int .i64 x409001_49):=(blk_cell BK408.out 1).trans rfl
           have hcz77_2:w73.cell? ⟨gb408,2,none⟩=some (.int .i64 (rd y427 t430)):=(blk_cell BK408.out 2).trans rfl
           have hfz77_0:=blk_frozen BK408.out 0
           have hfz77_1:=blk_frozen BK408.out 1
           have hfz77_2:=blk_frozen BK408.out 2
           obtain ⟨Ao78,co78,eo78⟩:=Kd.R_slice HO_409000.out
           subst eo78
           have hnb79:=NB398_0.out
           have hnc79:=NB0_398.out
           have hcz80_0:w73.cell? ⟨gb398,0,none⟩=some (.slice none 0 0):=(blk_cell BK398.out 0).trans rfl
           have hcz80_1:w73.cell? ⟨gb398,1,none⟩=some (.int .i64 0):=(blk_cell BK398.out 1).trans rfl
           have hcz80_2:w73.cell? ⟨gb398,2,none⟩=some (.int .i64 0):=(blk_cell BK398.out 2).trans rfl
           have hfz80_0:=blk_frozen BK398.out 0
           have hfz80_1:=blk_frozen BK398.out 1
           have hfz80_2:=blk_frozen BK398.out 2
           try go_wp2
           refine bodyPost_ret (results_cell_row rfl _ _ gb398 31 #[.slice Ao78 x409000_1.length co78,.int .i64 x409001_49,.int .i64 (rd y427 t430)] (0,0) _ rfl (by (with_reducible repeat (first|refine yE ?_ _|refine yF ?_|refine yG ?_ _));refine blk_put (cs:=#[.slice Ao78 x409000_1.length co78,.int .i64 x409001_49,.int .i64 0]) ?_ 2 _ rfl;(with_reducible repeat (first|refine yE ?_ _|refine yF ?_|refine yG ?_ _));refine blk_put (cs:=#[.slice Ao78 x409000_1.length co78,.int .i64 0,.int .i64 0]) ?_ 1 _ rfl;(with_reducible repeat (first|refine yE ?_ _|refine yF ?_|refine yG ?_ _));refine blk_put (cs:=#[.slice none 0 0,.int .i64 0,.int .i64 0]) ?_ 0 _ rfl;(with_reducible repeat (first|refine yE ?_ _|refine yF ?_|refine yG ?_ _));exact BK398.out) Try.underlying31 rfl (by kernel_rfl)) rfl ?_
           exact ⟨_,by first|rfl|(simp [errW_none,errW_some]<;>rfl)|(simp only [← hji3,← hji5,← hji5];first|rfl|(simp [errW_none,errW_some]<;>rfl))|(simp [*,errW_none,errW_some]<;>rfl),by (with_reducible repeat (first|apply yH|apply yI|apply yJ));exact Kd.R_mono (Kd.R_far (p:=⟨gb398,2,none⟩) (Kd.R_far (p:=⟨gb398,1,none⟩) (Kd.R_far (p:=⟨gb398,0,none⟩) (Kd.R_types HO_409000.out BK398.out (by decide)) (fun _ hk=>hk.2) (.slice Ao78 x409000_1.length co78)) (fun _ hk=>hk.2) (.int .i64 x409001_49)) (fun _ hk=>hk.2) (.int .i64 (rd y427 t430))) (fun _ hk=>trivial),by repeat (first|(with_reducible first|exact HI0.out|apply IsS74.alloc|apply IsS74.drewN|apply IsS74.drew|apply IsS74.set_1|refine IsS74.far ?_ NB0_398.out _|refine IsS74.far ?_ NB0_408.out _)|exact HI0.out),by repeat (first|(with_reducible first|exact HB.out|apply yA|apply yB|apply yC|refine yD ?_ (IsS74.ge HI0.out)|refine yD ?_ GE398.out|refine yD ?_ GE408.out)|exact HB.out),by repeat (first|(with_reducible first|exact HK.out|apply KeepBut.set_|apply keep_drewN|apply keep_drew|apply keep_alloc|refine keep_far ?_ GW398.out _|refine keep_far ?_ GW408.out _)|exact HK.out)⟩
          ·rw [if_neg c65] at H
           exact absurd H (by simp)
         ·rw [if_neg c64] at H
          exact absurd H (by simp)
        ·rw [if_neg c61] at H
         exact absurd H (by simp)
       ·rw [if_neg c60] at H
        have c60b0:(t425 == 0)=false:=beq_eq_false_iff_ne.mpr c60
        have c60b1:(t425 != 0)=true:=bne_iff_ne.mpr c60
        by_cases c81:t425=1
        ·rw [if_pos c81] at H
         have c81b0:(t425 == 1)=true:=beq_iff_eq.mpr c81
         have c81b1:(t425 != 1)=false:=bne_eq_false_iff_eq.mpr c81
         clear c81
         obtain ⟨y433,hy433⟩:∃ y_:List Int,y_=(([1,1,1,1,1]:List Int)):=⟨_,rfl⟩
         replace H:(if x409000_1.length+y433.length<17592186044416 then (some ((x409000_1++y433),x409001_49,t406,t426)) else (none))=some (r1,r2,r3,r4):=by first|(rw [hy433];with_reducible exact H)|(have H2_:=(Option.bind_some _ _).symm.trans H;rw [hy433];with_reducible exact H2_)|(have H2_:=(Option.bind_some _ _).symm.trans H;with_reducible exact H2_)|with_reducible exact H|(rw [hy433];exact H)|exact H
         have Ny433:=Aside0.mk hy433
         clear hy433
         by_cases c82:x409000_1.length+y433.length<17592186044416
         ·rw [if_pos c82] at H
          have LMc82:=Aside0.mk c82
          clear c82
          obtain ⟨y436,hy436⟩:∃ y_:List Int,y_=(x409000_1++y433):=⟨_,rfl⟩
          replace H:(some (y436,x409001_49,t406,t426))=some (r1,r2,r3,r4):=by first|(rw [hy436];with_reducible exact H)|(have H2_:=(Option.bind_some _ _).symm.trans H;rw [hy436];with_reducible exact H2_)|(have H2_:=(Option.bind_some _ _).symm.trans H;with_reducible exact H2_)|with_reducible exact H|(rw [hy436];exact H)|exact H
          have Ny436:=Aside0.mk hy436
          clear hy436
          simp only [Option.some.injEq,Prod.mk.injEq] at H
          obtain ⟨rfl,rfl,rfl,rfl⟩:=H
          go_wp2_with (first|((with_reducible refine gate_callee (f:=54) rfl ?_);refine goesL_ (some 59) rfl rfl Try.func54 (by kernel_rfl) rfl #[.pointer (some ⟨g,0,none⟩),.int .i64 20] rfl (by (try simp only [List.map_toArray,List.map_cons,List.map_nil]);first|done|rfl|(simp only [List.length_drop,List.length_take];rfl)) ?_;(with_reducible refine (spec_l6Rd_pick.calls kj49 g s0_0 x1001_49 20 t425 t426 w0 _ ?side1 ?side2 A59.out).mono ?_);(case side1=>repeat (first|(with_reducible first|exact HI0.out|apply IsS74.alloc|apply IsS74.drewN|apply IsS74.drew|apply IsS74.set_1|refine IsS74.far ?_ NB0_398.out _|refine IsS74.far ?_ NB0_408.out _)|exact HI0.out));(case side2=>repeat (first|(with_reducible first|exact HB.out|apply yA|apply yB|apply yC|refine yD ?_ (IsS74.ge HI0.out)|refine yD ?_ GE398.out|refine yD ?_ GE408.out)|exact HB.out));rintro e w83 ⟨rfl,hi,hb,hk⟩;refine ⟨_,rfl,?_⟩;have n0_:=Aside0.mk (Kd.R_mono (Kd.R_keep (IsS74.apart (show IsS74 w0 _ g s0_0 x1001_49 from by repeat (first|(with_reducible first|exact HI0.out|apply IsS74.alloc|apply IsS74.drewN|apply IsS74.drew|apply IsS74.set_1|refine IsS74.far ?_ NB0_398.out _|refine IsS74.far ?_ NB0_408.out _)|exact HI0.out)) (by (with_reducible repeat (first|apply yH|apply yI|apply yJ));exact HO_409000.out) (by decide)) hk (fun _ h=>h.2)) (fun _ h=>h.1));have n1_:=Aside0.mk (KeepBut.blk hk (g':=gb398) (o:=.cells #[.slice none 0 0,.int .i64 0,.int .i64 0] 31 (0,0)) (by (with_reducible repeat (first|refine yE ?_ _|refine yF ?_|refine yG ?_ _));exact BK398.out) NB398_0.out (by simp));have n2_:=Aside0.mk (KeepBut.blk hk (g':=gb408) (o:=.cells #[u409000,.int .i64 x409001_49,.int .i64 t406] 31 (0,0)) (by (with_reducible repeat (first|refine yE ?_ _|refine yF ?_|refine yG ?_ _));exact BK408.out) NB408_0.out (by simp));have n3_:=Aside0.mk (KeepBut.trans (by repeat (first|(with_reducible first|exact HK.out|apply KeepBut.set_|apply keep_drewN|apply keep_drew|apply keep_alloc|refine keep_far ?_ GW398.out _|refine keep_far ?_ GW408.out _)|exact HK.out)) hk (.inl rfl));have n4_:=Aside0.mk (hb);have n5_:=Aside0.mk (hi);clear HO_409000;clear BK398;clear BK408;clear HK;clear HB;clear HI0;have HO_409000:=n0_;have BK398:=n1_;have BK408:=n2_;have HK:=n3_;have HB:=n4_;have HI0:=n5_;clear n0_ n1_ n2_ n3_ n4_ n5_;(try clear hb);(try clear hb2);(try clear hk);(try clear hi);have hnb84:=NB408_398.out;have hnc84:=NB398_408.out;have hnb85:=NB408_0.out;have hnc85:=NB0_408.out;have hcz86_0:w83.cell? ⟨gb408,0,none⟩=some (u409000):=(blk_cell BK408.out 0).trans rfl;have hcz86_1:w83.cell? ⟨gb408,1,none⟩=some (.int .i64 x409001_49):=(blk_cell BK408.out 1).trans rfl;have hcz86_2:w83.cell? ⟨gb408,2,none⟩=some (.int .i64 t406):=(blk_cell BK408.out 2).trans rfl;have hfz86_0:=blk_frozen BK408.out 0;have hfz86_1:=blk_frozen BK408.out 1;have hfz86_2:=blk_frozen BK408.out 2)|((with_reducible refine gate_dst (N:=74) rfl ?_);refine Kd.R_lit (Kd.int .i64) _ 3 ?hg (N:=74) ?hd (xs:=([1,1,1,1,1]:List Int)) (inner:=[.int .i64 1,.int .i64 1,.int .i64 1,.int .i64 1,.int .i64 1]) (ok:=fun _=>True) (okp:=fun _=>True) ?hr ?hp (fun _ hk=>hk) trivial (Below.refl _ _) (Nat.le_refl _) (by simp) ?_;(case hd=>rfl);(case hg=>rfl);(case hr=>first|(go_simp;done)|(go_simp;rfl));(case hp=>exact (Reps.one (show Kd.M (Kd.int .i64) _ _ _ 1 [.int .i64 1] from rfl) (Reps.one (show Kd.M (Kd.int .i64) _ _ _ 1 [.int .i64 1] from rfl) (Reps.one (show Kd.M (Kd.int .i64) _ _ _ 1 [.int .i64 1] from rfl) (Reps.one (show Kd.M (Kd.int .i64) _ _ _ 1 [.int .i64 1] from rfl) (Reps.one (show Kd.M (Kd.int .i64) _ _ _ 1 [.int .i64 1] from rfl) (Reps.none _ _)))))));intro v434 w87 ho88 hb hg_ hnew_;clear hg_ hnew_;(first|rw [← Ny433.out] at ho88|(simp only [Int.reduceToNat] at ho88;rw [← Ny433.out] at ho88));have n0_:=Aside0.mk (Kd.R_elder' (by (with_reducible repeat (first|apply yH|apply yI|apply yJ));exact HO_409000.out) (Kd.R_base ho88) hb);have n1_:=Aside0.mk (Kd.R_lower (Kd.R_new' ho88 (Kd.R_lt (by (with_reducible repeat (first|apply yH|apply yI|apply yJ));exact HO_409000.out))) (keep_size (w:=w) (g:=g) (row:=none) (by repeat (first|(with_reducible first|exact HK.out|apply KeepBut.set_|apply keep_drewN|apply keep_drew|apply keep_alloc|refine keep_far ?_ GW398.out _|refine keep_far ?_ GW408.out _)|exact HK.out))));have n2_:=Aside0.mk (blk_below (g:=gb398) (o:=.cells #[.slice none 0 0,.int .i64 0,.int .i64 0] 31 (0,0)) (by (with_reducible repeat (first|refine yE ?_ _|refine yF ?_|refine yG ?_ _));exact BK398.out) hb);have n3_:=Aside0.mk (blk_below (g:=gb408) (o:=.cells #[u409000,.int .i64 x409001_49,.int .i64 t406] 31 (0,0)) (by (with_reducible repeat (first|refine yE ?_ _|refine yF ?_|refine yG ?_ _));exact BK408.out) hb);have n4_:=Aside0.mk (IsS74.below (by repeat (first|(with_reducible first|exact HI0.out|apply IsS74.alloc|apply IsS74.drewN|apply IsS74.drew|apply IsS74.set_1|refine IsS74.far ?_ NB0_398.out _|refine IsS74.far ?_ NB0_408.out _)|exact HI0.out)) hb);have n5_:=Aside0.mk (KeepBut.trans (by repeat (first|(with_reducible first|exact HK.out|apply KeepBut.set_|apply keep_drewN|apply keep_drew|apply keep_alloc|refine keep_far ?_ GW398.out _|refine keep_far ?_ GW408.out _)|exact HK.out)) (KeepBut.of_below hb g none) (.inl rfl));have n6_:=Aside0.mk (yP (by repeat (first|(with_reducible first|exact HB.out|apply yA|apply yB|apply yC|refine yD ?_ (IsS74.ge HI0.out)|refine yD ?_ GE398.out|refine yD ?_ GE408.out)|exact HB.out)) hb);clear HO_409000;clear BK398;clear BK408;clear HI0;clear HK;clear HB;have HO_409000:=n0_;have HO435:=n1_;have BK398:=n2_;have BK408:=n3_;have HI0:=n4_;have HK:=n5_;have HB:=n6_;clear n0_ n1_ n2_ n3_ n4_ n5_ n6_;clear hb ho88;obtain ⟨Ao90,co90,eo90⟩:=Kd.R_slice HO435.out;subst eo90)|((with_reducible refine gate_builtin (b:=.append) (xs:=#[.tmp 73,.tmp 74]) rfl ?_);at_builtin;refine Kd.R_append_rows (Kd.int .i64) w.heap.size rfl (.tmp 73) (.tmp 74) 29 3 (.int .i64 0) 8 rfl Try.underlying29 info3 rfl (by decide) (by omega) u409000 x409000_1 y433 _ _ _ (fun k_=>some k_≠(.slice Ao90 y433.length co90:Value).ownBlock) (fun _=>False) rfl rfl ?aO ?aR (fun _ _ h=>h) (fun _ h=>h.elim) ?aF (Below.refl _ _) ?aS ?aL ?_;(case aR=>repeat (first|exact (Kd.R_reads' HO435.out).2.2|(with_reducible refine Kd.C_alloc ?_ _)|(with_reducible refine Kd.C_drewN ?_ _)|(with_reducible refine Kd.C_drew ?_)));(case aF=>exact (fun k_ hk=>Kd.fresh' (Kd.R_lt (by (with_reducible repeat (first|apply yH|apply yI|apply yJ));exact HO435.out)) k_ hk));(case aO=>exact (by (with_reducible repeat (first|apply yH|apply yI|apply yJ));exact Kd.R_mono HO_409000.out (fun _ hk=>by first|exact hk.2|trivial)));(case aS=>exact (keep_size (w:=w) (g:=g) (row:=none) (by repeat (first|(with_reducible first|exact HK.out|apply KeepBut.set_|apply keep_drewN|apply keep_drew|apply keep_alloc|refine keep_far ?_ GW398.out _|refine keep_far ?_ GW408.out _)|exact HK.out))));(case aL=>have:=LMc82.out;omega);intro v437 w89 ho hb hg hat;rw [← Ny436.out] at ho;have n0_:=Aside0.mk (blk_grown (g:=gb398) (o:=.cells #[.slice none 0 0,.int .i64 0,.int .i64 0] 31 (0,0)) (by (with_reducible repeat (first|refine yE ?_ _|refine yF ?_|refine yG ?_ _));exact BK398.out) hg (Kd.R_ne HO_409000.out BK398.out (by decide)));have n1_:=Aside0.mk (blk_grown (g:=gb408) (o:=.cells #[u409000,.int .i64 x409001_49,.int .i64 t406] 31 (0,0)) (by (with_reducible repeat (first|refine yE ?_ _|refine yF ?_|refine yG ?_ _));exact BK408.out) hg (Kd.R_ne HO_409000.out BK408.out (by decide)));have n2_:=Aside0.mk (IsS74.grown (by repeat (first|(with_reducible first|exact HI0.out|apply IsS74.alloc|apply IsS74.drewN|apply IsS74.drew|apply IsS74.set_1|refine IsS74.far ?_ NB0_398.out _|refine IsS74.far ?_ NB0_408.out _)|exact HI0.out)) hg (IsS74.own_ne HI0.out HO_409000.out (by decide)));have n3_:=Aside0.mk (Kd.R_after (ok:=(fun _=>True)) (by (with_reducible repeat (first|apply yH|apply yI|apply yJ));exact HO435.out) hg hat);have n4_:=Aside0.mk (below_weaken (by repeat (first|(with_reducible first|exact HB.out|apply yA|apply yB|apply yC|refine yD ?_ (IsS74.ge HI0.out)|refine yD ?_ GE398.out|refine yD ?_ GE408.out)|exact HB.out)) HL.out hb);have n5_:=Aside0.mk (KeepBut.trans (by repeat (first|(with_reducible first|exact HK.out|apply KeepBut.set_|apply keep_drewN|apply keep_drew|apply keep_alloc|refine keep_far ?_ GW398.out _|refine keep_far ?_ GW408.out _)|exact HK.out)) (KeepBut.of_grown hg g) (Kd.R_base2 HO_409000.out));have n6_:=Aside0.mk (ho);clear BK398;clear BK408;clear HI0;clear HO435;clear HB;clear HK;clear HO_409000;have BK398:=n0_;have BK408:=n1_;have HI0:=n2_;have HO435:=n3_;have HB:=n4_;have HK:=n5_;have HO438:=n6_;clear n0_ n1_ n2_ n3_ n4_ n5_ n6_;clear ho hb hg hat;obtain ⟨Ao91,co91,eo91⟩:=Kd.R_slice HO438.out;subst eo91;have hcz92_0:w89.cell? ⟨gb408,0,none⟩=some (u409000):=(blk_cell BK408.out 0).trans rfl;have hcz92_1:w89.cell? ⟨gb408,1,none⟩=some (.int .i64 x409001_49):=(blk_cell BK408.out 1).trans rfl;have hcz92_2:w89.cell? ⟨gb408,2,none⟩=some (.int .i64 t406):=(blk_cell BK408.out 2).trans rfl;have hfz92_0:=blk_frozen BK408.out 0;have hfz92_1:=blk_frozen BK408.out 1;have hfz92_2:=blk_frozen BK408.out 2;have hnb93:=NB398_0.out;have hnc93:=NB0_398.out;have hcz94_0:w89.cell? ⟨gb398,0,none⟩=some (.slice none 0 0):=(blk_cell BK398.out 0).trans rfl;have hcz94_1:w89.cell? ⟨gb398,1,none⟩=some (.int .i64 0):=(blk_cell BK398.out 1).trans rfl;have hcz94_2:w89.cell? ⟨gb398,2,none⟩=some (.int .i64 0):=(blk_cell BK398.out 2).trans rfl;have hfz94_0:=blk_frozen BK398.out 0;have hfz94_1:=blk_frozen BK398.out 1;have hfz94_2:=blk_frozen BK398.out 2))
          refine bodyPost_ret (results_cell_row rfl _ _ gb398 31 #[.slice Ao91 y436.length co91,.int .i64 x409001_49,.int .i64 t406] (0,0) _ rfl (by (with_reducible repeat (first|refine yE ?_ _|refine yF ?_|refine yG ?_ _));refine blk_put (cs:=#[.slice Ao91 y436.length co91,.int .i64 x409001_49,.int .i64 0]) ?_ 2 _ rfl;(with_reducible repeat (first|refine yE ?_ _|refine yF ?_|refine yG ?_ _));refine blk_put (cs:=#[.slice Ao91 y436.length co91,.int .i64 0,.int .i64 0]) ?_ 1 _ rfl;(with_reducible repeat (first|refine yE ?_ _|refine yF ?_|refine yG ?_ _));refine blk_put (cs:=#[.slice none 0 0,.int .i64 0,.int .i64 0]) ?_ 0 _ rfl;(with_reducible repeat (first|refine yE ?_ _|refine yF ?_|refine yG ?_ _));refine blk_far ?_ NB398_408.out _;(with_reducible repeat (first|refine yE ?_ _|refine yF ?_|refine yG ?_ _));exact BK398.out) Try.underlying31 rfl (by kernel_rfl)) rfl ?_
          exact ⟨_,by first|rfl|(simp [errW_none,errW_some]<;>rfl)|(simp only [← hji3,← hji5];first|rfl|(simp [errW_none,errW_some]<;>rfl))|(simp [*,errW_none,errW_some]<;>rfl),by (with_reducible repeat (first|apply yH|apply yI|apply yJ));exact Kd.R_mono (Kd.R_far (p:=⟨gb398,2,none⟩) (Kd.R_far (p:=⟨gb398,1,none⟩) (Kd.R_far (p:=⟨gb398,0,none⟩) (Kd.R_far (p:=⟨gb408,0,none⟩) (Kd.R_types (Kd.R_types HO438.out BK408.out (by decide)) BK398.out (by decide)) (fun _ hk=>hk.1.2) (.slice Ao91 y436.length co91)) (fun _ hk=>hk.2) (.slice Ao91 y436.length co91)) (fun _ hk=>hk.2) (.int .i64 x409001_49)) (fun _ hk=>hk.2) (.int .i64 t406)) (fun _ hk=>trivial),by repeat (first|(with_reducible first|exact HI0.out|apply IsS74.alloc|apply IsS74.drewN|apply IsS74.drew|apply IsS74.set_1|refine IsS74.far ?_ NB0_398.out _|refine IsS74.far ?_ NB0_408.out _)|exact HI0.out),by repeat (first|(with_reducible first|exact HB.out|apply yA|apply yB|apply yC|refine yD ?_ (IsS74.ge HI0.out)|refine yD ?_ GE398.out|refine yD ?_ GE408.out)|exact HB.out),by repeat (first|(with_reducible first|exact HK.out|apply KeepBut.set_|apply keep_drewN|apply keep_drew|apply keep_alloc|refine keep_far ?_ GW398.out _|refine keep_far ?_ GW408.out _)|exact HK.out)⟩
         ·rw [if_neg c82] at H
          exact absurd H (by simp)
        ·rw [if_neg c81] at H
         have c81b0:(t425 == 1)=false:=beq_eq_false_iff_ne.mpr c81
         have c81b1:(t425 != 1)=true:=bne_iff_ne.mpr c81
         by_cases c95:t425=2
         ·rw [if_pos c95] at H
          have c95b0:(t425 == 2)=true:=beq_iff_eq.mpr c95
          have c95b1:(t425 != 2)=false:=bne_eq_false_iff_eq.mpr c95
          clear c95
          obtain ⟨y439,hy439⟩:∃ y_:List Int,y_=(([]:List Int)):=⟨_,rfl⟩
          replace H:(some (y439,x409001_49,t406,t426))=some (r1,r2,r3,r4):=by first|(rw [hy439];with_reducible exact H)|(have H2_:=(Option.bind_some _ _).symm.trans H;rw [hy439];with_reducible exact H2_)|(have H2_:=(Option.bind_some _ _).symm.trans H;with_reducible exact H2_)|with_reducible exact H|(rw [hy439];exact H)|exact H
          have Ny439:=Aside0.mk hy439
          clear hy439
          simp only [Option.some.injEq,Prod.mk.injEq] at H
          obtain ⟨rfl,rfl,rfl,rfl⟩:=H
          go_wp2_with (first|((with_reducible refine gate_callee (f:=54) rfl ?_);refine goesL_ (some 59) rfl rfl Try.func54 (by kernel_rfl) rfl #[.pointer (some ⟨g,0,none⟩),.int .i64 20] rfl (by (try simp only [List.map_toArray,List.map_cons,List.map_nil]);first|done|rfl|(simp only [List.length_drop,List.length_take];rfl)) ?_;(with_reducible refine (spec_l6Rd_pick.calls kj49 g s0_0 x1001_49 20 t425 t426 w0 _ ?side1 ?side2 A59.out).mono ?_);(case side1=>repeat (first|(with_reducible first|exact HI0.out|apply IsS74.alloc|apply IsS74.drewN|apply IsS74.drew|apply IsS74.set_1|refine IsS74.far ?_ NB0_398.out _|refine IsS74.far ?_ NB0_408.out _)|exact HI0.out));(case side2=>repeat (first|(with_reducible first|exact HB.out|apply yA|apply yB|apply yC|refine yD ?_ (IsS74.ge HI0.out)|refine yD ?_ GE398.out|refine yD ?_ GE408.out)|exact HB.out));rintro e w96 ⟨rfl,hi,hb,hk⟩;refine ⟨_,rfl,?_⟩;have n0_:=Aside0.mk (Kd.R_mono (Kd.R_keep (IsS74.apart (show IsS74 w0 _ g s0_0 x1001_49 from by repeat (first|(with_reducible first|exact HI0.out|apply IsS74.alloc|apply IsS74.drewN|apply IsS74.drew|apply IsS74.set_1|refine IsS74.far ?_ NB0_398.out _|refine IsS74.far ?_ NB0_408.out _)|exact HI0.out)) (by (with_reducible repeat (first|apply yH|apply yI|apply yJ));exact HO_409000.out) (by decide)) hk (fun _ h=>h.2)) (fun _ h=>h.1));have n1_:=Aside0.mk (KeepBut.blk hk (g':=gb398) (o:=.cells #[.slice none 0 0,.int .i64 0,.int .i64 0] 31 (0,0)) (by (with_reducible repeat (first|refine yE ?_ _|refine yF ?_|refine yG ?_ _));exact BK398.out) NB398_0.out (by simp));have n2_:=Aside0.mk (KeepBut.blk hk (g':=gb408) (o:=.cells #[u409000,.int .i64 x409001_49,.int .i64 t406] 31 (0,0)) (by (with_reducible repeat (first|refine yE ?_ _|refine yF ?_|refine yG ?_ _));exact BK408.out) NB408_0.out (by simp));have n3_:=Aside0.mk (KeepBut.trans (by repeat (first|(with_reducible first|exact HK.out|apply KeepBut.set_|apply keep_drewN|apply keep_drew|apply keep_alloc|refine keep_far ?_ GW398.out _|refine keep_far ?_ GW408.out _)|exact HK.out)) hk (.inl rfl));have n4_:=Aside0.mk (hb);have n5_:=Aside0.mk (hi);clear HO_409000;clear BK398;clear BK408;clear HK;clear HB;clear HI0;have HO_409000:=n0_;have BK398:=n1_;have BK408:=n2_;have HK:=n3_;have HB:=n4_;have HI0:=n5_;clear n0_ n1_ n2_ n3_ n4_ n5_;(try clear hb);(try clear hb2);(try clear hk);(try clear hi))|((with_reducible refine gate_dst (N:=79) rfl ?_);refine Kd.R_lit (Kd.int .i64) _ 3 ?hg (N:=79) ?hd (xs:=([]:List Int)) (inner:=[]) (ok:=fun _=>True) (okp:=fun _=>True) ?hr ?hp (fun _ hk=>hk) trivial (Below.refl _ _) (Nat.le_refl _) (by simp) ?_;(case hd=>rfl);(case hg=>rfl);(case hr=>first|(go_simp;done)|(go_simp;rfl));(case hp=>exact (Reps.none _ _));intro v440 w97 ho98 hb hg_ hnew_;clear hg_ hnew_;(first|rw [← Ny439.out] at ho98|(simp only [Int.reduceToNat] at ho98;rw [← Ny439.out] at ho98));have n0_:=Aside0.mk (Kd.R_elder' (by (with_reducible repeat (first|apply yH|apply yI|apply yJ));exact HO_409000.out) (Kd.R_base ho98) hb);have n1_:=Aside0.mk (Kd.R_lower (Kd.R_new' ho98 (Kd.R_lt (by (with_reducible repeat (first|apply yH|apply yI|apply yJ));exact HO_409000.out))) (keep_size (w:=w) (g:=g) (row:=none) (by repeat (first|(with_reducible first|exact HK.out|apply KeepBut.set_|apply keep_drewN|apply keep_drew|apply keep_alloc|refine keep_far ?_ GW398.out _|refine keep_far ?_ GW408.out _)|exact HK.out))));have n2_:=Aside0.mk (blk_below (g:=gb398) (o:=.cells #[.slice none 0 0,.int .i64 0,.int .i64 0] 31 (0,0)) (by (with_reducible repeat (first|refine yE ?_ _|refine yF ?_|refine yG ?_ _));exact BK398.out) hb);have n3_:=Aside0.mk (blk_below (g:=gb408) (o:=.cells #[u409000,.int .i64 x409001_49,.int .i64 t406] 31 (0,0)) (by (with_reducible repeat (first|refine yE ?_ _|refine yF ?_|refine yG ?_ _));exact BK408.out) hb);have n4_:=Aside0.mk (IsS74.below (by repeat (first|(with_reducible first|exact HI0.out|apply IsS74.alloc|apply IsS74.drewN|apply IsS74.drew|apply IsS74.set_1|refine IsS74.far ?_ NB0_398.out _|refine IsS74.far ?_ NB0_408.out _)|exact HI0.out)) hb);have n5_:=Aside0.mk (KeepBut.trans (by repeat (first|(with_reducible first|exact HK.out|apply KeepBut.set_|apply keep_drewN|apply keep_drew|apply keep_alloc|refine keep_far ?_ GW398.out _|refine keep_far ?_ GW408.out _)|exact HK.out)) (KeepBut.of_below hb g none) (.inl rfl));have n6_:=Aside0.mk (yP (by repeat (first|(with_reducible first|exact HB.out|apply yA|apply yB|apply yC|refine yD ?_ (IsS74.ge HI0.out)|refine yD ?_ GE398.out|refine yD ?_ GE408.out)|exact HB.out)) hb);clear HO_409000;clear BK398;clear BK408;clear HI0;clear HK;clear HB;have HO_409000:=n0_;have HO441:=n1_;have BK398:=n2_;have BK408:=n3_;have HI0:=n4_;have HK:=n5_;have HB:=n6_;clear n0_ n1_ n2_ n3_ n4_ n5_ n6_;clear hb ho98;obtain ⟨Ao99,co99,eo99⟩:=Kd.R_slice HO441.out;subst eo99;have hnb100:=NB408_398.out;have hnc100:=NB398_408.out;have hnb101:=NB408_0.out;have hnc101:=NB0_408.out;have hcz102_0:w97.cell? ⟨gb408,0,none⟩=some (u409000):=(blk_cell BK408.out 0).trans rfl;have hcz102_1:w97.cell? ⟨gb408,1,none⟩=some (.int .i64 x409001_49):=(blk_cell BK408.out 1).trans rfl;have hcz102_2:w97.cell? ⟨gb408,2,none⟩=some (.int .i64 t406):=(blk_cell BK408.out 2).trans rfl;have hfz102_0:=blk_frozen BK408.out 0;have hfz102_1:=blk_frozen BK408.out 1;have hfz102_2:=blk_frozen BK408.out 2;have hnb103:=NB398_0.out;have hnc103:=NB0_398.out;have hcz104_0:w97.cell? ⟨gb398,0,none⟩=some (.slice none 0 0):=(blk_cell BK398.out 0).trans rfl;have hcz104_1:w97.cell? ⟨gb398,1,none⟩=some (.int .i64 0):=(blk_cell BK398.out 1).trans rfl;have hcz104_2:w97.cell? ⟨gb398,2,none⟩=some (.int .i64 0):=(blk_cell BK398.out 2).trans rfl;have hfz104_0:=blk_frozen BK398.out 0;have hfz104_1:=blk_frozen BK398.out 1;have hfz104_2:=blk_frozen BK398.out 2))
          refine bodyPost_ret (results_cell_row rfl _ _ gb398 31 #[.slice Ao99 y439.length co99,.int .i64 x409001_49,.int .i64 t406] (0,0) _ rfl (by (with_reducible repeat (first|refine yE ?_ _|refine yF ?_|refine yG ?_ _));refine blk_put (cs:=#[.slice Ao99 y439.length co99,.int .i64 x409001_49,.int .i64 0]) ?_ 2 _ rfl;(with_reducible repeat (first|refine yE ?_ _|refine yF ?_|refine yG ?_ _));refine blk_put (cs:=#[.slice Ao99 y439.length co99,.int .i64 0,.int .i64 0]) ?_ 1 _ rfl;(with_reducible repeat (first|refine yE ?_ _|refine yF ?_|refine yG ?_ _));refine blk_put (cs:=#[.slice none 0 0,.int .i64 0,.int .i64 0]) ?_ 0 _ rfl;(with_reducible repeat (first|refine yE ?_ _|refine yF ?_|refine yG ?_ _));refine blk_far ?_ NB398_408.out _;(with_reducible repeat (first|refine yE ?_ _|refine yF ?_|refine yG ?_ _));exact BK398.out) Try.underlying31 rfl (by kernel_rfl)) rfl ?_
          exact ⟨_,by first|rfl|(simp [errW_none,errW_some]<;>rfl)|(simp only [← hji3,← hji5];first|rfl|(simp [errW_none,errW_some]<;>rfl))|(simp [*,errW_none,errW_some]<;>rfl),by (with_reducible repeat (first|apply yH|apply yI|apply yJ));exact Kd.R_mono (Kd.R_far (p:=⟨gb398,2,none⟩) (Kd.R_far (p:=⟨gb398,1,none⟩) (Kd.R_far (p:=⟨gb398,0,none⟩) (Kd.R_far (p:=⟨gb408,0,none⟩) (Kd.R_types (Kd.R_types HO441.out BK408.out (by decide)) BK398.out (by decide)) (fun _ hk=>hk.1.2) (.slice Ao99 y439.length co99)) (fun _ hk=>hk.2) (.slice Ao99 y439.length co99)) (fun _ hk=>hk.2) (.int .i64 x409001_49)) (fun _ hk=>hk.2) (.int .i64 t406)) (fun _ hk=>trivial),by repeat (first|(with_reducible first|exact HI0.out|apply IsS74.alloc|apply IsS74.drewN|apply IsS74.drew|apply IsS74.set_1|refine IsS74.far ?_ NB0_398.out _|refine IsS74.far ?_ NB0_408.out _)|exact HI0.out),by repeat (first|(with_reducible first|exact HB.out|apply yA|apply yB|apply yC|refine yD ?_ (IsS74.ge HI0.out)|refine yD ?_ GE398.out|refine yD ?_ GE408.out)|exact HB.out),by repeat (first|(with_reducible first|exact HK.out|apply KeepBut.set_|apply keep_drewN|apply keep_drew|apply keep_alloc|refine keep_far ?_ GW398.out _|refine keep_far ?_ GW408.out _)|exact HK.out)⟩
         ·rw [if_neg c95] at H
          have c95b0:(t425 == 2)=false:=beq_eq_false_iff_ne.mpr c95
          have c95b1:(t425 != 2)=true:=bne_iff_ne.mpr c95
          simp only [Option.some.injEq,Prod.mk.injEq] at H
          obtain ⟨rfl,rfl,rfl,rfl⟩:=H
          go_wp2_with (first|((with_reducible refine gate_callee (f:=54) rfl ?_);refine goesL_ (some 59) rfl rfl Try.func54 (by kernel_rfl) rfl #[.pointer (some ⟨g,0,none⟩),.int .i64 20] rfl (by (try simp only [List.map_toArray,List.map_cons,List.map_nil]);first|done|rfl|(simp only [List.length_drop,List.length_take];rfl)) ?_;(with_reducible refine (spec_l6Rd_pick.calls kj49 g s0_0 x1001_49 20 t425 t426 w0 _ ?side1 ?side2 A59.out).mono ?_);(case side1=>repeat (first|(with_reducible first|exact HI0.out|apply IsS74.alloc|apply IsS74.drewN|apply IsS74.drew|apply IsS74.set_1|refine IsS74.far ?_ NB0_398.out _|refine IsS74.far ?_ NB0_408.out _)|exact HI0.out));(case side2=>repeat (first|(with_reducible first|exact HB.out|apply yA|apply yB|apply yC|refine yD ?_ (IsS74.ge HI0.out)|refine yD ?_ GE398.out|refine yD ?_ GE408.out)|exact HB.out));rintro e w105 ⟨rfl,hi,hb,hk⟩;refine ⟨_,rfl,?_⟩;have n0_:=Aside0.mk (Kd.R_mono (Kd.R_keep (IsS74.apart (show IsS74 w0 _ g s0_0 x1001_49 from by repeat (first|(with_reducible first|exact HI0.out|apply IsS74.alloc|apply IsS74.drewN|apply IsS74.drew|apply IsS74.set_1|refine IsS74.far ?_ NB0_398.out _|refine IsS74.far ?_ NB0_408.out _)|exact HI0.out)) (by (with_reducible repeat (first|apply yH|apply yI|apply yJ));exact HO_409000.out) (by decide)) hk (fun _ h=>h.2)) (fun _ h=>h.1));have n1_:=Aside0.mk (KeepBut.blk hk (g':=gb398) (o:=.cells #[.slice none 0 0,.int .i64 0,.int .i64 0] 31 (0,0)) (by (with_reducible repeat (first|refine yE ?_ _|refine yF ?_|refine yG ?_ _));exact BK398.out) NB398_0.out (by simp));have n2_:=Aside0.mk (KeepBut.blk hk (g':=gb408) (o:=.cells #[u409000,.int .i64 x409001_49,.int .i64 t406] 31 (0,0)) (by (with_reducible repeat (first|refine yE ?_ _|refine yF ?_|refine yG ?_ _));exact BK408.out) NB408_0.out (by simp));have n3_:=Aside0.mk (KeepBut.trans (by repeat (first|(with_reducible first|exact HK.out|apply KeepBut.set_|apply keep_drewN|apply keep_drew|apply keep_alloc|refine keep_far ?_ GW398.out _|refine keep_far ?_ GW408.out _)|exact HK.out)) hk (.inl rfl));have n4_:=Aside0.mk (hb);have n5_:=Aside0.mk (hi);clear HO_409000;clear BK398;clear BK408;clear HK;clear HB;clear HI0;have HO_409000:=n0_;have BK398:=n1_;have BK408:=n2_;have HK:=n3_;have HB:=n4_;have HI0:=n5_;clear n0_ n1_ n2_ n3_ n4_ n5_;(try clear hb);(try clear hb2);(try clear hk);(try clear hi);have hnb106:=NB408_398.out;have hnc106:=NB398_408.out;have hnb107:=NB408_0.out;have hnc107:=NB0_408.out;have hcz108_0:w105.cell? ⟨gb408,0,none⟩=some (u409000):=(blk_cell BK408.out 0).trans rfl;have hcz108_1:w105.cell? ⟨gb408,1,none⟩=some (.int .i64 x409001_49):=(blk_cell BK408.out 1).trans rfl;have hcz108_2:w105.cell? ⟨gb408,2,none⟩=some (.int .i64 t406):=(blk_cell BK408.out 2).trans rfl;have hfz108_0:=blk_frozen BK408.out 0;have hfz108_1:=blk_frozen BK408.out 1;have hfz108_2:=blk_frozen BK408.out 2;obtain ⟨Ao109,co109,eo109⟩:=Kd.R_slice HO_409000.out;subst eo109;have hnb110:=NB398_0.out;have hnc110:=NB0_398.out;have hcz111_0:w105.cell? ⟨gb398,0,none⟩=some (.slice none 0 0):=(blk_cell BK398.out 0).trans rfl;have hcz111_1:w105.cell? ⟨gb398,1,none⟩=some (.int .i64 0):=(blk_cell BK398.out 1).trans rfl;have hcz111_2:w105.cell? ⟨gb398,2,none⟩=some (.int .i64 0):=(blk_cell BK398.out 2).trans rfl;have hfz111_0:=blk_frozen BK398.out 0;have hfz111_1:=blk_frozen BK398.out 1;have hfz111_2:=blk_frozen BK398.out 2))
          refine bodyPost_ret (results_cell_row rfl _ _ gb398 31 #[.slice Ao109 x409000_1.length co109,.int .i64 x409001_49,.int .i64 t406] (0,0) _ rfl (by (with_reducible repeat (first|refine yE ?_ _|refine yF ?_|refine yG ?_ _));refine blk_put (cs:=#[.slice Ao109 x409000_1.length co109,.int .i64 x409001_49,.int .i64 0]) ?_ 2 _ rfl;(with_reducible repeat (first|refine yE ?_ _|refine yF ?_|refine yG ?_ _));refine blk_put (cs:=#[.slice Ao109 x409000_1.length co109,.int .i64 0,.int .i64 0]) ?_ 1 _ rfl;(with_reducible repeat (first|refine yE ?_ _|refine yF ?_|refine yG ?_ _));refine blk_put (cs:=#[.slice none 0 0,.int .i64 0,.int .i64 0]) ?_ 0 _ rfl;(with_reducible repeat (first|refine yE ?_ _|refine yF ?_|refine yG ?_ _));exact BK398.out) Try.underlying31 rfl (by kernel_rfl)) rfl ?_
          exact ⟨_,by first|rfl|(simp [errW_none,errW_some]<;>rfl)|(simp only [← hji3,← hji5];first|rfl|(simp [errW_none,errW_some]<;>rfl))|(simp [*,errW_none,errW_some]<;>rfl),by (with_reducible repeat (first|apply yH|apply yI|apply yJ));exact Kd.R_mono (Kd.R_far (p:=⟨gb398,2,none⟩) (Kd.R_far (p:=⟨gb398,1,none⟩) (Kd.R_far (p:=⟨gb398,0,none⟩) (Kd.R_types HO_409000.out BK398.out (by decide)) (fun _ hk=>hk.2) (.slice Ao109 x409000_1.length co109)) (fun _ hk=>hk.2) (.int .i64 x409001_49)) (fun _ hk=>hk.2) (.int .i64 t406)) (fun _ hk=>trivial),by repeat (first|(with_reducible first|exact HI0.out|apply IsS74.alloc|apply IsS74.drewN|apply IsS74.drew|apply IsS74.set_1|refine IsS74.far ?_ NB0_398.out _|refine IsS74.far ?_ NB0_408.out _)|exact HI0.out),by repeat (first|(with_reducible first|exact HB.out|apply yA|apply yB|apply yC|refine yD ?_ (IsS74.ge HI0.out)|refine yD ?_ GE398.out|refine yD ?_ GE408.out)|exact HB.out),by repeat (first|(with_reducible first|exact HK.out|apply KeepBut.set_|apply keep_drewN|apply keep_drew|apply keep_alloc|refine keep_far ?_ GW398.out _|refine keep_far ?_ GW408.out _)|exact HK.out)⟩
 ·rw [if_neg c4] at H
  exact absurd H (by simp)

end Go.Proofs.Ytneadgionjlicaa.P
