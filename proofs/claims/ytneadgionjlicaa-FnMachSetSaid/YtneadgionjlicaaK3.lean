/- What these laws reach, joined by a program of this session: contracts (written by that program over the kit's print, or by hand) and plain lemmas. -/
import Derived.Test.YtneadgionjlicaaK1
import Derived.Test.YtneadgionjlicaaK2
open Go.Proofs.YtneadgionjlicaaW.PrintWords renaming below_alloc → yA, pw_below_drewN → yB, below_drew1 → yC, below_set → yD, blk_drewN → yE, blk_drew → yF, blk_alloc → yG, below_step → yP, below_size → yQ
open Go.Proofs.YtneadgionjlicaaW.PrintWords.Kd renaming R_alloc → yH, R_drewN → yI, R_drew → yJ
open List renaming setIfInBounds_toArray → yK, set_cons_zero → yL, set_cons_succ → yM
namespace Go.Proofs.Ytneadgionjlicaa.P
open Go.RowKit Go.Proofs.YtneadgionjlicaaW.PrintWords Go.Proofs.YtneadgionjlicaaW.PrintLast Go.Proofs.YtneadgionjlicaaW.PrintMore
attribute [local go_sem] max2_int min2_int max_two min_two max_three min_three max_four min_four   -- for this text's walks alone
set_option linter.unusedVariables false
set_option linter.unusedSimpArgs false

/-! ### spec_l6mSet: function 39 -/
def spec_l6mSet.l0:Nat→List Int→Int→List Bool→Int→List Int→Int→Int→Option (List Bool × List Bool)
 | 0,_,_,_,_,_,_,_=>none
 | k+1,x3,x4,x5,x6,x510000,x510001,x510002=>if x6<(x3.length:Int) then (if 0≤x6 then (if x5.length<140737488355328 then (spec_l6mSet.l0 k x3 x4 (x5++[((Go.bits .and .i64 (rd x3 x6) x510002) != 0)]) (wrap64 (x6+1)) x510000 x510001 x510002) else (none)) else (none)) else (if 0≤x4 then (if x4≤(x5.length:Int) then ((spec_l1Less.f k (x5.take (x4:Int).toNat) (x5.drop (x4:Int).toNat)).bind fun bt532=>(some (bt532.1,bt532.2))) else (none)) else (none))
def spec_l6mSet.f (k:Nat) (l0_0:List Int) (a0_1:Int) (a0_2:Int):Option (List Bool × List Bool):=(spec_l6mShape.f k l0_0 a0_1 a0_2).bind fun bt511=>(spec_l6mSet.l0 k bt511.1 bt511.2 (([]:List Bool)) 0 l0_0 a0_1 a0_2)
theorem spec_l6mSet.mono_l:∀ k,(∀ y0 y1 y2 y3 y4 y5 y6,LeO (spec_l6mSet.l0 k y0 y1 y2 y3 y4 y5 y6) (spec_l6mSet.l0 (k+1) y0 y1 y2 y3 y4 y5 y6))
 | 0=>fun _ _ _ _ _ _ _ r h=>by simp [spec_l6mSet.l0] at h
 | k+1=>by
  have ih0:=spec_l6mSet.mono_l k
  ·intro y0 y1 y2 y3 y4 y5 y6
   unfold spec_l6mSet.l0
   repeat' first
   | (with_reducible exact ih0 _ _ _ _ _ _ _)
   | (with_reducible exact spec_l1Less.mono _ _ _)
   | (with_reducible exact spec_l6mShape.mono _ _ _ _)
   | (with_reducible exact LeO.refl _)
   | (with_reducible exact LeO.none _)
   | (with_reducible refine LeO.ite ?_ ?_)
   | (with_reducible refine LeO.bind ?_ (fun _=>?_))
   | exact ih0 _ _ _ _ _ _ _
   | exact spec_l1Less.mono _ _ _
   | exact spec_l6mShape.mono _ _ _ _
   | exact LeO.none _
   | refine LeO.ite ?_ ?_
   | refine LeO.bind ?_ (fun _=>?_)
theorem spec_l6mSet.mono:∀ a0 a1 a2 k,LeO (spec_l6mSet.f k a0 a1 a2) (spec_l6mSet.f (k+1) a0 a1 a2):=by
 intro a0 a1 a2 k
 have ih0:=spec_l6mSet.mono_l k
 unfold spec_l6mSet.f
 repeat' first
   | (with_reducible exact ih0 _ _ _ _ _ _ _)
   | (with_reducible exact spec_l1Less.mono _ _ _)
   | (with_reducible exact spec_l6mShape.mono _ _ _ _)
   | (with_reducible exact LeO.refl _)
   | (with_reducible exact LeO.none _)
   | (with_reducible refine LeO.ite ?_ ?_)
   | (with_reducible refine LeO.bind ?_ (fun _=>?_))
   | exact ih0 _ _ _ _ _ _ _
   | exact spec_l1Less.mono _ _ _
   | exact spec_l6mShape.mono _ _ _ _
   | exact LeO.none _
   | refine LeO.ite ?_ ?_
   | refine LeO.bind ?_ (fun _=>?_)
def spec_l6mSet.T6:Bool × List (List Nat × List Nat):=(true,[([],[]),([],[]),([],[]),([1,2],[1,2]),([3],[3]),([],[]),([5],[5]),([4,6],[4,6]),([7],[7]),([8],[8]),([0,9],[0,9]),([10,10,0,1,2,3,4,5,6,7,8,9,10],[0,10])])
def spec_l6mSet.B6:List Nat:=[0,0,0,6,14,0,32,126,254,510,1023,2047]
theorem spec_l6mSet.tab6:rtab .any (opsOf Try.f39 6)=spec_l6mSet.T6:=by kernel_rfl
theorem spec_l6mSet.bits6:waitsOk spec_l6mSet.T6.2 spec_l6mSet.B6=true:=by kernel_rfl
def spec_l6mSet.T7:Bool × List (List Nat × List Nat):=(true,[([],[]),([],[]),([0,1],[0,1]),([],[]),([],[]),([3,4],[3,4]),([2,5],[2,5]),([6],[6]),([7,7,0,1,2,3,4,5,6,7],[7])])
def spec_l6mSet.B7:List Nat:=[0,0,3,0,0,24,63,127,255]
theorem spec_l6mSet.tab7:rtab .any (opsOf Try.f39 7)=spec_l6mSet.T7:=by kernel_rfl
theorem spec_l6mSet.bits7:waitsOk spec_l6mSet.T7.2 spec_l6mSet.B7=true:=by kernel_rfl
set_option maxHeartbeats 8000000 in
set_option maxRecDepth 100000 in
theorem spec_l6mSet.calls (k:Nat) (A0_0:Option Addr) (c0_0:Nat) (l0_0:List Int) (a0_1:Int) (a0_2:Int) (r1:List Bool) (r2:List Bool) (w:World) (hr0_0:Kd.C (Kd.int .i64) w A0_0 l0_0.length l0_0) (hc0_0:l0_0.length≤c0_0) (h:spec_l6mSet.f k l0_0 a0_1 a0_2=some (r1,r2)) :
  Calls Try.prog 39 #[.agg #[.slice A0_0 l0_0.length c0_0,.int .i64 a0_1,.int .i64 a0_2]] w fun e w'=>∃ v0_ v1_:Value,e=.returned (.agg #[v0_,v1_])∧Kd.V Kd.bool 4 w' w.heap.size (fun k_=>(w.heap.size≤k_)) v0_ r1∧Kd.V Kd.bool 4 w' w.heap.size (fun k_=>(w.heap.size≤k_)) v1_ r2∧Below w.heap.size w w':=by
 have hu31:=Try.underlying31
 have hu59:=Try.underlying59
 have HR0_0:=Aside0.mk hr0_0
 have HC0_0:=Aside0.mk hc0_0
 clear hr0_0 hc0_0
 have HB:=Aside0.mk (Below.refl w.heap.size w)
 have H:((spec_l6mShape.f k l0_0 a0_1 a0_2).bind fun bt511=>(spec_l6mSet.l0 k bt511.1 bt511.2 (([]:List Bool)) 0 l0_0 a0_1 a0_2))=some (r1,r2):=h
 clear h
 replace H:=Option.bind_eq_some_iff.mp H
 obtain ⟨⟨t511,t514⟩,A20,H⟩:=H
 replace H:(spec_l6mSet.l0 k t511 t514 (([]:List Bool)) 0 l0_0 a0_1 a0_2)=some (r1,r2):=H
 have A2:=Aside0.mk A20
 clear A20
 obtain ⟨y515,hy515⟩:∃ y_:List Bool,y_=(([]:List Bool)):=⟨_,rfl⟩
 replace H:(spec_l6mSet.l0 k t511 t514 y515 0 l0_0 a0_1 a0_2)=some (r1,r2):=by first|(rw [hy515];with_reducible exact H)|(have H2_:=(Option.bind_some _ _).symm.trans H;rw [hy515];with_reducible exact H2_)|(have H2_:=(Option.bind_some _ _).symm.trans H;with_reducible exact H2_)|with_reducible exact H|(rw [hy515];exact H)|exact H
 have Ny515:=Aside0.mk hy515
 clear hy515
 have H':=Aside0.mk H
 clear H
 go_enter Try.func39,Try.ntmps39
 go_wp2_with (first|((with_reducible refine gate_dst (N:=1) rfl ?_);refine box_event ?hg (N:=1) ?hd (cs:=#[.slice A0_0 l0_0.length c0_0,.int .i64 a0_1,.int .i64 a0_2]) (t:=31) ?hr ?_;(case hd=>rfl);(case hg=>rfl);(case hr=>first|(go_simp;done)|(go_simp;rfl));intro gb509 hg w3 hbox hb;have n0_:=Aside0.mk (yP (by repeat (first|(with_reducible first|exact HB.out|apply yA|apply yB|apply yC)|exact HB.out)) hb);have n1_:=Aside0.mk (hbox);have n2_:=Aside0.mk ((by rw [hg];exact (yQ (by repeat (first|(with_reducible first|exact HB.out|apply yA|apply yB|apply yC)|exact HB.out))):w.heap.size≤gb509));have n3_:=Aside0.mk ((by rw [hg];exact (yQ (by repeat (first|(with_reducible first|exact HB.out|apply yA|apply yB|apply yC)|exact HB.out))):w.heap.size≤gb509));clear HB;have HB:=n0_;have BK509:=n1_;have GW509:=n2_;have GE509:=n3_;clear n0_ n1_ n2_ n3_;clear hb hbox hg)|((with_reducible refine gate_dst (N:=2) rfl ?_);refine box_event ?hg (N:=2) ?hd (cs:=#[.slice none 0 0,.slice none 0 0]) (t:=59) ?hr ?_;(case hd=>rfl);(case hg=>rfl);(case hr=>first|(go_simp;done)|(go_simp;rfl));intro gb510 hg w4 hbox hb;have n0_:=Aside0.mk (blk_below (g:=gb509) (o:=.cells #[.slice A0_0 l0_0.length c0_0,.int .i64 a0_1,.int .i64 a0_2] 31 (0,0)) (by (with_reducible repeat (first|refine yE ?_ _|refine yF ?_|refine yG ?_ _));exact BK509.out) hb);have n1_:=Aside0.mk (yP (by repeat (first|(with_reducible first|exact HB.out|apply yA|apply yB|apply yC|refine yD ?_ GE509.out)|exact HB.out)) hb);have n2_:=Aside0.mk (hbox);have n3_:=Aside0.mk ((by rw [hg];exact (yQ (by repeat (first|(with_reducible first|exact HB.out|apply yA|apply yB|apply yC|refine yD ?_ GE509.out)|exact HB.out))):w.heap.size≤gb510));have n4_:=Aside0.mk ((by rw [hg];exact (yQ (by repeat (first|(with_reducible first|exact HB.out|apply yA|apply yB|apply yC|refine yD ?_ GE509.out)|exact HB.out))):w.heap.size≤gb510));have n5_:=Aside0.mk ((by rw [hg];exact Nat.ne_of_lt (blk_lt (g:=gb509) (o:=.cells #[.slice A0_0 l0_0.length c0_0,.int .i64 a0_1,.int .i64 a0_2] 31 (0,0)) (by (with_reducible repeat (first|refine yE ?_ _|refine yF ?_|refine yG ?_ _));exact BK509.out)):gb509≠gb510));have n6_:=Aside0.mk ((by rw [hg];exact Nat.ne_of_gt (blk_lt (g:=gb509) (o:=.cells #[.slice A0_0 l0_0.length c0_0,.int .i64 a0_1,.int .i64 a0_2] 31 (0,0)) (by (with_reducible repeat (first|refine yE ?_ _|refine yF ?_|refine yG ?_ _));exact BK509.out)):gb510≠gb509));clear BK509;clear HB;have BK509:=n0_;have HB:=n1_;have BK510:=n2_;have GW510:=n3_;have GE510:=n4_;have NB509_510:=n5_;have NB510_509:=n6_;clear n0_ n1_ n2_ n3_ n4_ n5_ n6_;clear hb hbox hg;have hnb5:=NB509_510.out;have hnc5:=NB510_509.out;have hcz6_0:w4.cell? ⟨gb509,0,none⟩=some (.slice A0_0 l0_0.length c0_0):=(blk_cell BK509.out 0).trans rfl;have hcz6_1:w4.cell? ⟨gb509,1,none⟩=some (.int .i64 a0_1):=(blk_cell BK509.out 1).trans rfl;have hcz6_2:w4.cell? ⟨gb509,2,none⟩=some (.int .i64 a0_2):=(blk_cell BK509.out 2).trans rfl;have hfz6_0:=blk_frozen BK509.out 0;have hfz6_1:=blk_frozen BK509.out 1;have hfz6_2:=blk_frozen BK509.out 2)|((with_reducible refine gate_callee (f:=66) rfl ?_);refine goesL_ (some 9) rfl rfl Try.func66 (by kernel_rfl) rfl #[.agg #[.slice A0_0 l0_0.length c0_0,.int .i64 a0_1,.int .i64 a0_2]] rfl (by (try simp only [List.map_toArray,List.map_cons,List.map_nil]);first|done|rfl|(simp only [List.length_drop,List.length_take];rfl)) ?_;(with_reducible refine (spec_l6mShape.calls k _ _ l0_0 a0_1 a0_2 t511 t514 _ ?side1 ?side2 A2.out).mono ?_);(case side1=>repeat (first|exact (Kd.C_below HR0_0.out HB.out)|(with_reducible refine Kd.C_alloc ?_ _)|(with_reducible refine Kd.C_drewN ?_ _)|(with_reducible refine Kd.C_drew ?_)));(case side2=>exact HC0_0.out);rintro e w7 ⟨v512,rfl,ho0,hb⟩;refine ⟨_,rfl,?_⟩;have n0_:=Aside0.mk (Kd.R_lower (Kd.R_newM (M:=fun k_=>(w.heap.size≤k_)) ho0 (yQ (by repeat (first|(with_reducible first|exact HB.out|apply yA|apply yB|apply yC|refine yD ?_ GE509.out|refine yD ?_ GE510.out)|exact HB.out))) (fun k_ h_=>h_)) (yQ (by repeat (first|(with_reducible first|exact HB.out|apply yA|apply yB|apply yC|refine yD ?_ GE509.out|refine yD ?_ GE510.out)|exact HB.out))));have n1_:=Aside0.mk (blk_below (g:=gb509) (o:=.cells #[.slice A0_0 l0_0.length c0_0,.int .i64 a0_1,.int .i64 a0_2] 31 (0,0)) (by (with_reducible repeat (first|refine yE ?_ _|refine yF ?_|refine yG ?_ _));exact BK509.out) hb);have n2_:=Aside0.mk (blk_below (g:=gb510) (o:=.cells #[.slice none 0 0,.slice none 0 0] 59 (0,0)) (by (with_reducible repeat (first|refine yE ?_ _|refine yF ?_|refine yG ?_ _));exact BK510.out) hb);have n3_:=Aside0.mk (yP (by repeat (first|(with_reducible first|exact HB.out|apply yA|apply yB|apply yC|refine yD ?_ GE509.out|refine yD ?_ GE510.out)|exact HB.out)) hb);clear BK509;clear BK510;clear HB;have HO513:=n0_;have BK509:=n1_;have BK510:=n2_;have HB:=n3_;clear n0_ n1_ n2_ n3_;(try clear hb);(try clear hb2);(try clear hk);(try clear hi);(try clear ho0))|((with_reducible refine gate_dst (N:=12) rfl ?_);refine Kd.R_lit Kd.bool _ 4 ?hg (N:=12) ?hd (xs:=([]:List Bool)) (inner:=[]) (ok:=fun _=>True) (okp:=fun _=>True) ?hr ?hp (fun _ hk=>hk) trivial (Below.refl _ _) (Nat.le_refl _) (by simp) ?_;(case hd=>rfl);(case hg=>rfl);(case hr=>first|(go_simp;done)|(go_simp;rfl));(case hp=>exact (Reps.none _ _));intro v516 w8 ho9 hb hg_ hnew_;clear hg_ hnew_;(first|rw [← Ny515.out] at ho9|(simp only [Int.reduceToNat] at ho9;rw [← Ny515.out] at ho9));have n0_:=Aside0.mk (Kd.R_below (by (with_reducible repeat (first|apply yH|apply yI|apply yJ));exact HO513.out) hb);have n1_:=Aside0.mk (Kd.R_lower (Kd.R_newM (M:=fun k_=>(w.heap.size≤k_)) ho9 (yQ (by repeat (first|(with_reducible first|exact HB.out|apply yA|apply yB|apply yC|refine yD ?_ GE509.out|refine yD ?_ GE510.out)|exact HB.out))) (fun k_ h_=>h_)) (yQ (by repeat (first|(with_reducible first|exact HB.out|apply yA|apply yB|apply yC|refine yD ?_ GE509.out|refine yD ?_ GE510.out)|exact HB.out))));have n2_:=Aside0.mk (blk_below (g:=gb509) (o:=.cells #[.slice A0_0 l0_0.length c0_0,.int .i64 a0_1,.int .i64 a0_2] 31 (0,0)) (by (with_reducible repeat (first|refine yE ?_ _|refine yF ?_|refine yG ?_ _));exact BK509.out) hb);have n3_:=Aside0.mk (blk_below (g:=gb510) (o:=.cells #[.slice none 0 0,.slice none 0 0] 59 (0,0)) (by (with_reducible repeat (first|refine yE ?_ _|refine yF ?_|refine yG ?_ _));exact BK510.out) hb);have n4_:=Aside0.mk (yP (by repeat (first|(with_reducible first|exact HB.out|apply yA|apply yB|apply yC|refine yD ?_ GE509.out|refine yD ?_ GE510.out)|exact HB.out)) hb);clear HO513;clear BK509;clear BK510;clear HB;have HO513:=n0_;have HO517:=n1_;have BK509:=n2_;have BK510:=n3_;have HB:=n4_;clear n0_ n1_ n2_ n3_ n4_;clear hb ho9))
 go_loopg [5,6] k (fun kq v5 v6 w'=>∃ (x5_1:List Bool) (x6_1:Int),v6=.int .i64 x6_1∧Aside0 (spec_l6mSet.l0 kq t511 t514 x5_1 x6_1 l0_0 a0_1 a0_2=some (r1,r2))∧Aside0 (kq≤k)∧Aside0 (Kd.R (Kd.int .i64) 3 w' w.heap.size (fun k_=>(w.heap.size≤k_)) v512 t511)∧Aside0 (Kd.R Kd.bool 4 w' w.heap.size (fun k_=>(w.heap.size≤k_)) v5 x5_1)∧Aside0 (w'.heap[gb509]?=some (.cells #[(.slice A0_0 l0_0.length c0_0),.int .i64 a0_1,.int .i64 a0_2] 31 (0,0)))∧Aside0 (w'.heap[gb510]?=some (.cells #[(.slice none 0 0),(.slice none 0 0)] 59 (0,0)))∧Aside0 (Below w.heap.size w w'))
 case atStart=>exact ⟨(y515),(0),(by first|rfl|(simp;done)|(simp [*];done)|(simp [Int.tmod_eq_emod_of_nonneg];done)),H',⟨Nat.le_refl _⟩,⟨by (with_reducible repeat (first|apply yH|apply yI|apply yJ));exact Kd.R_mono HO513.out (fun _ hk=>hk.1)⟩,⟨by (with_reducible repeat (first|apply yH|apply yI|apply yJ));exact Kd.R_mono HO517.out (fun _ hk=>hk.1)⟩,⟨by (with_reducible repeat (first|refine yE ?_ _|refine yF ?_|refine yG ?_ _));exact BK509.out⟩,⟨by (with_reducible repeat (first|refine yE ?_ _|refine yF ?_|refine yG ?_ _));exact BK510.out⟩,⟨by repeat (first|(with_reducible first|exact HB.out|apply yA|apply yB|apply yC|refine yD ?_ GE509.out|refine yD ?_ GE510.out)|exact HB.out)⟩⟩
 case round =>
  clear H'
  try clear p2
  try clear c3
  try clear c5
  try clear c6
  try clear hcz6_0
  try clear hcz6_1
  try clear hcz6_2
  try clear hfz6_0
  try clear hfz6_1
  try clear hfz6_2
  obtain ⟨x5_1,x6_1,rfl,HA,HK1,HO_3,HO_5,BK509,BK510,HB⟩:=hrel
  cases gk with
  | zero=>exact absurd HA.out (by simp [spec_l6mSet.l0])
  | succ k1 =>
   have H:=HA.out
   clear HA
   simp only [spec_l6mSet.l0] at H
   by_cases c10:x6_1<(t511.length:Int)
   ·rw [if_pos c10] at H
    have c10b0:decide (x6_1<(t511.length:Int))=true:=decide_eq_true c10
    clear c10
    by_cases c11:0≤x6_1
    ·rw [if_pos c11] at H
     have c11b0:decide (0≤x6_1)=true:=decide_eq_true c11
     clear c11
     by_cases c12:x5_1.length<140737488355328
     ·rw [if_pos c12] at H
      have LMc12:=Aside0.mk c12
      clear c12
      obtain ⟨y519,hy519⟩:∃ y_:List Bool,y_=(x5_1++[((Go.bits .and .i64 (rd t511 x6_1) a0_2) != 0)]):=⟨_,rfl⟩
      replace H:(spec_l6mSet.l0 k1 t511 t514 y519 (wrap64 (x6_1+1)) l0_0 a0_1 a0_2)=some (r1,r2):=by first|(rw [hy519];with_reducible exact H)|(have H2_:=(Option.bind_some _ _).symm.trans H;rw [hy519];with_reducible exact H2_)|(have H2_:=(Option.bind_some _ _).symm.trans H;with_reducible exact H2_)|with_reducible exact H|(rw [hy519];exact H)|exact H
      have Ny519:=Aside0.mk hy519
      clear hy519
      have H':=Aside0.mk H
      clear H
      obtain ⟨Ao13,co13,eo13⟩:=Kd.R_slice HO_3.out
      subst eo13
      try go_wp2
      have n0_:=Aside0.mk (yJ HO_3.out)
      have n1_:=Aside0.mk (yJ HO_5.out)
      have n2_:=Aside0.mk (yF BK509.out)
      have n3_:=Aside0.mk (yF BK510.out)
      have n4_:=Aside0.mk (yC HB.out)
      clear HO_3
      clear HO_5
      clear BK509
      clear BK510
      clear HB
      have HO_3:=n0_
      have HO_5:=n1_
      have BK509:=n2_
      have BK510:=n3_
      have HB:=n4_
      clear n0_ n1_ n2_ n3_ n4_
      have p518:0≤(x6_1:Int):=of_decide_eq_true (by first|(with_reducible assumption)|assumption)
      have q518:x6_1<(t511.length:Int):=of_decide_eq_true (by first|(with_reducible assumption)|assumption)
      obtain ⟨ad518,e518,hx518_0⟩:=Kd.at_int (Kd.R_reads' HO_3.out).2.2 x6_1 p518 q518
      cases e518
      replace p518:=eq_true p518
      replace q518:=eq_true q518
      refine start_ (n:=12) (S:=fun w'=>w'.cell? ⟨gb509,0,none⟩=some (.slice A0_0 l0_0.length c0_0)∧w'.cell? ⟨gb509,1,none⟩=some (.int .i64 a0_1)∧w'.cell? ⟨gb509,2,none⟩=some (.int .i64 a0_2)∧w'.cell? (ad518.add (x6_1).toNat)=some (.int .i64 (rd t511 x6_1))) (ds:=[9,10]) #[false,false,false,false,false,false,false,false,false,false,false,false] (by kernel_rfl) rfl rfl ⟨(blk_cell BK509.out 0).trans rfl,(blk_cell BK509.out 1).trans rfl,(blk_cell BK509.out 2).trans rfl,hx518_0⟩ (fun hHeld=>?_);refine with_tabW spec_l6mSet.tab6 spec_l6mSet.bits6 (fun HT_ HW_=>?_)
      generalize wr.drew=w14 at HO_3 HO_5 BK509 BK510 HB hx518_0 hHeld ⊢
      refine pure_ (i:=0) (N:=some 19) (v:=?_) (a':=?_) #[true,false,false,false,false,false,false,false,false,false,false,false] rfl rfl (any_of HT_.out (by kernel_rfl)) (fun _ _ _ h=>h) (Or.inl ⟨by rfl,?_⟩) ?_ ?_
      rotate_left
      ·intro w'
       go_simp
       with_reducible rfl
      rotate_left
      ·simp only [Act.put,yK,yL,yM,i64_w,i32_w]
       rfl
      refine pure_ (i:=1) (N:=some 20) (v:=?_) (a':=?_) #[true,true,false,false,false,false,false,false,false,false,false,false] rfl rfl (any_of HT_.out (by kernel_rfl)) (fun _ _ _ h=>h) (Or.inl ⟨by rfl,?_⟩) ?_ ?_
      rotate_left
      ·intro w'
       go_simp
       with_reducible rfl
      rotate_left
      ·simp only [Act.put,yK,yL,yM,i64_w,i32_w]
       rfl
      refine pure_ (i:=2) (N:=some 21) (v:=?_) (a':=?_) #[true,true,true,false,false,false,false,false,false,false,false,false] rfl rfl (any_of HT_.out (by kernel_rfl)) (fun _ _ _ h=>h) (Or.inl ⟨by rfl,?_⟩) ?_ ?_
      rotate_left
      ·intro w'
       go_simp
       with_reducible rfl
      rotate_left
      ·simp only [Act.put,yK,yL,yM,i64_w,i32_w]
       rfl
      refine pure_ (i:=3) (N:=some 22) (v:=?_) (a':=?_) #[true,true,true,true,false,false,false,false,false,false,false,false] rfl rfl (any_of HT_.out (by kernel_rfl)) (fun _ _ _ h=>h) (Or.inl ⟨by rfl,?_⟩) ?_ ?_
      rotate_left
      ·intro w'
       go_simp
       with_reducible rfl
      rotate_left
      ·simp only [Act.put,yK,yL,yM,i64_w,i32_w]
       rfl
      refine pure_ (i:=5) (N:=some 24) (v:=?_) (a':=?_) #[true,true,true,true,false,true,false,false,false,false,false,false] rfl rfl (any_of HT_.out (by kernel_rfl)) (fun _ _ _ h=>h) (Or.inl ⟨by rfl,?_⟩) ?_ ?_
      rotate_left
      ·intro w'
       go_simp
       with_reducible rfl
      rotate_left
      ·simp only [Act.put,yK,yL,yM,i64_w,i32_w]
       rfl
      refine take_ (i:=4) (N:=some 23) (v:=?_) (a':=?_) #[true,true,true,true,true,true,false,false,false,false,false,false] rfl rfl (take_ofW HT_.out HW_.out (by kernel_rfl)) (fun _ _ _ h=>h) (Or.inl ⟨by rfl,?_⟩) hHeld ?_ ?_
      rotate_left
      ·rintro w' ⟨s0,s1,s2,s3⟩
       go_simp
       with_reducible rfl
      rotate_left
      ·simp only [Act.put,yK,yL,yM,i64_w,i32_w]
       rfl
      refine take_ (i:=6) (N:=some 25) (v:=?_) (a':=?_) #[true,true,true,true,true,true,true,false,false,false,false,false] rfl rfl (take_ofW HT_.out HW_.out (by kernel_rfl)) (fun _ _ _ h=>h) (Or.inl ⟨by rfl,?_⟩) hHeld ?_ ?_
      rotate_left
      ·rintro w' ⟨s0,s1,s2,s3⟩
       go_simp
       with_reducible rfl
      rotate_left
      ·simp only [Act.put,yK,yL,yM,i64_w,i32_w]
       rfl
      refine pure_ (i:=7) (N:=some 26) (v:=?_) (a':=?_) #[true,true,true,true,true,true,true,true,false,false,false,false] rfl rfl (any_of HT_.out (by kernel_rfl)) (fun _ _ _ h=>h) (Or.inl ⟨by rfl,?_⟩) ?_ ?_
      rotate_left
      ·intro w'
       go_simp
       with_reducible rfl
      rotate_left
      ·simp only [Act.put,yK,yL,yM,i64_w,i32_w]
       rfl
      refine pure_ (i:=8) (N:=some 27) (v:=?_) (a':=?_) #[true,true,true,true,true,true,true,true,true,false,false,false] rfl rfl (any_of HT_.out (by kernel_rfl)) (fun _ _ _ h=>h) (Or.inl ⟨by rfl,?_⟩) ?_ ?_
      rotate_left
      ·intro w'
       go_simp
       with_reducible rfl
      rotate_left
      ·simp only [Act.put,yK,yL,yM,i64_w,i32_w]
       rfl
      refine last_ (i:=9) (N:=some 28) #[true,true,true,true,true,true,true,true,true,true,false,false] rfl rfl (one_of HT_.out (by kernel_rfl)) (by decide) (fun K hK=>?_)
      refine value_ (w1:=?_) (v:=?_) (by rfl) rfl ?_ ?_
      rotate_left 2
      ·go_simp
       constructor
       ·rfl
       ·rfl
      refine hK.out _ _ ?_
      clear hK K
      refine norm_ (a':=?_) ?_ ?_
      rotate_left
      ·show Act.put _ (some 28) _=_
       simp only [Act.put,yK,yL,yM,i64_w,i32_w]
       rfl
      refine last_ (i:=10) (N:=some 29) #[true,true,true,true,true,true,true,true,true,true,true,false] rfl rfl (one_of HT_.out (by kernel_rfl)) (by decide) (fun K hK=>?_)
      refine Kd.R_append_step Kd.bool (w0:=w) w.heap.size (by rfl) (.tmp 19) (.tmp 28) 46 4 (.bool false) 1 rfl Try.underlying46 info4 rfl (by decide) (by omega) u5 x5_1 ((Go.bits .and .i64 (rd t511 x6_1) a0_2) != 0) [.bool ((Go.bits .and .i64 (rd t511 x6_1) a0_2) != 0)] (fun k_=>(w.heap.size≤k_)) (fun _=>False) rfl rfl ?aP (fun _ hk=>hk.elim) ?aF ?aO ?aB ?aS ?aL ?_
      (case aP=>exact rfl)
      (case aB=>exact (by repeat (first|(with_reducible first|exact HB.out|apply yA|apply yB|apply yC|refine yD ?_ GE509.out|refine yD ?_ GE510.out)|exact HB.out)))
      (case aF=>exact (fun k_ hk=>(Nat.le_trans (yQ (by repeat (first|(with_reducible first|exact HB.out|apply yA|apply yB|apply yC|refine yD ?_ GE509.out|refine yD ?_ GE510.out)|exact HB.out))) hk)))
      (case aO=>exact (by (with_reducible repeat (first|apply yH|apply yI|apply yJ));exact HO_5.out))
      (case aS=>exact (yQ (by repeat (first|(with_reducible first|exact HB.out|apply yA|apply yB|apply yC|refine yD ?_ GE509.out|refine yD ?_ GE510.out)|exact HB.out))))
      (case aL=>have:=LMc12.out;omega)
      intro v520 w15 ho hb hg hat
      rw [← Ny519.out] at ho
      have n0_:=Aside0.mk (Kd.R_over' (by (with_reducible repeat (first|apply yH|apply yI|apply yJ));exact HO_3.out) (Kd.R_typed (by (with_reducible repeat (first|apply yH|apply yI|apply yJ));exact HO_5.out)) (by decide) hg)
      have n1_:=Aside0.mk (blk_grown (g:=gb509) (o:=.cells #[.slice A0_0 l0_0.length c0_0,.int .i64 a0_1,.int .i64 a0_2] 31 (0,0)) (by (with_reducible repeat (first|refine yE ?_ _|refine yF ?_|refine yG ?_ _));exact BK509.out) hg (Kd.R_ne HO_5.out BK509.out (by decide)))
      have n2_:=Aside0.mk (blk_grown (g:=gb510) (o:=.cells #[.slice none 0 0,.slice none 0 0] 59 (0,0)) (by (with_reducible repeat (first|refine yE ?_ _|refine yF ?_|refine yG ?_ _));exact BK510.out) hg (Kd.R_ne HO_5.out BK510.out (by decide)))
      have n3_:=Aside0.mk (hb)
      have n4_:=Aside0.mk (ho)
      clear HO_3
      clear BK509
      clear BK510
      clear HB
      clear HO_5
      have HO_3:=n0_
      have BK509:=n1_
      have BK510:=n2_
      have HB:=n3_
      have HO521:=n4_
      clear n0_ n1_ n2_ n3_ n4_
      clear ho hb hg hat
      refine hK.out _ _ ?_
      clear hK K
      refine norm_ (a':=?_) ?_ ?_
      rotate_left
      ·show Act.put _ (some 29) _=_
       simp only [Act.put,yK,yL,yM,i64_w,i32_w]
       rfl
      refine pure_ (i:=11) (N:=some 5) (v:=?_) (a':=?_) #[true,true,true,true,true,true,true,true,true,true,true,true] rfl rfl (any_of HT_.out (by kernel_rfl)) (fun _ _ _ h=>h) (Or.inl ⟨by rfl,?_⟩) ?_ ?_
      rotate_left
      ·intro w'
       go_simp
       with_reducible rfl
      rotate_left
      ·simp only [Act.put,yK,yL,yM,i64_w,i32_w]
       rfl
      refine done_ (done_of HT_.out (by kernel_rfl)) ?_
      try go_wp2
      go_roundg k1
      case measure=>have:=HK1.out;omega
      case rel=>exact ⟨(y519),(wrap64 (x6_1+1)),(by first|rfl|(simp;done)|(simp [*];done)|(simp [Int.tmod_eq_emod_of_nonneg];done)),H',⟨by have:=HK1.out;omega⟩,⟨by (with_reducible repeat (first|apply yH|apply yI|apply yJ));exact HO_3.out⟩,⟨by (with_reducible repeat (first|apply yH|apply yI|apply yJ));exact HO521.out⟩,⟨by (with_reducible repeat (first|refine yE ?_ _|refine yF ?_|refine yG ?_ _));exact BK509.out⟩,⟨by (with_reducible repeat (first|refine yE ?_ _|refine yF ?_|refine yG ?_ _));exact BK510.out⟩,⟨by repeat (first|(with_reducible first|exact HB.out|apply yA|apply yB|apply yC|refine yD ?_ GE509.out|refine yD ?_ GE510.out)|exact HB.out)⟩⟩
     ·rw [if_neg c12] at H
      exact absurd H (by simp)
    ·rw [if_neg c11] at H
     exact absurd H (by simp)
   ·rw [if_neg c10] at H
    have c10b0:decide (x6_1<(t511.length:Int))=false:=decide_eq_false c10
    clear c10
    by_cases c16:0≤t514
    ·rw [if_pos c16] at H
     have c16b0:=eq_true c16
     have c16b1:decide (0≤t514)=true:=decide_eq_true c16
     clear c16
     by_cases c17:t514≤(x5_1.length:Int)
     ·rw [if_pos c17] at H
      have c17b0:=eq_true c17
      have c17b1:decide (t514≤(x5_1.length:Int))=true:=decide_eq_true c17
      clear c17
      obtain ⟨y522,hy522⟩:∃ y_:List Bool,y_=(x5_1.take (t514:Int).toNat):=⟨_,rfl⟩
      replace H:((spec_l1Less.f k1 y522 (x5_1.drop (t514:Int).toNat)).bind fun bt532=>(some (bt532.1,bt532.2)))=some (r1,r2):=by first|(rw [hy522];with_reducible exact H)|(have H2_:=(Option.bind_some _ _).symm.trans H;rw [hy522];with_reducible exact H2_)|(have H2_:=(Option.bind_some _ _).symm.trans H;with_reducible exact H2_)|with_reducible exact H|(rw [hy522];exact H)|exact H
      have Ny522:=Aside0.mk hy522
      clear hy522
      have c18b0:=eq_true (of_decide_eq_true (by first|(with_reducible assumption)|assumption):0≤t514)
      have c19b0:=eq_true (of_decide_eq_true (by first|(with_reducible assumption)|assumption):t514≤(x5_1.length:Int))
      obtain ⟨y527,hy527⟩:∃ y_:List Bool,y_=(x5_1.drop (t514:Int).toNat):=⟨_,rfl⟩
      replace H:((spec_l1Less.f k1 y522 y527).bind fun bt532=>(some (bt532.1,bt532.2)))=some (r1,r2):=by first|(rw [hy527];with_reducible exact H)|(have H2_:=(Option.bind_some _ _).symm.trans H;rw [hy527];with_reducible exact H2_)|(have H2_:=(Option.bind_some _ _).symm.trans H;with_reducible exact H2_)|with_reducible exact H|(rw [hy527];exact H)|exact H
      have Ny527:=Aside0.mk hy527
      clear hy527
      replace H:=Option.bind_eq_some_iff.mp H
      obtain ⟨⟨t532,t535⟩,A200,H⟩:=H
      replace H:(some (t532,t535))=some (r1,r2):=H
      have A20:=Aside0.mk A200
      clear A200
      simp only [Option.some.injEq,Prod.mk.injEq] at H
      obtain ⟨rfl,rfl⟩:=H
      obtain ⟨Ao21,co21,eo21⟩:=Kd.R_slice HO_3.out
      subst eo21
      try go_wp2
      have n0_:=Aside0.mk (yJ HO_3.out)
      have n1_:=Aside0.mk (yJ HO_5.out)
      have n2_:=Aside0.mk (yF BK509.out)
      have n3_:=Aside0.mk (yF BK510.out)
      have n4_:=Aside0.mk (yC HB.out)
      clear HO_3
      clear HO_5
      clear BK509
      clear BK510
      clear HB
      have HO_3:=n0_
      have HO_5:=n1_
      have BK509:=n2_
      have BK510:=n3_
      have HB:=n4_
      clear n0_ n1_ n2_ n3_ n4_
      obtain ⟨Ao24,co24,eo24⟩:=Kd.R_slice HO_5.out
      (first|subst eo24|(injection eo24 with f1_ f2_ f3_;have f4_:=f1_.symm;have f5_:=f3_.symm;clear f1_ f2_ f3_;subst f4_;subst f5_))
      have q23:(t514:Int)≤((x5_1.length:Int):Int):=of_decide_eq_true (by first|(with_reducible assumption)|assumption)
      obtain ⟨i023,hi023,_,hsz23,_⟩:=info_parts info4
      have hroom23:x5_1.length≤co24:=(Kd.R_reads' HO_5.out).2.1
      have hC23:Kd.F Kd.bool _ _ Ao24 x5_1.length x5_1:=(Kd.V_at (base:=w.heap.size) (Kd.R_V (Kd.R_types (Kd.R_types (Kd.R_apart' (HO_5.out) (Kd.R_typed HO_3.out) (by decide)) BK509.out (by decide)) BK510.out (by decide)))).2.2
      have hcut23:=cut_to (P:=Try.prog) 46 4 .i64 Try.underlying46 hi023 Ao24 x5_1.length co24 t514 (of_decide_eq_true (by first|(with_reducible assumption)|assumption)) q23 hroom23
      have hr23:=Kd.F_take (m:=(t514:Int).toNat) hC23 (by omega)
      have hy23:y522.length=(t514:Int).toNat:=(by rw [Ny522.out,List.length_take];omega)
      rw [← Ny522.out] at hr23
      rw [← hy23] at hcut23
      have HO526:=Aside0.mk (show Kd.V Kd.bool 4 _ w.heap.size _ (.slice Ao24 y522.length co24) y522 from Kd.V_mk (by omega) hr23)
      have HC526:=Aside0.mk (show y522.length≤co24 from by omega)
      clear hr23 hC23 hroom23 hi023 hsz23
      have KY23:=Aside0.mk hy23
      clear hy23
      replace q23:=eq_true q23
      have q25:(t514:Int)≤((x5_1.length:Int):Int):=of_decide_eq_true (by first|(with_reducible assumption)|assumption)
      obtain ⟨i025,hi025,_,hsz25,_⟩:=info_parts info4
      have hroom25:x5_1.length≤co24:=(Kd.R_reads' HO_5.out).2.1
      have hC25:Kd.F Kd.bool _ _ Ao24 x5_1.length x5_1:=(Kd.V_at (base:=w.heap.size) (Kd.R_V (Kd.R_types (Kd.R_types (Kd.R_apart' (HO_5.out) (Kd.R_typed HO_3.out) (by decide)) BK509.out (by decide)) BK510.out (by decide)))).2.2
      have q025:(0:Int)≤(t514:Int):=of_decide_eq_true (by first|(with_reducible assumption)|assumption)
      have hcut25:=cut_from (P:=Try.prog) 46 4 .i64 Try.underlying46 hi025 1 hsz25 Ao24 x5_1.length co24 t514 q025 q25
      have hr25:=Kd.F_cut (m:=(t514:Int).toNat) (c:=co24) hC25 (by omega) hroom25
      obtain ⟨A25,hA25⟩:∃ A1,A1=(if co24=(t514:Int).toNat then Ao24 else (Ao24:Option Addr).map (·.add ((t514:Int).toNat * 1))):=⟨_,rfl⟩
      obtain ⟨c25,hc25⟩:∃ c1,c1=co24 - (t514:Int).toNat:=⟨_,rfl⟩
      have hy25:y527.length=x5_1.length - (t514:Int).toNat:=(by rw [Ny527.out,List.length_drop]<;>omega)
      rw [show (x5_1).drop (t514:Int).toNat=y527 from Ny527.out.symm] at hr25
      replace hr25:Kd.F Kd.bool _ _ A25 y527.length y527:=(by rw [hA25];exact hr25)
      rw [← hy25,← hA25,← hc25] at hcut25
      have HO531:=Aside0.mk (show Kd.V Kd.bool 4 _ w.heap.size _ (.slice A25 y527.length c25) y527 from Kd.V_mk (by rw [hy25,hc25];exact Nat.sub_le_sub_right hroom25 _) hr25)
      have HC531:=Aside0.mk (show y527.length≤c25 from by rw [hy25,hc25];exact Nat.sub_le_sub_right hroom25 _)
      clear hr25 hC25 hroom25 hi025 hsz25 hc25
      have KY25:=Aside0.mk hy25
      have KA25:=Aside0.mk hA25
      clear hy25 hA25
      replace q25:=eq_true q25
      refine start_ (n:=9) (S:=fun w'=>True) (ds:=[]) #[false,false,false,false,false,false,false,false,false] (by kernel_rfl) rfl rfl trivial (fun hHeld=>?_);refine with_tabW spec_l6mSet.tab7 spec_l6mSet.bits7 (fun HT_ HW_=>?_)
      generalize wr.drew=w22 at HO_3 HO_5 BK509 BK510 HB HO526 HO531 hHeld ⊢
      refine pure_ (i:=0) (N:=some 30) (v:=?_) (a':=?_) #[true,false,false,false,false,false,false,false,false] rfl rfl (any_of HT_.out (by kernel_rfl)) (fun _ _ _ h=>h) (Or.inl ⟨by rfl,?_⟩) ?_ ?_
      rotate_left
      ·intro w'
       go_simp
       with_reducible rfl
      rotate_left
      ·simp only [Act.put,yK,yL,yM,i64_w,i32_w]
       rfl
      refine pure_ (i:=1) (N:=some 31) (v:=?_) (a':=?_) #[true,true,false,false,false,false,false,false,false] rfl rfl (any_of HT_.out (by kernel_rfl)) (fun _ _ _ h=>h) (Or.inl ⟨by rfl,?_⟩) ?_ ?_
      rotate_left
      ·intro w'
       go_simp
       with_reducible rfl
      rotate_left
      ·simp only [Act.put,yK,yL,yM,i64_w,i32_w]
       rfl
      refine pure_ (i:=2) (N:=some 32) (v:=?_) (a':=?_) #[true,true,true,false,false,false,false,false,false] rfl rfl (any_of HT_.out (by kernel_rfl)) (fun _ _ _ h=>h) (Or.inl ⟨by rfl,?_⟩) ?_ ?_
      rotate_left
      ·intro w'
       go_simp
       with_reducible rfl
      rotate_left
      ·simp only [Act.put,yK,yL,yM,i64_w,i32_w]
       rfl
      refine pure_ (i:=3) (N:=some 33) (v:=?_) (a':=?_) #[true,true,true,true,false,false,false,false,false] rfl rfl (any_of HT_.out (by kernel_rfl)) (fun _ _ _ h=>h) (Or.inl ⟨by rfl,?_⟩) ?_ ?_
      rotate_left
      ·intro w'
       go_simp
       with_reducible rfl
      rotate_left
      ·simp only [Act.put,yK,yL,yM,i64_w,i32_w]
       rfl
      refine pure_ (i:=4) (N:=some 34) (v:=?_) (a':=?_) #[true,true,true,true,true,false,false,false,false] rfl rfl (any_of HT_.out (by kernel_rfl)) (fun _ _ _ h=>h) (Or.inl ⟨by rfl,?_⟩) ?_ ?_
      rotate_left
      ·intro w'
       go_simp
       with_reducible rfl
      rotate_left
      ·simp only [Act.put,yK,yL,yM,i64_w,i32_w]
       rfl
      refine pure_ (i:=5) (N:=some 35) (v:=?_) (a':=?_) #[true,true,true,true,true,true,false,false,false] rfl rfl (any_of HT_.out (by kernel_rfl)) (fun _ _ _ h=>h) (Or.inl ⟨by rfl,?_⟩) ?_ ?_
      rotate_left
      ·intro w'
       go_simp
       with_reducible rfl
      rotate_left
      ·simp only [Act.put,yK,yL,yM,i64_w,i32_w]
       rfl
      refine pure_ (i:=6) (N:=some 36) (v:=?_) (a':=?_) #[true,true,true,true,true,true,true,false,false] rfl rfl (any_of HT_.out (by kernel_rfl)) (fun _ _ _ h=>h) (Or.inl ⟨by rfl,?_⟩) ?_ ?_
      rotate_left
      ·intro w'
       go_simp
       with_reducible rfl
      rotate_left
      ·simp only [Act.put,yK,yL,yM,i64_w,i32_w]
       rfl
      refine one_ (i:=7) (N:=some 37) #[true,true,true,true,true,true,true,true,false] rfl rfl (one_of HT_.out (by kernel_rfl)) (by decide) (fun K hK=>?_)
      refine goes_ Try.func61 (by kernel_rfl) rfl #[.agg #[.slice Ao24 y522.length co24,.slice A25 y527.length c25]] (by rfl) rfl rfl (by (try simp only [List.map_toArray,List.map_cons,List.map_nil]);first|done|rfl|(simp only [List.length_drop,List.length_take];rfl)) ?_
      with_reducible refine (spec_l1Less.calls k1 (fun k_=>((((w.heap.size≤k_)∧some k_≠(.slice Ao21 t511.length co21:Value).ownBlock)∧k_≠gb509)∧k_≠gb510)) _ _ y522 (fun k_=>((((w.heap.size≤k_)∧some k_≠(.slice Ao21 t511.length co21:Value).ownBlock)∧k_≠gb509)∧k_≠gb510)) _ _ y527 t532 t535 _ ?side1 ?side2 A20.out).mono ?_
      (case side1=>exact HO526.out)
      (case side2=>exact HO531.out)
      rintro e w26 ⟨v533,v536,rfl,ho0,ho1,hb⟩
      refine ⟨_,rfl,?_⟩
      have n0_:=Aside0.mk (Kd.R_below (by (with_reducible repeat (first|apply yH|apply yI|apply yJ));exact HO_3.out) hb)
      have n1_:=Aside0.mk (Kd.R_below (by (with_reducible repeat (first|apply yH|apply yI|apply yJ));exact HO_5.out) hb)
      have n2_:=Aside0.mk (Kd.V_below (by (with_reducible repeat (first|apply Kd.V_alloc|apply Kd.V_drewN|apply Kd.V_drew));exact HO526.out) hb)
      have n3_:=Aside0.mk (Kd.V_below (by (with_reducible repeat (first|apply Kd.V_alloc|apply Kd.V_drewN|apply Kd.V_drew));exact HO531.out) hb)
      have n4_:=Aside0.mk (Kd.V_lower (Kd.V_mono (ok':=fun k_=>(w.heap.size≤k_)∧some k_≠(.slice Ao21 t511.length co21:Value).ownBlock∧k_≠gb509∧k_≠gb510) ho0 (fun k_ hk_=>⟨Or.elim hk_ (fun hs_=>Or.elim hs_ (fun hs_=>hs_.1.1.1) (fun hs_=>hs_.1.1.1)) (fun hn_=>(Nat.le_trans (yQ (by repeat (first|(with_reducible first|exact HB.out|apply yA|apply yB|apply yC|refine yD ?_ GE509.out|refine yD ?_ GE510.out)|exact HB.out))) hn_)),Or.elim hk_ (fun hs_=>Or.elim hs_ (fun hs_=>hs_.1.1.2) (fun hs_=>hs_.1.1.2)) (fun hn_=>(Kd.fresh' (Kd.R_lt (by (with_reducible repeat (first|apply yH|apply yI|apply yJ));exact HO_3.out)) k_ hn_)),Or.elim hk_ (fun hs_=>Or.elim hs_ (fun hs_=>hs_.1.2) (fun hs_=>hs_.1.2)) (fun hn_=>(Kd.freshB (g:=gb509) (o:=.cells #[.slice A0_0 l0_0.length c0_0,.int .i64 a0_1,.int .i64 a0_2] 31 (0,0)) (by (with_reducible repeat (first|refine yE ?_ _|refine yF ?_|refine yG ?_ _));exact BK509.out) k_ hn_)),Or.elim hk_ (fun hs_=>Or.elim hs_ (fun hs_=>hs_.2) (fun hs_=>hs_.2)) (fun hn_=>(Kd.freshB (g:=gb510) (o:=.cells #[.slice none 0 0,.slice none 0 0] 59 (0,0)) (by (with_reducible repeat (first|refine yE ?_ _|refine yF ?_|refine yG ?_ _));exact BK510.out) k_ hn_))⟩)) (yQ (by repeat (first|(with_reducible first|exact HB.out|apply yA|apply yB|apply yC|refine yD ?_ GE509.out|refine yD ?_ GE510.out)|exact HB.out))))
      have n5_:=Aside0.mk (Kd.V_lower (Kd.V_mono (ok':=fun k_=>(w.heap.size≤k_)∧some k_≠(.slice Ao21 t511.length co21:Value).ownBlock∧k_≠gb509∧k_≠gb510) ho1 (fun k_ hk_=>⟨Or.elim hk_ (fun hs_=>Or.elim hs_ (fun hs_=>hs_.1.1.1) (fun hs_=>hs_.1.1.1)) (fun hn_=>(Nat.le_trans (yQ (by repeat (first|(with_reducible first|exact HB.out|apply yA|apply yB|apply yC|refine yD ?_ GE509.out|refine yD ?_ GE510.out)|exact HB.out))) hn_)),Or.elim hk_ (fun hs_=>Or.elim hs_ (fun hs_=>hs_.1.1.2) (fun hs_=>hs_.1.1.2)) (fun hn_=>(Kd.fresh' (Kd.R_lt (by (with_reducible repeat (first|apply yH|apply yI|apply yJ));exact HO_3.out)) k_ hn_)),Or.elim hk_ (fun hs_=>Or.elim hs_ (fun hs_=>hs_.1.2) (fun hs_=>hs_.1.2)) (fun hn_=>(Kd.freshB (g:=gb509) (o:=.cells #[.slice A0_0 l0_0.length c0_0,.int .i64 a0_1,.int .i64 a0_2] 31 (0,0)) (by (with_reducible repeat (first|refine yE ?_ _|refine yF ?_|refine yG ?_ _));exact BK509.out) k_ hn_)),Or.elim hk_ (fun hs_=>Or.elim hs_ (fun hs_=>hs_.2) (fun hs_=>hs_.2)) (fun hn_=>(Kd.freshB (g:=gb510) (o:=.cells #[.slice none 0 0,.slice none 0 0] 59 (0,0)) (by (with_reducible repeat (first|refine yE ?_ _|refine yF ?_|refine yG ?_ _));exact BK510.out) k_ hn_))⟩)) (yQ (by repeat (first|(with_reducible first|exact HB.out|apply yA|apply yB|apply yC|refine yD ?_ GE509.out|refine yD ?_ GE510.out)|exact HB.out))))
      have n6_:=Aside0.mk (blk_below (g:=gb509) (o:=.cells #[.slice A0_0 l0_0.length c0_0,.int .i64 a0_1,.int .i64 a0_2] 31 (0,0)) (by (with_reducible repeat (first|refine yE ?_ _|refine yF ?_|refine yG ?_ _));exact BK509.out) hb)
      have n7_:=Aside0.mk (blk_below (g:=gb510) (o:=.cells #[.slice none 0 0,.slice none 0 0] 59 (0,0)) (by (with_reducible repeat (first|refine yE ?_ _|refine yF ?_|refine yG ?_ _));exact BK510.out) hb)
      have n8_:=Aside0.mk (yP (by repeat (first|(with_reducible first|exact HB.out|apply yA|apply yB|apply yC|refine yD ?_ GE509.out|refine yD ?_ GE510.out)|exact HB.out)) hb)
      clear HO_3
      clear HO_5
      clear HO526
      clear HO531
      clear BK509
      clear BK510
      clear HB
      have HO_3:=n0_
      have HO_5:=n1_
      have HO526:=n2_
      have HO531:=n3_
      have HO534:=n4_
      have HO537:=n5_
      have BK509:=n6_
      have BK510:=n7_
      have HB:=n8_
      clear n0_ n1_ n2_ n3_ n4_ n5_ n6_ n7_ n8_
      (try clear hb)
      (try clear hb2)
      (try clear hk)
      (try clear hi)
      (try clear ho0)
      (try clear ho1)
      obtain ⟨Ao27,co27,eo27⟩:=Kd.V_slice HO534.out
      (first|subst eo27|(injection eo27 with f1_ f2_ f3_;have f4_:=f1_.symm;have f5_:=f3_.symm;clear f1_ f2_ f3_;subst f4_;subst f5_))
      obtain ⟨Ao29,co29,eo29⟩:=Kd.V_slice HO537.out
      (first|subst eo29|(injection eo29 with f1_ f2_ f3_;have f4_:=f1_.symm;have f5_:=f3_.symm;clear f1_ f2_ f3_;subst f4_;subst f5_))
      refine hK.out _ _ trivial (fun hHeld=>?_)
      clear hK K
      refine norm_ (a':=?_) ?_ ?_
      rotate_left
      ·show Act.put _ (some 37) _=_
       simp only [Act.put,yK,yL,yM,i64_w,i32_w]
       rfl
      refine one_ (i:=8) (N:=none) #[true,true,true,true,true,true,true,true,true] rfl rfl (one_of HT_.out (by kernel_rfl)) (by decide) (fun K hK=>?_)
      have hs28:w26.cell? ⟨gb510,0,none⟩=some (.slice none 0 0):=(blk_cell BK510.out 0).trans rfl
      have hfs28:=blk_frozen BK510.out 0
      have hns28_0:=NB509_510.out
      have hms28_0:=NB510_509.out
      have hs30:w26.cell? ⟨gb510,1,none⟩=some (.slice none 0 0):=(blk_cell BK510.out 1).trans rfl
      have hfs30:=blk_frozen BK510.out 1
      have hns30_0:=NB509_510.out
      have hms30_0:=NB510_509.out
      refine skip_ (w1:=?_) (by rfl) rfl ?_ ?_
      rotate_left
      ·go_simp
       rfl
      refine hK.out _ _ trivial (fun hHeld=>?_)
      clear hK K
      refine done_ (done_of HT_.out (by kernel_rfl)) ?_
      try go_wp2
      refine bodyPost_ret (results_cell_row rfl _ _ gb510 59 #[.slice Ao27 t532.length co27,.slice Ao29 t535.length co29] (0,0) _ rfl (by (with_reducible repeat (first|refine yE ?_ _|refine yF ?_|refine yG ?_ _));refine blk_put (cs:=#[.slice Ao27 t532.length co27,.slice none 0 0]) ?_ 1 _ rfl;(with_reducible repeat (first|refine yE ?_ _|refine yF ?_|refine yG ?_ _));refine blk_put (cs:=#[.slice none 0 0,.slice none 0 0]) ?_ 0 _ rfl;(with_reducible repeat (first|refine yE ?_ _|refine yF ?_|refine yG ?_ _));exact BK510.out) Try.underlying59 rfl (by kernel_rfl)) rfl ?_
      exact ⟨_,_,by first|rfl|(simp [errW_none,errW_some]<;>rfl)|(simp [*,errW_none,errW_some]<;>rfl)|(simp [errW_none,errW_some];exact ⟨rfl,rfl⟩),by (with_reducible repeat (first|apply Kd.V_alloc|apply Kd.V_drewN|apply Kd.V_drew));exact Kd.V_mono (Kd.V_far (p:=⟨gb510,1,none⟩) (Kd.V_far (p:=⟨gb510,0,none⟩) (Kd.V_mono HO534.out (fun k_ hk=>(⟨hk,hk.2.2.2⟩:_∧k_≠gb510))) (fun _ hk=>hk.2) (.slice Ao27 t532.length co27)) (fun _ hk=>hk.2) (.slice Ao29 t535.length co29)) (fun _ hk=>hk.1.1),by (with_reducible repeat (first|apply Kd.V_alloc|apply Kd.V_drewN|apply Kd.V_drew));exact Kd.V_mono (Kd.V_far (p:=⟨gb510,1,none⟩) (Kd.V_far (p:=⟨gb510,0,none⟩) (Kd.V_mono HO537.out (fun k_ hk=>(⟨hk,hk.2.2.2⟩:_∧k_≠gb510))) (fun _ hk=>hk.2) (.slice Ao27 t532.length co27)) (fun _ hk=>hk.2) (.slice Ao29 t535.length co29)) (fun _ hk=>hk.1.1),by repeat (first|(with_reducible first|exact HB.out|apply yA|apply yB|apply yC|refine yD ?_ GE509.out|refine yD ?_ GE510.out)|exact HB.out)⟩
     ·rw [if_neg c17] at H
      exact absurd H (by simp)
    ·rw [if_neg c16] at H
     exact absurd H (by simp)

end Go.Proofs.Ytneadgionjlicaa.P
