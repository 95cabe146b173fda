/- What these laws reach, joined by a program of this session: contracts (written by that program over the kit's print, or by hand) and plain lemmas. -/
import Derived.Test.YtjjnckgdpdelkaaK1
open Go.Proofs.YtjjnckgdpdelkaaW.PrintWords renaming below_alloc → yA, pw_below_drewN → yB, below_drew1 → yC, below_set → yD, blk_drewN → yE, blk_drew → yF, blk_alloc → yG, below_step → yP, below_size → yQ
open Go.Proofs.YtjjnckgdpdelkaaW.PrintWords.Kd renaming R_alloc → yH, R_drewN → yI, R_drew → yJ
open List renaming setIfInBounds_toArray → yK, set_cons_zero → yL, set_cons_succ → yM
namespace Go.Proofs.Ytjjnckgdpdelkaa.P
open Go.RowKit Go.Proofs.YtjjnckgdpdelkaaW.PrintWords Go.Proofs.YtjjnckgdpdelkaaW.PrintLast Go.Proofs.YtjjnckgdpdelkaaW.PrintMore
attribute [local go_sem] max2_int min2_int max_two min_two max_three min_three max_four min_four   -- for this text's walks alone
set_option linter.unusedVariables false
set_option linter.unusedSimpArgs false

/-! ### spec_l7Write: function 49 -/
def spec_l7Write.f:Nat→Int→List (S44)→Option (ByteArray)
 | 0,_,_=>none
 | k+1,a0_0,l0_1=>if (l0_1.length:Int)=0 then (some (strOfNums (([a0_0]:List Int)))) else (if (l0_1.length:Int)=1 then ((some (([a0_0]:List Int):List Int)).bind fun y341=>(if 0<(l0_1.length:Int) then ((spec_l7Write.f k ((rd_T44 l0_1 0).f0) ((rd_T44 l0_1 0).f1)).bind fun t345=>(if (strOfNums y341).size+t345.size≤9223372036854775807 then (some ((strOfNums y341)++t345)) else (none))) else (none))) else (if 0<(l0_1.length:Int) then ((spec_l7Write.f k ((rd_T44 l0_1 0).f0) ((rd_T44 l0_1 0).f1)).bind fun t347=>(if 1+t347.size≤9223372036854775807 then ((some (([a0_0]:List Int):List Int)).bind fun y348=>(if 1+t347.size+(strOfNums y348).size≤9223372036854775807 then (if 1<(l0_1.length:Int) then ((spec_l7Write.f k ((rd_T44 l0_1 1).f0) ((rd_T44 l0_1 1).f1)).bind fun t352=>(if 1+t347.size+(strOfNums y348).size+t352.size≤9223372036854775807 then (if 1+t347.size+(strOfNums y348).size+t352.size+1≤9223372036854775807 then (some (((((⟨#[40]⟩:ByteArray)++t347)++(strOfNums y348))++t352)++(⟨#[41]⟩:ByteArray))) else (none)) else (none))) else (none)) else (none))) else (none))) else (none)))
theorem spec_l7Write.mono_l:∀ k,(∀ y0 y1,LeO (spec_l7Write.f k y0 y1) (spec_l7Write.f (k+1) y0 y1))
 | 0=>fun _ _ r h=>by simp [spec_l7Write.f] at h
 | k+1=>by
  have ih0:=spec_l7Write.mono_l k
  ·intro y0 y1
   unfold spec_l7Write.f
   repeat' first
   | (with_reducible exact ih0 _ _)
   | (with_reducible exact LeO.refl _)
   | (with_reducible exact LeO.none _)
   | (with_reducible refine LeO.ite ?_ ?_)
   | (with_reducible refine LeO.bind ?_ (fun _=>?_))
   | exact ih0 _ _
   | exact LeO.none _
   | refine LeO.ite ?_ ?_
   | refine LeO.bind ?_ (fun _=>?_)
theorem spec_l7Write.mono:∀ a0 a1 k,LeO (spec_l7Write.f k a0 a1) (spec_l7Write.f (k+1) a0 a1):=by
 intro a0 a1 k
 have ih0:=spec_l7Write.mono_l k
 exact ih0 a0 a1
def spec_l7Write.T5:Bool × List (List Nat × List Nat):=(true,[([],[]),([0],[0]),([1],[1]),([2],[2]),([],[]),([4],[4]),([5],[5]),([6],[6]),([7],[7]),([3,8],[3,8]),([9,8,0,1,2,3,4,5,6,7,8,9],[9])])
def spec_l7Write.B5:List Nat:=[0,1,3,7,0,16,48,112,240,511,1023]
theorem spec_l7Write.tab5:rtab .any (opsOf Try.f49 5)=spec_l7Write.T5:=by kernel_rfl
theorem spec_l7Write.bits5:waitsOk spec_l7Write.T5.2 spec_l7Write.B5=true:=by kernel_rfl
def spec_l7Write.T6:Bool × List (List Nat × List Nat):=(true,[([],[]),([0],[0]),([1],[1]),([2],[2]),([3],[3]),([4],[4]),([],[]),([6],[6]),([7],[7]),([8],[8]),([5,9],[5,9]),([],[]),([11],[11]),([12],[12]),([13],[13]),([14,4],[14]),([10,15],[10,15]),([16],[16]),([17,15,0,1,2,3,4,5,6,7,8,9,10,11,12,13,14,15,16,17],[17])])
def spec_l7Write.B6:List Nat:=[0,1,3,7,15,31,0,64,192,448,1023,0,2048,6144,14336,30751,65535,131071,262143]
theorem spec_l7Write.tab6:rtab .any (opsOf Try.f49 6)=spec_l7Write.T6:=by kernel_rfl
theorem spec_l7Write.bits6:waitsOk spec_l7Write.T6.2 spec_l7Write.B6=true:=by kernel_rfl
set_option maxHeartbeats 8000000 in
set_option maxRecDepth 100000 in
theorem spec_l7Write.calls (k:Nat):∀ (a0_0:Int) (A0_1:Option Addr) (c0_1:Nat) (l0_1:List (S44)) (r:ByteArray) (w:World) (hr0_1:Kd.C k44 w A0_1 l0_1.length l0_1) (hc0_1:l0_1.length≤c0_1) (h:spec_l7Write.f k a0_0 l0_1=some r),
  Calls Try.prog 49 #[.agg #[.int .u8 a0_0,.slice A0_1 l0_1.length c0_1]] w fun e w'=>e=.returned (.string r)∧Below w.heap.size w w':=by
 induction k using Nat.strongRecOn with
 | _ k ih =>
 intro a0_0 A0_1 c0_1 l0_1 r w hr0_1 hc0_1 h
 cases k with
 | zero=>exact absurd h (by simp [spec_l7Write.f])
 | succ k =>
 simp only [spec_l7Write.f] at h
 have hu44:=Try.underlying44
 have HR0_1:=Aside0.mk hr0_1
 have HC0_1:=Aside0.mk hc0_1
 clear hr0_1 hc0_1
 have HB:=Aside0.mk (Below.refl w.heap.size w)
 have H:(if (l0_1.length:Int)=0 then (some (strOfNums (([a0_0]:List Int)))) else (if (l0_1.length:Int)=1 then ((some (([a0_0]:List Int):List Int)).bind fun y341=>(if 0<(l0_1.length:Int) then ((spec_l7Write.f k ((rd_T44 l0_1 0).f0) ((rd_T44 l0_1 0).f1)).bind fun t345=>(if (strOfNums y341).size+t345.size≤9223372036854775807 then (some ((strOfNums y341)++t345)) else (none))) else (none))) else (if 0<(l0_1.length:Int) then ((spec_l7Write.f k ((rd_T44 l0_1 0).f0) ((rd_T44 l0_1 0).f1)).bind fun t347=>(if 1+t347.size≤9223372036854775807 then ((some (([a0_0]:List Int):List Int)).bind fun y348=>(if 1+t347.size+(strOfNums y348).size≤9223372036854775807 then (if 1<(l0_1.length:Int) then ((spec_l7Write.f k ((rd_T44 l0_1 1).f0) ((rd_T44 l0_1 1).f1)).bind fun t352=>(if 1+t347.size+(strOfNums y348).size+t352.size≤9223372036854775807 then (if 1+t347.size+(strOfNums y348).size+t352.size+1≤9223372036854775807 then (some (((((⟨#[40]⟩:ByteArray)++t347)++(strOfNums y348))++t352)++(⟨#[41]⟩:ByteArray))) else (none)) else (none))) else (none)) else (none))) else (none))) else (none))))=some r:=h
 clear h
 by_cases c2:(l0_1.length:Int)=0
 ·rw [if_pos c2] at H
  have c2b0:((l0_1.length:Int) == 0)=true:=beq_iff_eq.mpr c2
  have c2b1:((l0_1.length:Int) != 0)=false:=bne_eq_false_iff_eq.mpr c2
  clear c2
  obtain ⟨y338,hy338⟩:∃ y_:List Int,y_=(([a0_0]:List Int)):=⟨_,rfl⟩
  replace H:(some (strOfNums y338))=some r:=by first|(rw [hy338];with_reducible exact H)|(have H2_:=(Option.bind_some _ _).symm.trans H;rw [hy338];with_reducible exact H2_)|(have H2_:=(Option.bind_some _ _).symm.trans H;with_reducible exact H2_)|with_reducible exact H|(rw [hy338];exact H)|exact H
  have Ny338:=Aside0.mk hy338
  clear hy338
  obtain rfl:=Option.some.inj H
  go_enter Try.func49,Try.ntmps49
  go_wp2_with (first|((with_reducible refine gate_dst (N:=1) rfl ?_);refine box_event ?hg (N:=1) ?hd (cs:=#[.int .u8 a0_0,.slice A0_1 l0_1.length c0_1]) (t:=44) ?hr ?_;(case hd=>rfl);(case hg=>rfl);(case hr=>first|(go_simp;done)|(go_simp;rfl));intro gb337 hg w3 hbox hb;have n0_:=Aside0.mk (yP (by repeat (first|(with_reducible first|exact HB.out|apply yA|apply yB|apply yC)|exact HB.out)) hb);have n1_:=Aside0.mk (hbox);have n2_:=Aside0.mk ((by rw [hg];exact (yQ (by repeat (first|(with_reducible first|exact HB.out|apply yA|apply yB|apply yC)|exact HB.out))):w.heap.size≤gb337));have n3_:=Aside0.mk ((by rw [hg];exact (yQ (by repeat (first|(with_reducible first|exact HB.out|apply yA|apply yB|apply yC)|exact HB.out))):w.heap.size≤gb337));clear HB;have HB:=n0_;have BK337:=n1_;have GW337:=n2_;have GE337:=n3_;clear n0_ n1_ n2_ n3_;clear hb hbox hg;have hcz4_0:w3.cell? ⟨gb337,0,none⟩=some (.int .u8 a0_0):=(blk_cell BK337.out 0).trans rfl;have hcz4_1:w3.cell? ⟨gb337,1,none⟩=some (.slice A0_1 l0_1.length c0_1):=(blk_cell BK337.out 1).trans rfl;have hfz4_0:=blk_frozen BK337.out 0;have hfz4_1:=blk_frozen BK337.out 1)|((with_reducible refine gate_dst (N:=10) rfl ?_);refine Kd.R_lit (Kd.int .u8) _ 5 ?hg (N:=10) ?hd (xs:=([a0_0]:List Int)) (inner:=[.int .u8 a0_0]) (ok:=fun _=>True) (okp:=fun _=>True) ?hr ?hp (fun _ hk=>hk) trivial (Below.refl _ _) (Nat.le_refl _) (by simp) ?_;(case hd=>rfl);(case hg=>rfl);(case hr=>first|(go_simp;done)|(go_simp;rfl));(case hp=>exact (Reps.one (show Kd.M (Kd.int .u8) _ _ _ a0_0 [.int .u8 a0_0] from rfl) (Reps.none _ _)));intro v339 w5 ho6 hb hg_ hnew_;clear hg_ hnew_;(first|rw [← Ny338.out] at ho6|(simp only [Int.reduceToNat] at ho6;rw [← Ny338.out] at ho6));have n0_:=Aside0.mk (Kd.R_lower ho6 (yQ (by repeat (first|(with_reducible first|exact HB.out|apply yA|apply yB|apply yC|refine yD ?_ GE337.out)|exact HB.out))));have n1_:=Aside0.mk (blk_below (g:=gb337) (o:=.cells #[.int .u8 a0_0,.slice A0_1 l0_1.length c0_1] 44 (0,0)) (by (with_reducible repeat (first|refine yE ?_ _|refine yF ?_|refine yG ?_ _));exact BK337.out) hb);have n2_:=Aside0.mk (yP (by repeat (first|(with_reducible first|exact HB.out|apply yA|apply yB|apply yC|refine yD ?_ GE337.out)|exact HB.out)) hb);clear BK337;clear HB;have HO340:=n0_;have BK337:=n1_;have HB:=n2_;clear n0_ n1_ n2_;clear hb ho6;have hcv7:=own_string (P:=Try.prog) Try.underlying22 Try.underlying5 Try.underlying9 (Kd.own_of_R HO340.out)))
  go_ret
  exact ⟨by first|rfl|(simp [errW_none,errW_some]<;>rfl)|(simp [*,errW_none,errW_some]<;>rfl)|(simp [errW_none,errW_some];exact ⟨rfl,rfl⟩),by repeat (first|(with_reducible first|exact HB.out|apply yA|apply yB|apply yC|refine yD ?_ GE337.out)|exact HB.out)⟩
 ·rw [if_neg c2] at H
  have c2b0:((l0_1.length:Int) == 0)=false:=beq_eq_false_iff_ne.mpr c2
  have c2b1:((l0_1.length:Int) != 0)=true:=bne_iff_ne.mpr c2
  have c2b2:¬ (l0_1=[]):=fun h_=>c2 (by rw [h_];rfl)
  by_cases c8:(l0_1.length:Int)=1
  ·rw [if_pos c8] at H
   have c8b0:((l0_1.length:Int) == 1)=true:=beq_iff_eq.mpr c8
   have c8b1:((l0_1.length:Int) != 1)=false:=bne_eq_false_iff_eq.mpr c8
   clear c8
   obtain ⟨y341,hy341⟩:∃ y_:List Int,y_=(([a0_0]:List Int)):=⟨_,rfl⟩
   replace H:(if 0<(l0_1.length:Int) then ((spec_l7Write.f k ((rd_T44 l0_1 0).f0) ((rd_T44 l0_1 0).f1)).bind fun t345=>(if (strOfNums y341).size+t345.size≤9223372036854775807 then (some ((strOfNums y341)++t345)) else (none))) else (none))=some r:=by first|(rw [hy341];with_reducible exact H)|(have H2_:=(Option.bind_some _ _).symm.trans H;rw [hy341];with_reducible exact H2_)|(have H2_:=(Option.bind_some _ _).symm.trans H;with_reducible exact H2_)|with_reducible exact H|(rw [hy341];exact H)|exact H
   have Ny341:=Aside0.mk hy341
   clear hy341
   by_cases c9:0<(l0_1.length:Int)
   ·rw [if_pos c9] at H
    have c9b0:decide (0<(l0_1.length:Int))=true:=decide_eq_true c9
    have c9b1:decide (0<l0_1.length)=true:=decide_eq_true (by omega)
    clear c9
    replace H:=Option.bind_eq_some_iff.mp H
    obtain ⟨t345,A100,H⟩:=H
    replace H:(if (strOfNums y341).size+t345.size≤9223372036854775807 then (some ((strOfNums y341)++t345)) else (none))=some r:=H
    have A10:=Aside0.mk A100
    clear A100
    by_cases c11:(strOfNums y341).size+t345.size≤9223372036854775807
    ·rw [if_pos c11] at H
     have c11b0:=eq_true c11
     have c11b1:decide ((strOfNums y341).size+t345.size≤9223372036854775807)=true:=decide_eq_true c11
     try have c11b2:(9223372036854775807<(strOfNums y341).size+t345.size)=False:=eq_false (Nat.not_lt.2 c11)
     obtain rfl:=Option.some.inj H
     go_enter Try.func49,Try.ntmps49
     try go_wp2_with (first|((with_reducible refine gate_dst (N:=1) rfl ?_);refine box_event ?hg (N:=1) ?hd (cs:=#[.int .u8 a0_0,.slice A0_1 l0_1.length c0_1]) (t:=44) ?hr ?_;(case hd=>rfl);(case hg=>rfl);(case hr=>first|(go_simp;done)|(go_simp;rfl));intro gb337 hg w12 hbox hb;have n0_:=Aside0.mk (yP (by repeat (first|(with_reducible first|exact HB.out|apply yA|apply yB|apply yC)|exact HB.out)) hb);have n1_:=Aside0.mk (hbox);have n2_:=Aside0.mk ((by rw [hg];exact (yQ (by repeat (first|(with_reducible first|exact HB.out|apply yA|apply yB|apply yC)|exact HB.out))):w.heap.size≤gb337));have n3_:=Aside0.mk ((by rw [hg];exact (yQ (by repeat (first|(with_reducible first|exact HB.out|apply yA|apply yB|apply yC)|exact HB.out))):w.heap.size≤gb337));clear HB;have HB:=n0_;have BK337:=n1_;have GW337:=n2_;have GE337:=n3_;clear n0_ n1_ n2_ n3_;clear hb hbox hg;have hcz13_0:w12.cell? ⟨gb337,0,none⟩=some (.int .u8 a0_0):=(blk_cell BK337.out 0).trans rfl;have hcz13_1:w12.cell? ⟨gb337,1,none⟩=some (.slice A0_1 l0_1.length c0_1):=(blk_cell BK337.out 1).trans rfl;have hfz13_0:=blk_frozen BK337.out 0;have hfz13_1:=blk_frozen BK337.out 1))
     have n0_:=Aside0.mk (yF BK337.out)
     have n1_:=Aside0.mk (yC HB.out)
     clear BK337
     clear HB
     have BK337:=n0_
     have HB:=n1_
     clear n0_ n1_
     have p344:0≤(0:Int):=(by omega)
     have q344:0<(l0_1.length:Int):=of_decide_eq_true (by first|(with_reducible assumption)|assumption)
     obtain ⟨ad344,A344_1,c344_1,e344,hx344_0,hx344_1,hl344_1,hi344_1⟩:=at_T44 HR0_1.out 0 p344 q344
     have hw344_1:=hx344_1
     (try rw [show ((0:Int)).toNat=0 from rfl] at hw344_1)
     (try rw [show 0 * 2=0 from rfl] at hw344_1)
     (try rw [Addr.add_zero'] at hw344_1)
     have hw344_0:=hx344_0
     (try rw [show ((0:Int)).toNat=0 from rfl] at hw344_0)
     (try rw [show 0 * 2=0 from rfl] at hw344_0)
     (try rw [Addr.add_zero'] at hw344_0)
     cases e344
     have qi344:(0<l0_1.length)=True:=eq_true (by omega)
     (try rw [show ((0:Int)).toNat=0 from rfl] at hx344_0)
     (try rw [show 0 * 2=0 from rfl] at hx344_0)
     (try rw [Addr.add_zero'] at hx344_0)
     (try rw [show ((0:Int)).toNat=0 from rfl] at hx344_1)
     (try rw [show 0 * 2=0 from rfl] at hx344_1)
     (try rw [Addr.add_zero'] at hx344_1)
     replace hx344_0:=(HB.out.cell (World.block_lt_of_cell? w _ hx344_0)).trans hx344_0
     replace hx344_1:=(HB.out.cell (World.block_lt_of_cell? w _ hx344_1)).trans hx344_1
     have HR344_1:=Aside0.mk hi344_1
     have HC344_1:=Aside0.mk hl344_1
     clear hi344_1 hl344_1
     replace p344:=eq_true p344
     replace q344:=eq_true q344
     refine start_ (n:=11) (S:=fun w'=>w'.cell? ⟨gb337,0,none⟩=some (.int .u8 a0_0)∧w'.cell? ⟨gb337,1,none⟩=some (.slice (some ad344) l0_1.length c0_1)∧w'.cell? ad344=some (.int .u8 ((rd_T44 l0_1 0).f0))∧w'.cell? ⟨ad344.block,ad344.off+1,none⟩=some (.slice A344_1 ((rd_T44 l0_1 0).f1).length c344_1)) (ds:=[]) #[false,false,false,false,false,false,false,false,false,false,false] (by kernel_rfl) rfl rfl ⟨(blk_cell BK337.out 0).trans rfl,(blk_cell BK337.out 1).trans rfl,((HB.out.cell (World.block_lt_of_cell? w _ hw344_0)).trans hw344_0),((HB.out.cell (World.block_lt_of_cell? w _ hw344_1)).trans hw344_1)⟩ (fun hHeld=>?_);refine with_tabW spec_l7Write.tab5 spec_l7Write.bits5 (fun HT_ HW_=>?_)
     generalize w12.drew=w14 at BK337 HB HR344_1 hx344_0 hx344_1 hHeld ⊢
     refine pure_ (i:=0) (N:=some 14) (v:=?_) (a':=?_) #[true,false,false,false,false,false,false,false,false,false,false] rfl rfl (any_of HT_.out (by kernel_rfl)) (fun _ _ _ h=>h) (Or.inl ⟨by rfl,?_⟩) ?_ ?_
     rotate_left
     ·intro w'
      go_simp
      with_reducible rfl
     rotate_left
     ·simp only [Act.put,yK,yL,yM,i64_w,i32_w]
      rfl
     refine pure_ (i:=4) (N:=some 18) (v:=?_) (a':=?_) #[true,false,false,false,true,false,false,false,false,false,false] rfl rfl (any_of HT_.out (by kernel_rfl)) (fun _ _ _ h=>h) (Or.inl ⟨by rfl,?_⟩) ?_ ?_
     rotate_left
     ·intro w'
      go_simp
      with_reducible rfl
     rotate_left
     ·simp only [Act.put,yK,yL,yM,i64_w,i32_w]
      rfl
     refine take_ (i:=1) (N:=some 15) (v:=?_) (a':=?_) #[true,true,false,false,true,false,false,false,false,false,false] rfl rfl (take_ofW HT_.out HW_.out (by kernel_rfl)) (fun _ _ _ h=>h) (Or.inl ⟨by rfl,?_⟩) hHeld ?_ ?_
     rotate_left
     ·rintro w' ⟨s0,s1,s2,s3⟩
      go_simp
      with_reducible rfl
     rotate_left
     ·simp only [Act.put,yK,yL,yM,i64_w,i32_w]
      rfl
     refine take_ (i:=5) (N:=some 19) (v:=?_) (a':=?_) #[true,true,false,false,true,true,false,false,false,false,false] rfl rfl (take_ofW HT_.out HW_.out (by kernel_rfl)) (fun _ _ _ h=>h) (Or.inl ⟨by rfl,?_⟩) hHeld ?_ ?_
     rotate_left
     ·rintro w' ⟨s0,s1,s2,s3⟩
      go_simp
      with_reducible rfl
     rotate_left
     ·simp only [Act.put,yK,yL,yM,i64_w,i32_w]
      rfl
     refine pure_ (i:=6) (N:=some 20) (v:=?_) (a':=?_) #[true,true,false,false,true,true,true,false,false,false,false] rfl rfl (any_of HT_.out (by kernel_rfl)) (fun _ _ _ h=>h) (Or.inl ⟨by rfl,?_⟩) ?_ ?_
     rotate_left
     ·intro w'
      go_simp
      with_reducible rfl
     rotate_left
     ·simp only [Act.put,yK,yL,yM,i64_w,i32_w]
      rfl
     refine take_ (i:=7) (N:=some 21) (v:=?_) (a':=?_) #[true,true,false,false,true,true,true,true,false,false,false] rfl rfl (take_ofW HT_.out HW_.out (by kernel_rfl)) (fun _ _ _ h=>h) (Or.inl ⟨by rfl,?_⟩) hHeld ?_ ?_
     rotate_left
     ·rintro w' ⟨s0,s1,s2,s3⟩
      go_simp
      with_reducible rfl
     rotate_left
     ·simp only [Act.put,yK,yL,yM,i64_w,i32_w]
      rfl
     refine join_ (σ:=Value) 2 #[true,true,true,true,true,true,true,true,true,false,false] (fun s_=>[(16,s_),(17,.string (strOfNums y341)),(22,.string t345)]) (fun s_ w'=>(w'.cell? ⟨gb337,0,none⟩=some (.int .u8 a0_0)∧w'.cell? ⟨gb337,1,none⟩=some (.slice (some ad344) l0_1.length c0_1)∧w'.cell? ad344=some (.int .u8 ((rd_T44 l0_1 0).f0))∧w'.cell? ⟨ad344.block,ad344.off+1,none⟩=some (.slice A344_1 ((rd_T44 l0_1 0).f1).length c344_1))∧(Kd.R (Kd.int .u8) 5 w' w.heap.size (fun _=>True) s_ y341)∧(w'.heap[gb337]?=some (.cells #[.int .u8 a0_0,.slice (some ad344) l0_1.length c0_1] 44 (0,0)))∧(Below w.heap.size w w')) ?_ ?_
     rotate_left
     ·intro hCont
      refine two_ (i:=2) (j:=8) (Ni:=some 16) (Nj:=some 22) #[true,true,true,false,true,true,true,true,false,false,false] #[true,true,false,false,true,true,true,true,true,false,false] rfl rfl rfl rfl (two_of HT_.out (by kernel_rfl)) (by decide) (by decide) (fun K hK=>?_) (fun K hK=>?_)
      ·skip
       refine Kd.R_lit_step (Kd.int .u8) _ 5 ?hg (N:=16) ?hd (xs:=([a0_0]:List Int)) (inner:=[.int .u8 a0_0]) (ok:=fun _=>True) (okp:=fun _=>True) ?hr ?hp (fun _ hk=>hk) trivial (Below.refl _ _) (Nat.le_refl _) (by simp) ?_;(case hd=>rfl);(case hg=>rfl);(case hr=>first|(go_simp;done)|(go_simp;rfl));(case hp=>exact (Reps.one (show Kd.M (Kd.int .u8) _ _ _ a0_0 [.int .u8 a0_0] from rfl) (Reps.none _ _)))
       intro v342 w15 ho16 hb hg_ hnew_
       clear hg_ hnew_
       (first|rw [← Ny341.out] at ho16|(simp only [Int.reduceToNat] at ho16;rw [← Ny341.out] at ho16))
       have n0_:=Aside0.mk (Kd.R_lower ho16 (yQ (by repeat (first|(with_reducible first|exact HB.out|apply yA|apply yB|apply yC|refine yD ?_ GE337.out)|exact HB.out))))
       have n1_:=Aside0.mk (blk_below (g:=gb337) (o:=.cells #[.int .u8 a0_0,.slice (some ad344) l0_1.length c0_1] 44 (0,0)) (by (with_reducible repeat (first|refine yE ?_ _|refine yF ?_|refine yG ?_ _));exact BK337.out) hb)
       have n2_:=Aside0.mk (yP (by repeat (first|(with_reducible first|exact HB.out|apply yA|apply yB|apply yC|refine yD ?_ GE337.out)|exact HB.out)) hb)
       clear BK337
       clear HB
       have HO343:=n0_
       have BK337:=n1_
       have HB:=n2_
       clear n0_ n1_ n2_
       clear hb ho16
       refine hK.out _ _ ⟨(blk_cell BK337.out 0).trans rfl,(blk_cell BK337.out 1).trans rfl,((HB.out.cell (World.block_lt_of_cell? w _ hw344_0)).trans hw344_0),((HB.out.cell (World.block_lt_of_cell? w _ hw344_1)).trans hw344_1)⟩ (fun hHeld=>?_)
       clear hK K
       refine norm_ (a':=?_) ?_ ?_
       rotate_left
       ·show Act.put _ (some 16) _=_
        simp only [Act.put,yK,yL,yM,i64_w,i32_w]
        rfl
       refine two_ (i:=3) (j:=8) (Ni:=some 17) (Nj:=some 22) #[true,true,true,true,true,true,true,true,false,false,false] #[true,true,true,false,true,true,true,true,true,false,false] rfl rfl rfl rfl (two_of HT_.out (by kernel_rfl)) (by decide) (by decide) (fun K hK=>?_) (fun K hK=>?_)
       ·skip
        have hcv17:=own_string (P:=Try.prog) Try.underlying22 Try.underlying5 Try.underlying9 (Kd.own_of_R HO343.out)
        refine value_ (w1:=?_) (v:=?_) (by rfl) rfl ?_ ?_
        rotate_left 2
        ·go_simp
         constructor
         ·rfl
         ·rfl
        clear hcv17
        refine hK.out _ _ ⟨(blk_cell BK337.out 0).trans rfl,(blk_cell BK337.out 1).trans rfl,((HB.out.cell (World.block_lt_of_cell? w _ hw344_0)).trans hw344_0),((HB.out.cell (World.block_lt_of_cell? w _ hw344_1)).trans hw344_1)⟩ (fun hHeld=>?_)
        clear hK K
        refine norm_ (a':=?_) ?_ ?_
        rotate_left
        ·show Act.put _ (some 17) _=_
         simp only [Act.put,yK,yL,yM,i64_w,i32_w]
         rfl
        refine one_ (i:=8) (N:=some 22) #[true,true,true,true,true,true,true,true,true,false,false] rfl rfl (one_of HT_.out (by kernel_rfl)) (by decide) (fun K hK=>?_)
        refine goes_ Try.func49 (by kernel_rfl) rfl #[.agg #[.int .u8 ((rd_T44 l0_1 0).f0),.slice A344_1 ((rd_T44 l0_1 0).f1).length c344_1]] (by rfl) rfl rfl (by (try simp only [List.map_toArray,List.map_cons,List.map_nil]);first|done|rfl|(simp only [List.length_drop,List.length_take];rfl)) ?_
        with_reducible refine (ih k (by omega) ((rd_T44 l0_1 0).f0) _ _ ((rd_T44 l0_1 0).f1) t345 _ ?side1 ?side2 A10.out).mono ?_
        (case side1=>repeat (first|exact (Kd.C_below HR344_1.out HB.out)|(with_reducible refine Kd.C_alloc ?_ _)|(with_reducible refine Kd.C_drewN ?_ _)|(with_reducible refine Kd.C_drew ?_)))
        (case side2=>exact HC344_1.out)
        rintro e w18 ⟨rfl,hb⟩
        refine ⟨_,rfl,?_⟩
        have n0_:=Aside0.mk (Kd.R_below (by (with_reducible repeat (first|apply yH|apply yI|apply yJ));exact HO343.out) hb)
        have n1_:=Aside0.mk (blk_below (g:=gb337) (o:=.cells #[.int .u8 a0_0,.slice (some ad344) l0_1.length c0_1] 44 (0,0)) (by (with_reducible repeat (first|refine yE ?_ _|refine yF ?_|refine yG ?_ _));exact BK337.out) hb)
        have n2_:=Aside0.mk (yP (by repeat (first|(with_reducible first|exact HB.out|apply yA|apply yB|apply yC|refine yD ?_ GE337.out)|exact HB.out)) hb)
        clear HO343
        clear BK337
        clear HB
        have HO343:=n0_
        have BK337:=n1_
        have HB:=n2_
        clear n0_ n1_ n2_
        (try clear hb)
        (try clear hb2)
        (try clear hk)
        (try clear hi)
        refine hK.out _ _ ⟨(blk_cell BK337.out 0).trans rfl,(blk_cell BK337.out 1).trans rfl,((HB.out.cell (World.block_lt_of_cell? w _ hw344_0)).trans hw344_0),((HB.out.cell (World.block_lt_of_cell? w _ hw344_1)).trans hw344_1)⟩ (fun hHeld=>?_)
        clear hK K
        refine norm_ (a':=?_) ?_ ?_
        rotate_left
        ·show Act.put _ (some 22) _=_
         simp only [Act.put,yK,yL,yM,i64_w,i32_w]
         rfl
        exact norm_ (by simp only [putAll,Act.put,yK,yL,yM]) (hCont (v342) _ ⟨hHeld,(by (with_reducible repeat (first|apply yH|apply yI|apply yJ));exact HO343.out),(by (with_reducible repeat (first|refine yE ?_ _|refine yF ?_|refine yG ?_ _));exact BK337.out),(by repeat (first|(with_reducible first|exact HB.out|apply yA|apply yB|apply yC|refine yD ?_ GE337.out)|exact HB.out))⟩)
       ·skip
        refine goes_ Try.func49 (by kernel_rfl) rfl #[.agg #[.int .u8 ((rd_T44 l0_1 0).f0),.slice A344_1 ((rd_T44 l0_1 0).f1).length c344_1]] (by rfl) rfl rfl (by (try simp only [List.map_toArray,List.map_cons,List.map_nil]);first|done|rfl|(simp only [List.length_drop,List.length_take];rfl)) ?_
        with_reducible refine (ih k (by omega) ((rd_T44 l0_1 0).f0) _ _ ((rd_T44 l0_1 0).f1) t345 _ ?side1 ?side2 A10.out).mono ?_
        (case side1=>repeat (first|exact (Kd.C_below HR344_1.out HB.out)|(with_reducible refine Kd.C_alloc ?_ _)|(with_reducible refine Kd.C_drewN ?_ _)|(with_reducible refine Kd.C_drew ?_)))
        (case side2=>exact HC344_1.out)
        rintro e w17 ⟨rfl,hb⟩
        refine ⟨_,rfl,?_⟩
        have n0_:=Aside0.mk (Kd.R_below (by (with_reducible repeat (first|apply yH|apply yI|apply yJ));exact HO343.out) hb)
        have n1_:=Aside0.mk (blk_below (g:=gb337) (o:=.cells #[.int .u8 a0_0,.slice (some ad344) l0_1.length c0_1] 44 (0,0)) (by (with_reducible repeat (first|refine yE ?_ _|refine yF ?_|refine yG ?_ _));exact BK337.out) hb)
        have n2_:=Aside0.mk (yP (by repeat (first|(with_reducible first|exact HB.out|apply yA|apply yB|apply yC|refine yD ?_ GE337.out)|exact HB.out)) hb)
        clear HO343
        clear BK337
        clear HB
        have HO343:=n0_
        have BK337:=n1_
        have HB:=n2_
        clear n0_ n1_ n2_
        (try clear hb)
        (try clear hb2)
        (try clear hk)
        (try clear hi)
        refine hK.out _ _ ⟨(blk_cell BK337.out 0).trans rfl,(blk_cell BK337.out 1).trans rfl,((HB.out.cell (World.block_lt_of_cell? w _ hw344_0)).trans hw344_0),((HB.out.cell (World.block_lt_of_cell? w _ hw344_1)).trans hw344_1)⟩ (fun hHeld=>?_)
        clear hK K
        refine norm_ (a':=?_) ?_ ?_
        rotate_left
        ·show Act.put _ (some 22) _=_
         simp only [Act.put,yK,yL,yM,i64_w,i32_w]
         rfl
        refine one_ (i:=3) (N:=some 17) #[true,true,true,true,true,true,true,true,true,false,false] rfl rfl (one_of HT_.out (by kernel_rfl)) (by decide) (fun K hK=>?_)
        have hcv18:=own_string (P:=Try.prog) Try.underlying22 Try.underlying5 Try.underlying9 (Kd.own_of_R HO343.out)
        refine value_ (w1:=?_) (v:=?_) (by rfl) rfl ?_ ?_
        rotate_left 2
        ·go_simp
         constructor
         ·rfl
         ·rfl
        clear hcv18
        refine hK.out _ _ ⟨(blk_cell BK337.out 0).trans rfl,(blk_cell BK337.out 1).trans rfl,((HB.out.cell (World.block_lt_of_cell? w _ hw344_0)).trans hw344_0),((HB.out.cell (World.block_lt_of_cell? w _ hw344_1)).trans hw344_1)⟩ (fun hHeld=>?_)
        clear hK K
        refine norm_ (a':=?_) ?_ ?_
        rotate_left
        ·show Act.put _ (some 17) _=_
         simp only [Act.put,yK,yL,yM,i64_w,i32_w]
         rfl
        exact norm_ (by simp only [putAll,Act.put,yK,yL,yM]) (hCont (v342) _ ⟨hHeld,(by (with_reducible repeat (first|apply yH|apply yI|apply yJ));exact HO343.out),(by (with_reducible repeat (first|refine yE ?_ _|refine yF ?_|refine yG ?_ _));exact BK337.out),(by repeat (first|(with_reducible first|exact HB.out|apply yA|apply yB|apply yC|refine yD ?_ GE337.out)|exact HB.out))⟩)
      ·skip
       refine goes_ Try.func49 (by kernel_rfl) rfl #[.agg #[.int .u8 ((rd_T44 l0_1 0).f0),.slice A344_1 ((rd_T44 l0_1 0).f1).length c344_1]] (by rfl) rfl rfl (by (try simp only [List.map_toArray,List.map_cons,List.map_nil]);first|done|rfl|(simp only [List.length_drop,List.length_take];rfl)) ?_
       with_reducible refine (ih k (by omega) ((rd_T44 l0_1 0).f0) _ _ ((rd_T44 l0_1 0).f1) t345 _ ?side1 ?side2 A10.out).mono ?_
       (case side1=>repeat (first|exact (Kd.C_below HR344_1.out HB.out)|(with_reducible refine Kd.C_alloc ?_ _)|(with_reducible refine Kd.C_drewN ?_ _)|(with_reducible refine Kd.C_drew ?_)))
       (case side2=>exact HC344_1.out)
       rintro e w15 ⟨rfl,hb⟩
       refine ⟨_,rfl,?_⟩
       have n0_:=Aside0.mk (blk_below (g:=gb337) (o:=.cells #[.int .u8 a0_0,.slice (some ad344) l0_1.length c0_1] 44 (0,0)) (by (with_reducible repeat (first|refine yE ?_ _|refine yF ?_|refine yG ?_ _));exact BK337.out) hb)
       have n1_:=Aside0.mk (yP (by repeat (first|(with_reducible first|exact HB.out|apply yA|apply yB|apply yC|refine yD ?_ GE337.out)|exact HB.out)) hb)
       clear BK337
       clear HB
       have BK337:=n0_
       have HB:=n1_
       clear n0_ n1_
       (try clear hb)
       (try clear hb2)
       (try clear hk)
       (try clear hi)
       refine hK.out _ _ ⟨(blk_cell BK337.out 0).trans rfl,(blk_cell BK337.out 1).trans rfl,((HB.out.cell (World.block_lt_of_cell? w _ hw344_0)).trans hw344_0),((HB.out.cell (World.block_lt_of_cell? w _ hw344_1)).trans hw344_1)⟩ (fun hHeld=>?_)
       clear hK K
       refine norm_ (a':=?_) ?_ ?_
       rotate_left
       ·show Act.put _ (some 22) _=_
        simp only [Act.put,yK,yL,yM,i64_w,i32_w]
        rfl
       refine one_ (i:=2) (N:=some 16) #[true,true,true,false,true,true,true,true,true,false,false] rfl rfl (one_of HT_.out (by kernel_rfl)) (by decide) (fun K hK=>?_)
       refine Kd.R_lit_step (Kd.int .u8) _ 5 ?hg (N:=16) ?hd (xs:=([a0_0]:List Int)) (inner:=[.int .u8 a0_0]) (ok:=fun _=>True) (okp:=fun _=>True) ?hr ?hp (fun _ hk=>hk) trivial (Below.refl _ _) (Nat.le_refl _) (by simp) ?_;(case hd=>rfl);(case hg=>rfl);(case hr=>first|(go_simp;done)|(go_simp;rfl));(case hp=>exact (Reps.one (show Kd.M (Kd.int .u8) _ _ _ a0_0 [.int .u8 a0_0] from rfl) (Reps.none _ _)))
       intro v342 w16 ho17 hb hg_ hnew_
       clear hg_ hnew_
       (first|rw [← Ny341.out] at ho17|(simp only [Int.reduceToNat] at ho17;rw [← Ny341.out] at ho17))
       have n0_:=Aside0.mk (Kd.R_lower ho17 (yQ (by repeat (first|(with_reducible first|exact HB.out|apply yA|apply yB|apply yC|refine yD ?_ GE337.out)|exact HB.out))))
       have n1_:=Aside0.mk (blk_below (g:=gb337) (o:=.cells #[.int .u8 a0_0,.slice (some ad344) l0_1.length c0_1] 44 (0,0)) (by (with_reducible repeat (first|refine yE ?_ _|refine yF ?_|refine yG ?_ _));exact BK337.out) hb)
       have n2_:=Aside0.mk (yP (by repeat (first|(with_reducible first|exact HB.out|apply yA|apply yB|apply yC|refine yD ?_ GE337.out)|exact HB.out)) hb)
       clear BK337
       clear HB
       have HO343:=n0_
       have BK337:=n1_
       have HB:=n2_
       clear n0_ n1_ n2_
       clear hb ho17
       refine hK.out _ _ ⟨(blk_cell BK337.out 0).trans rfl,(blk_cell BK337.out 1).trans rfl,((HB.out.cell (World.block_lt_of_cell? w _ hw344_0)).trans hw344_0),((HB.out.cell (World.block_lt_of_cell? w _ hw344_1)).trans hw344_1)⟩ (fun hHeld=>?_)
       clear hK K
       refine norm_ (a':=?_) ?_ ?_
       rotate_left
       ·show Act.put _ (some 16) _=_
        simp only [Act.put,yK,yL,yM,i64_w,i32_w]
        rfl
       refine one_ (i:=3) (N:=some 17) #[true,true,true,true,true,true,true,true,true,false,false] rfl rfl (one_of HT_.out (by kernel_rfl)) (by decide) (fun K hK=>?_)
       have hcv18:=own_string (P:=Try.prog) Try.underlying22 Try.underlying5 Try.underlying9 (Kd.own_of_R HO343.out)
       refine value_ (w1:=?_) (v:=?_) (by rfl) rfl ?_ ?_
       rotate_left 2
       ·go_simp
        constructor
        ·rfl
        ·rfl
       clear hcv18
       refine hK.out _ _ ⟨(blk_cell BK337.out 0).trans rfl,(blk_cell BK337.out 1).trans rfl,((HB.out.cell (World.block_lt_of_cell? w _ hw344_0)).trans hw344_0),((HB.out.cell (World.block_lt_of_cell? w _ hw344_1)).trans hw344_1)⟩ (fun hHeld=>?_)
       clear hK K
       refine norm_ (a':=?_) ?_ ?_
       rotate_left
       ·show Act.put _ (some 17) _=_
        simp only [Act.put,yK,yL,yM,i64_w,i32_w]
        rfl
       exact norm_ (by simp only [putAll,Act.put,yK,yL,yM]) (hCont (v342) _ ⟨hHeld,(by (with_reducible repeat (first|apply yH|apply yI|apply yJ));exact HO343.out),(by (with_reducible repeat (first|refine yE ?_ _|refine yF ?_|refine yG ?_ _));exact BK337.out),(by repeat (first|(with_reducible first|exact HB.out|apply yA|apply yB|apply yC|refine yD ?_ GE337.out)|exact HB.out))⟩)
     rintro v342 w19 ⟨hS_,h0_,h1_,h2_⟩
     have n0_:Aside0 (Kd.R (Kd.int .u8) 5 w19 w.heap.size (fun _=>True) v342 y341):=⟨h0_⟩
     have n1_:Aside0 (w19.heap[gb337]?=some (.cells #[.int .u8 a0_0,.slice (some ad344) l0_1.length c0_1] 44 (0,0))):=⟨h1_⟩
     have n2_:Aside0 (Below w.heap.size w w19):=⟨h2_⟩
     clear BK337
     clear HB
     clear h0_ h1_ h2_
     have HO343:=n0_
     have BK337:=n1_
     have HB:=n2_
     clear n0_ n1_ n2_
     have hHeld:w19.cell? ⟨gb337,0,none⟩=some (.int .u8 a0_0)∧w19.cell? ⟨gb337,1,none⟩=some (.slice (some ad344) l0_1.length c0_1)∧w19.cell? ad344=some (.int .u8 ((rd_T44 l0_1 0).f0))∧w19.cell? ⟨ad344.block,ad344.off+1,none⟩=some (.slice A344_1 ((rd_T44 l0_1 0).f1).length c344_1):=hS_
     refine norm_ (a':=?_) ?_ ?_
     rotate_left
     ·simp only [putAll,Act.put,yK,yL,yM]
      rfl
     refine pure_ (i:=9) (N:=some 23) (v:=?_) (a':=?_) #[true,true,true,true,true,true,true,true,true,true,false] rfl rfl (any_of HT_.out (by kernel_rfl)) (fun _ _ _ h=>h) (Or.inl ⟨by rfl,?_⟩) ?_ ?_
     rotate_left
     ·intro w'
      go_simp
      with_reducible rfl
     rotate_left
     ·simp only [Act.put,yK,yL,yM,i64_w,i32_w]
      rfl
     refine pure_ (i:=10) (N:=some 2) (v:=?_) (a':=?_) #[true,true,true,true,true,true,true,true,true,true,true] rfl rfl (any_of HT_.out (by kernel_rfl)) (fun _ _ _ h=>h) (Or.inl ⟨by rfl,?_⟩) ?_ ?_
     rotate_left
     ·intro w'
      go_simp
      with_reducible rfl
     rotate_left
     ·simp only [Act.put,yK,yL,yM,i64_w,i32_w]
      rfl
     refine done_ (done_of HT_.out (by kernel_rfl)) ?_
     try go_wp2
     go_ret
     exact ⟨by first|rfl|(simp [errW_none,errW_some]<;>rfl)|(simp [*,errW_none,errW_some]<;>rfl)|(simp [errW_none,errW_some];exact ⟨rfl,rfl⟩),by repeat (first|(with_reducible first|exact HB.out|apply yA|apply yB|apply yC|refine yD ?_ GE337.out)|exact HB.out)⟩
    ·rw [if_neg c11] at H
     exact absurd H (by simp)
   ·rw [if_neg c9] at H
    exact absurd H (by simp)
  ·rw [if_neg c8] at H
   have c8b0:((l0_1.length:Int) == 1)=false:=beq_eq_false_iff_ne.mpr c8
   have c8b1:((l0_1.length:Int) != 1)=true:=bne_iff_ne.mpr c8
   by_cases c20:0<(l0_1.length:Int)
   ·rw [if_pos c20] at H
    have c20b0:decide (0<(l0_1.length:Int))=true:=decide_eq_true c20
    have c20b1:decide (0<l0_1.length)=true:=decide_eq_true (by omega)
    clear c20
    replace H:=Option.bind_eq_some_iff.mp H
    obtain ⟨t347,A210,H⟩:=H
    replace H:(if 1+t347.size≤9223372036854775807 then ((some (([a0_0]:List Int):List Int)).bind fun y348=>(if 1+t347.size+(strOfNums y348).size≤9223372036854775807 then (if 1<(l0_1.length:Int) then ((spec_l7Write.f k ((rd_T44 l0_1 1).f0) ((rd_T44 l0_1 1).f1)).bind fun t352=>(if 1+t347.size+(strOfNums y348).size+t352.size≤9223372036854775807 then (if 1+t347.size+(strOfNums y348).size+t352.size+1≤9223372036854775807 then (some (((((⟨#[40]⟩:ByteArray)++t347)++(strOfNums y348))++t352)++(⟨#[41]⟩:ByteArray))) else (none)) else (none))) else (none)) else (none))) else (none))=some r:=H
    have A21:=Aside0.mk A210
    clear A210
    by_cases c22:1+t347.size≤9223372036854775807
    ·rw [if_pos c22] at H
     have c22b0:=eq_true c22
     have c22b1:decide (1+t347.size≤9223372036854775807)=true:=decide_eq_true c22
     try have c22b2:(9223372036854775807<1+t347.size)=False:=eq_false (Nat.not_lt.2 c22)
     obtain ⟨y348,hy348⟩:∃ y_:List Int,y_=(([a0_0]:List Int)):=⟨_,rfl⟩
     replace H:(if 1+t347.size+(strOfNums y348).size≤9223372036854775807 then (if 1<(l0_1.length:Int) then ((spec_l7Write.f k ((rd_T44 l0_1 1).f0) ((rd_T44 l0_1 1).f1)).bind fun t352=>(if 1+t347.size+(strOfNums y348).size+t352.size≤9223372036854775807 then (if 1+t347.size+(strOfNums y348).size+t352.size+1≤9223372036854775807 then (some (((((⟨#[40]⟩:ByteArray)++t347)++(strOfNums y348))++t352)++(⟨#[41]⟩:ByteArray))) else (none)) else (none))) else (none)) else (none))=some r:=by first|(rw [hy348];with_reducible exact H)|(have H2_:=(Option.bind_some _ _).symm.trans H;rw [hy348];with_reducible exact H2_)|(have H2_:=(Option.bind_some _ _).symm.trans H;with_reducible exact H2_)|with_reducible exact H|(rw [hy348];exact H)|exact H
     have Ny348:=Aside0.mk hy348
     clear hy348
     by_cases c23:1+t347.size+(strOfNums y348).size≤9223372036854775807
     ·rw [if_pos c23] at H
      have c23b0:=eq_true c23
      have c23b1:decide (1+t347.size+(strOfNums y348).size≤9223372036854775807)=true:=decide_eq_true c23
      try have c23b2:(9223372036854775807<1+t347.size+(strOfNums y348).size)=False:=eq_false (Nat.not_lt.2 c23)
      by_cases c24:1<(l0_1.length:Int)
      ·rw [if_pos c24] at H
       have c24b0:decide (1<(l0_1.length:Int))=true:=decide_eq_true c24
       have c24b1:decide (1<l0_1.length)=true:=decide_eq_true (by omega)
       clear c24
       replace H:=Option.bind_eq_some_iff.mp H
       obtain ⟨t352,A250,H⟩:=H
       replace H:(if 1+t347.size+(strOfNums y348).size+t352.size≤9223372036854775807 then (if 1+t347.size+(strOfNums y348).size+t352.size+1≤9223372036854775807 then (some (((((⟨#[40]⟩:ByteArray)++t347)++(strOfNums y348))++t352)++(⟨#[41]⟩:ByteArray))) else (none)) else (none))=some r:=H
       have A25:=Aside0.mk A250
       clear A250
       by_cases c26:1+t347.size+(strOfNums y348).size+t352.size≤9223372036854775807
       ·rw [if_pos c26] at H
        have c26b0:=eq_true c26
        have c26b1:decide (1+t347.size+(strOfNums y348).size+t352.size≤9223372036854775807)=true:=decide_eq_true c26
        try have c26b2:(9223372036854775807<1+t347.size+(strOfNums y348).size+t352.size)=False:=eq_false (Nat.not_lt.2 c26)
        by_cases c27:1+t347.size+(strOfNums y348).size+t352.size+1≤9223372036854775807
        ·rw [if_pos c27] at H
         have c27b0:=eq_true c27
         have c27b1:decide (1+t347.size+(strOfNums y348).size+t352.size+1≤9223372036854775807)=true:=decide_eq_true c27
         try have c27b2:(9223372036854775807<1+t347.size+(strOfNums y348).size+t352.size+1)=False:=eq_false (Nat.not_lt.2 c27)
         obtain rfl:=Option.some.inj H
         go_enter Try.func49,Try.ntmps49
         try go_wp2_with (first|((with_reducible refine gate_dst (N:=1) rfl ?_);refine box_event ?hg (N:=1) ?hd (cs:=#[.int .u8 a0_0,.slice A0_1 l0_1.length c0_1]) (t:=44) ?hr ?_;(case hd=>rfl);(case hg=>rfl);(case hr=>first|(go_simp;done)|(go_simp;rfl));intro gb337 hg w28 hbox hb;have n0_:=Aside0.mk (yP (by repeat (first|(with_reducible first|exact HB.out|apply yA|apply yB|apply yC)|exact HB.out)) hb);have n1_:=Aside0.mk (hbox);have n2_:=Aside0.mk ((by rw [hg];exact (yQ (by repeat (first|(with_reducible first|exact HB.out|apply yA|apply yB|apply yC)|exact HB.out))):w.heap.size≤gb337));have n3_:=Aside0.mk ((by rw [hg];exact (yQ (by repeat (first|(with_reducible first|exact HB.out|apply yA|apply yB|apply yC)|exact HB.out))):w.heap.size≤gb337));clear HB;have HB:=n0_;have BK337:=n1_;have GW337:=n2_;have GE337:=n3_;clear n0_ n1_ n2_ n3_;clear hb hbox hg;have hcz29_0:w28.cell? ⟨gb337,0,none⟩=some (.int .u8 a0_0):=(blk_cell BK337.out 0).trans rfl;have hcz29_1:w28.cell? ⟨gb337,1,none⟩=some (.slice A0_1 l0_1.length c0_1):=(blk_cell BK337.out 1).trans rfl;have hfz29_0:=blk_frozen BK337.out 0;have hfz29_1:=blk_frozen BK337.out 1))
         have n0_:=Aside0.mk (yF BK337.out)
         have n1_:=Aside0.mk (yC HB.out)
         clear BK337
         clear HB
         have BK337:=n0_
         have HB:=n1_
         clear n0_ n1_
         have p346:0≤(0:Int):=(by omega)
         have q346:0<(l0_1.length:Int):=of_decide_eq_true (by first|(with_reducible assumption)|assumption)
         obtain ⟨ad346,A346_1,c346_1,e346,hx346_0,hx346_1,hl346_1,hi346_1⟩:=at_T44 HR0_1.out 0 p346 q346
         have hw346_1:=hx346_1
         (try rw [show ((0:Int)).toNat=0 from rfl] at hw346_1)
         (try rw [show 0 * 2=0 from rfl] at hw346_1)
         (try rw [Addr.add_zero'] at hw346_1)
         have hw346_0:=hx346_0
         (try rw [show ((0:Int)).toNat=0 from rfl] at hw346_0)
         (try rw [show 0 * 2=0 from rfl] at hw346_0)
         (try rw [Addr.add_zero'] at hw346_0)
         cases e346
         have qi346:(0<l0_1.length)=True:=eq_true (by omega)
         (try rw [show ((0:Int)).toNat=0 from rfl] at hx346_0)
         (try rw [show 0 * 2=0 from rfl] at hx346_0)
         (try rw [Addr.add_zero'] at hx346_0)
         (try rw [show ((0:Int)).toNat=0 from rfl] at hx346_1)
         (try rw [show 0 * 2=0 from rfl] at hx346_1)
         (try rw [Addr.add_zero'] at hx346_1)
         replace hx346_0:=(HB.out.cell (World.block_lt_of_cell? w _ hx346_0)).trans hx346_0
         replace hx346_1:=(HB.out.cell (World.block_lt_of_cell? w _ hx346_1)).trans hx346_1
         have HR346_1:=Aside0.mk hi346_1
         have HC346_1:=Aside0.mk hl346_1
         clear hi346_1 hl346_1
         replace p346:=eq_true p346
         replace q346:=eq_true q346
         have p351:0≤(1:Int):=(by omega)
         have q351:1<(l0_1.length:Int):=of_decide_eq_true (by first|(with_reducible assumption)|assumption)
         obtain ⟨ad351,A351_1,c351_1,e351,hx351_0,hx351_1,hl351_1,hi351_1⟩:=at_T44 HR0_1.out 1 p351 q351
         have hw351_1:=hx351_1
         (try rw [show ((1:Int)).toNat=1 from rfl] at hw351_1)
         (try rw [show 1 * 2=2 from rfl] at hw351_1)
         (try simp only [Nat.reduceMul,Nat.reduceEqDiff,Go.Addr.add,↓reduceIte] at hw351_1)
         have hw351_0:=hx351_0
         (try rw [show ((1:Int)).toNat=1 from rfl] at hw351_0)
         (try rw [show 1 * 2=2 from rfl] at hw351_0)
         (try simp only [Nat.reduceMul,Nat.reduceEqDiff,Go.Addr.add,↓reduceIte] at hw351_0)
         obtain rfl:ad346=ad351:=(by injection e351)
         (try simp only [show (1:Int).toNat=1 from rfl,Nat.reduceMul,Nat.reduceEqDiff,Go.Addr.add,↓reduceIte] at hx351_0)
         (try simp only [show (1:Int).toNat=1 from rfl,Nat.reduceMul,Nat.reduceEqDiff,Go.Addr.add,↓reduceIte] at hx351_1)
         have qi351:(1<l0_1.length)=True:=eq_true (by omega)
         (try rw [show ((1:Int)).toNat=1 from rfl] at hx351_0)
         (try rw [show 1 * 2=2 from rfl] at hx351_0)
         (try rw [show ((1:Int)).toNat=1 from rfl] at hx351_1)
         (try rw [show 1 * 2=2 from rfl] at hx351_1)
         replace hx351_0:=(HB.out.cell (World.block_lt_of_cell? w _ hx351_0)).trans hx351_0
         replace hx351_1:=(HB.out.cell (World.block_lt_of_cell? w _ hx351_1)).trans hx351_1
         have HR351_1:=Aside0.mk hi351_1
         have HC351_1:=Aside0.mk hl351_1
         clear hi351_1 hl351_1
         replace p351:=eq_true p351
         replace q351:=eq_true q351
         refine start_ (n:=19) (S:=fun w'=>w'.cell? ⟨gb337,0,none⟩=some (.int .u8 a0_0)∧w'.cell? ⟨gb337,1,none⟩=some (.slice (some ad346) l0_1.length c0_1)∧w'.cell? ad346=some (.int .u8 ((rd_T44 l0_1 0).f0))∧w'.cell? ⟨ad346.block,ad346.off+1,none⟩=some (.slice A346_1 ((rd_T44 l0_1 0).f1).length c346_1)∧w'.cell? ⟨ad346.block,ad346.off+2,none⟩=some (.int .u8 ((rd_T44 l0_1 1).f0))∧w'.cell? ⟨ad346.block,ad346.off+2+1,none⟩=some (.slice A351_1 ((rd_T44 l0_1 1).f1).length c351_1)) (ds:=[]) #[false,false,false,false,false,false,false,false,false,false,false,false,false,false,false,false,false,false,false] (by kernel_rfl) rfl rfl ⟨(blk_cell BK337.out 0).trans rfl,(blk_cell BK337.out 1).trans rfl,((HB.out.cell (World.block_lt_of_cell? w _ hw346_0)).trans hw346_0),((HB.out.cell (World.block_lt_of_cell? w _ hw346_1)).trans hw346_1),((HB.out.cell (World.block_lt_of_cell? w _ hw351_0)).trans hw351_0),((HB.out.cell (World.block_lt_of_cell? w _ hw351_1)).trans hw351_1)⟩ (fun hHeld=>?_);refine with_tabW spec_l7Write.tab6 spec_l7Write.bits6 (fun HT_ HW_=>?_)
         generalize w28.drew=w30 at BK337 HB HR346_1 HR351_1 hx346_0 hx346_1 hx351_0 hx351_1 hHeld ⊢
         refine pure_ (i:=0) (N:=some 24) (v:=?_) (a':=?_) #[true,false,false,false,false,false,false,false,false,false,false,false,false,false,false,false,false,false,false] rfl rfl (any_of HT_.out (by kernel_rfl)) (fun _ _ _ h=>h) (Or.inl ⟨by rfl,?_⟩) ?_ ?_
         rotate_left
         ·intro w'
          go_simp
          with_reducible rfl
         rotate_left
         ·simp only [Act.put,yK,yL,yM,i64_w,i32_w]
          rfl
         refine pure_ (i:=6) (N:=some 30) (v:=?_) (a':=?_) #[true,false,false,false,false,false,true,false,false,false,false,false,false,false,false,false,false,false,false] rfl rfl (any_of HT_.out (by kernel_rfl)) (fun _ _ _ h=>h) (Or.inl ⟨by rfl,?_⟩) ?_ ?_
         rotate_left
         ·intro w'
          go_simp
          with_reducible rfl
         rotate_left
         ·simp only [Act.put,yK,yL,yM,i64_w,i32_w]
          rfl
         refine pure_ (i:=11) (N:=some 35) (v:=?_) (a':=?_) #[true,false,false,false,false,false,true,false,false,false,false,true,false,false,false,false,false,false,false] rfl rfl (any_of HT_.out (by kernel_rfl)) (fun _ _ _ h=>h) (Or.inl ⟨by rfl,?_⟩) ?_ ?_
         rotate_left
         ·intro w'
          go_simp
          with_reducible rfl
         rotate_left
         ·simp only [Act.put,yK,yL,yM,i64_w,i32_w]
          rfl
         refine take_ (i:=1) (N:=some 25) (v:=?_) (a':=?_) #[true,true,false,false,false,false,true,false,false,false,false,true,false,false,false,false,false,false,false] rfl rfl (take_ofW HT_.out HW_.out (by kernel_rfl)) (fun _ _ _ h=>h) (Or.inl ⟨by rfl,?_⟩) hHeld ?_ ?_
         rotate_left
         ·rintro w' ⟨s0,s1,s2,s3,s4,s5⟩
          go_simp
          with_reducible rfl
         rotate_left
         ·simp only [Act.put,yK,yL,yM,i64_w,i32_w]
          rfl
         refine pure_ (i:=2) (N:=some 26) (v:=?_) (a':=?_) #[true,true,true,false,false,false,true,false,false,false,false,true,false,false,false,false,false,false,false] rfl rfl (any_of HT_.out (by kernel_rfl)) (fun _ _ _ h=>h) (Or.inl ⟨by rfl,?_⟩) ?_ ?_
         rotate_left
         ·intro w'
          go_simp
          with_reducible rfl
         rotate_left
         ·simp only [Act.put,yK,yL,yM,i64_w,i32_w]
          rfl
         refine take_ (i:=3) (N:=some 27) (v:=?_) (a':=?_) #[true,true,true,true,false,false,true,false,false,false,false,true,false,false,false,false,false,false,false] rfl rfl (take_ofW HT_.out HW_.out (by kernel_rfl)) (fun _ _ _ h=>h) (Or.inl ⟨by rfl,?_⟩) hHeld ?_ ?_
         rotate_left
         ·rintro w' ⟨s0,s1,s2,s3,s4,s5⟩
          go_simp
          with_reducible rfl
         rotate_left
         ·simp only [Act.put,yK,yL,yM,i64_w,i32_w]
          rfl
         refine take_ (i:=7) (N:=some 31) (v:=?_) (a':=?_) #[true,true,true,true,false,false,true,true,false,false,false,true,false,false,false,false,false,false,false] rfl rfl (take_ofW HT_.out HW_.out (by kernel_rfl)) (fun _ _ _ h=>h) (Or.inl ⟨by rfl,?_⟩) hHeld ?_ ?_
         rotate_left
         ·rintro w' ⟨s0,s1,s2,s3,s4,s5⟩
          go_simp
          with_reducible rfl
         rotate_left
         ·simp only [Act.put,yK,yL,yM,i64_w,i32_w]
          rfl
         refine take_ (i:=12) (N:=some 36) (v:=?_) (a':=?_) #[true,true,true,true,false,false,true,true,false,false,false,true,true,false,false,false,false,false,false] rfl rfl (take_ofW HT_.out HW_.out (by kernel_rfl)) (fun _ _ _ h=>h) (Or.inl ⟨by rfl,?_⟩) hHeld ?_ ?_
         rotate_left
         ·rintro w' ⟨s0,s1,s2,s3,s4,s5⟩
          go_simp
          with_reducible rfl
         rotate_left
         ·simp only [Act.put,yK,yL,yM,i64_w,i32_w]
          rfl
         refine pure_ (i:=13) (N:=some 37) (v:=?_) (a':=?_) #[true,true,true,true,false,false,true,true,false,false,false,true,true,true,false,false,false,false,false] rfl rfl (any_of HT_.out (by kernel_rfl)) (fun _ _ _ h=>h) (Or.inl ⟨by rfl,?_⟩) ?_ ?_
         rotate_left
         ·intro w'
          go_simp
          with_reducible rfl
         rotate_left
         ·simp only [Act.put,yK,yL,yM,i64_w,i32_w]
          rfl
         refine take_ (i:=14) (N:=some 38) (v:=?_) (a':=?_) #[true,true,true,true,false,false,true,true,false,false,false,true,true,true,true,false,false,false,false] rfl rfl (take_ofW HT_.out HW_.out (by kernel_rfl)) (fun _ _ _ h=>h) (Or.inl ⟨by rfl,?_⟩) hHeld ?_ ?_
         rotate_left
         ·rintro w' ⟨s0,s1,s2,s3,s4,s5⟩
          go_simp
          with_reducible rfl
         rotate_left
         ·simp only [Act.put,yK,yL,yM,i64_w,i32_w]
          rfl
         refine join_ (σ:=Value) 3 #[true,true,true,true,true,true,true,true,true,true,true,true,true,true,true,true,false,false,false] (fun s_=>[(28,.string t347),(32,s_),(33,.string (strOfNums y348)),(39,.string t352),(29,.string ((⟨#[40]⟩:ByteArray)++t347)),(34,.string (((⟨#[40]⟩:ByteArray)++t347)++(strOfNums y348)))]) (fun s_ w'=>(w'.cell? ⟨gb337,0,none⟩=some (.int .u8 a0_0)∧w'.cell? ⟨gb337,1,none⟩=some (.slice (some ad346) l0_1.length c0_1)∧w'.cell? ad346=some (.int .u8 ((rd_T44 l0_1 0).f0))∧w'.cell? ⟨ad346.block,ad346.off+1,none⟩=some (.slice A346_1 ((rd_T44 l0_1 0).f1).length c346_1)∧w'.cell? ⟨ad346.block,ad346.off+2,none⟩=some (.int .u8 ((rd_T44 l0_1 1).f0))∧w'.cell? ⟨ad346.block,ad346.off+2+1,none⟩=some (.slice A351_1 ((rd_T44 l0_1 1).f1).length c351_1))∧(Kd.R (Kd.int .u8) 5 w' w.heap.size (fun _=>True) s_ y348)∧(w'.heap[gb337]?=some (.cells #[.int .u8 a0_0,.slice (some ad346) l0_1.length c0_1] 44 (0,0)))∧(Below w.heap.size w w')) ?_ ?_
         rotate_left
         ·intro hJ4_8_9_15
          refine join_ (σ:=Value) 4 #[true,true,true,true,true,true,true,true,true,true,true,true,true,true,true,false,false,false,false] (fun s_=>[(28,.string t347),(32,s_),(33,.string (strOfNums y348)),(29,.string ((⟨#[40]⟩:ByteArray)++t347)),(34,.string (((⟨#[40]⟩:ByteArray)++t347)++(strOfNums y348)))]) (fun s_ w'=>(w'.cell? ⟨gb337,0,none⟩=some (.int .u8 a0_0)∧w'.cell? ⟨gb337,1,none⟩=some (.slice (some ad346) l0_1.length c0_1)∧w'.cell? ad346=some (.int .u8 ((rd_T44 l0_1 0).f0))∧w'.cell? ⟨ad346.block,ad346.off+1,none⟩=some (.slice A346_1 ((rd_T44 l0_1 0).f1).length c346_1)∧w'.cell? ⟨ad346.block,ad346.off+2,none⟩=some (.int .u8 ((rd_T44 l0_1 1).f0))∧w'.cell? ⟨ad346.block,ad346.off+2+1,none⟩=some (.slice A351_1 ((rd_T44 l0_1 1).f1).length c351_1))∧(Kd.R (Kd.int .u8) 5 w' w.heap.size (fun _=>True) s_ y348)∧(w'.heap[gb337]?=some (.cells #[.int .u8 a0_0,.slice (some ad346) l0_1.length c0_1] 44 (0,0)))∧(Below w.heap.size w w')) ?_ ?_
          rotate_left
          ·intro hJ4_8_9
           refine join_ (σ:=Value) 5 #[true,true,true,true,true,true,true,true,true,false,false,true,true,true,true,true,false,false,false] (fun s_=>[(28,.string t347),(32,s_),(39,.string t352),(29,.string ((⟨#[40]⟩:ByteArray)++t347))]) (fun s_ w'=>(w'.cell? ⟨gb337,0,none⟩=some (.int .u8 a0_0)∧w'.cell? ⟨gb337,1,none⟩=some (.slice (some ad346) l0_1.length c0_1)∧w'.cell? ad346=some (.int .u8 ((rd_T44 l0_1 0).f0))∧w'.cell? ⟨ad346.block,ad346.off+1,none⟩=some (.slice A346_1 ((rd_T44 l0_1 0).f1).length c346_1)∧w'.cell? ⟨ad346.block,ad346.off+2,none⟩=some (.int .u8 ((rd_T44 l0_1 1).f0))∧w'.cell? ⟨ad346.block,ad346.off+2+1,none⟩=some (.slice A351_1 ((rd_T44 l0_1 1).f1).length c351_1))∧(Kd.R (Kd.int .u8) 5 w' w.heap.size (fun _=>True) s_ y348)∧(w'.heap[gb337]?=some (.cells #[.int .u8 a0_0,.slice (some ad346) l0_1.length c0_1] 44 (0,0)))∧(Below w.heap.size w w')) ?_ ?_
           rotate_left
           ·intro hJ4_8_15
            refine join_ (σ:=Value) 6 #[true,true,true,true,true,true,true,true,true,false,false,true,true,true,true,false,false,false,false] (fun s_=>[(28,.string t347),(32,s_),(29,.string ((⟨#[40]⟩:ByteArray)++t347))]) (fun s_ w'=>(w'.cell? ⟨gb337,0,none⟩=some (.int .u8 a0_0)∧w'.cell? ⟨gb337,1,none⟩=some (.slice (some ad346) l0_1.length c0_1)∧w'.cell? ad346=some (.int .u8 ((rd_T44 l0_1 0).f0))∧w'.cell? ⟨ad346.block,ad346.off+1,none⟩=some (.slice A346_1 ((rd_T44 l0_1 0).f1).length c346_1)∧w'.cell? ⟨ad346.block,ad346.off+2,none⟩=some (.int .u8 ((rd_T44 l0_1 1).f0))∧w'.cell? ⟨ad346.block,ad346.off+2+1,none⟩=some (.slice A351_1 ((rd_T44 l0_1 1).f1).length c351_1))∧(Kd.R (Kd.int .u8) 5 w' w.heap.size (fun _=>True) s_ y348)∧(w'.heap[gb337]?=some (.cells #[.int .u8 a0_0,.slice (some ad346) l0_1.length c0_1] 44 (0,0)))∧(Below w.heap.size w w')) ?_ ?_
            rotate_left
            ·intro hJ4_8
             refine join_ (σ:=Unit) 6 #[true,true,true,true,true,true,true,true,false,false,false,true,true,true,true,true,false,false,false] (fun s_=>[(28,.string t347),(39,.string t352),(29,.string ((⟨#[40]⟩:ByteArray)++t347))]) (fun s_ w'=>(w'.cell? ⟨gb337,0,none⟩=some (.int .u8 a0_0)∧w'.cell? ⟨gb337,1,none⟩=some (.slice (some ad346) l0_1.length c0_1)∧w'.cell? ad346=some (.int .u8 ((rd_T44 l0_1 0).f0))∧w'.cell? ⟨ad346.block,ad346.off+1,none⟩=some (.slice A346_1 ((rd_T44 l0_1 0).f1).length c346_1)∧w'.cell? ⟨ad346.block,ad346.off+2,none⟩=some (.int .u8 ((rd_T44 l0_1 1).f0))∧w'.cell? ⟨ad346.block,ad346.off+2+1,none⟩=some (.slice A351_1 ((rd_T44 l0_1 1).f1).length c351_1))∧(w'.heap[gb337]?=some (.cells #[.int .u8 a0_0,.slice (some ad346) l0_1.length c0_1] 44 (0,0)))∧(Below w.heap.size w w')) ?_ ?_
             rotate_left
             ·intro hJ4_15
              refine join_ (σ:=Value) 7 #[true,true,true,true,false,false,true,true,true,true,false,true,true,true,true,false,false,false,false] (fun s_=>[(32,s_),(33,.string (strOfNums y348))]) (fun s_ w'=>(w'.cell? ⟨gb337,0,none⟩=some (.int .u8 a0_0)∧w'.cell? ⟨gb337,1,none⟩=some (.slice (some ad346) l0_1.length c0_1)∧w'.cell? ad346=some (.int .u8 ((rd_T44 l0_1 0).f0))∧w'.cell? ⟨ad346.block,ad346.off+1,none⟩=some (.slice A346_1 ((rd_T44 l0_1 0).f1).length c346_1)∧w'.cell? ⟨ad346.block,ad346.off+2,none⟩=some (.int .u8 ((rd_T44 l0_1 1).f0))∧w'.cell? ⟨ad346.block,ad346.off+2+1,none⟩=some (.slice A351_1 ((rd_T44 l0_1 1).f1).length c351_1))∧(Kd.R (Kd.int .u8) 5 w' w.heap.size (fun _=>True) s_ y348)∧(w'.heap[gb337]?=some (.cells #[.int .u8 a0_0,.slice (some ad346) l0_1.length c0_1] 44 (0,0)))∧(Below w.heap.size w w')) ?_ ?_
              rotate_left
              ·intro hJ8_9
               refine join_ (σ:=Unit) 7 #[true,true,true,true,true,true,true,true,false,false,false,true,true,true,true,false,false,false,false] (fun s_=>[(28,.string t347),(29,.string ((⟨#[40]⟩:ByteArray)++t347))]) (fun s_ w'=>(w'.cell? ⟨gb337,0,none⟩=some (.int .u8 a0_0)∧w'.cell? ⟨gb337,1,none⟩=some (.slice (some ad346) l0_1.length c0_1)∧w'.cell? ad346=some (.int .u8 ((rd_T44 l0_1 0).f0))∧w'.cell? ⟨ad346.block,ad346.off+1,none⟩=some (.slice A346_1 ((rd_T44 l0_1 0).f1).length c346_1)∧w'.cell? ⟨ad346.block,ad346.off+2,none⟩=some (.int .u8 ((rd_T44 l0_1 1).f0))∧w'.cell? ⟨ad346.block,ad346.off+2+1,none⟩=some (.slice A351_1 ((rd_T44 l0_1 1).f1).length c351_1))∧(w'.heap[gb337]?=some (.cells #[.int .u8 a0_0,.slice (some ad346) l0_1.length c0_1] 44 (0,0)))∧(Below w.heap.size w w')) ?_ ?_
               rotate_left
               ·intro hJ4
                refine join_ (σ:=Value) 8 #[true,true,true,true,false,false,true,true,true,false,false,true,true,true,true,false,false,false,false] (fun s_=>[(32,s_)]) (fun s_ w'=>(w'.cell? ⟨gb337,0,none⟩=some (.int .u8 a0_0)∧w'.cell? ⟨gb337,1,none⟩=some (.slice (some ad346) l0_1.length c0_1)∧w'.cell? ad346=some (.int .u8 ((rd_T44 l0_1 0).f0))∧w'.cell? ⟨ad346.block,ad346.off+1,none⟩=some (.slice A346_1 ((rd_T44 l0_1 0).f1).length c346_1)∧w'.cell? ⟨ad346.block,ad346.off+2,none⟩=some (.int .u8 ((rd_T44 l0_1 1).f0))∧w'.cell? ⟨ad346.block,ad346.off+2+1,none⟩=some (.slice A351_1 ((rd_T44 l0_1 1).f1).length c351_1))∧(Kd.R (Kd.int .u8) 5 w' w.heap.size (fun _=>True) s_ y348)∧(w'.heap[gb337]?=some (.cells #[.int .u8 a0_0,.slice (some ad346) l0_1.length c0_1] 44 (0,0)))∧(Below w.heap.size w w')) ?_ ?_
                rotate_left
                ·intro hJ8
                 refine two_ (i:=4) (j:=8) (Ni:=some 28) (Nj:=some 32) #[true,true,true,true,true,false,true,true,false,false,false,true,true,true,true,false,false,false,false] #[true,true,true,true,false,false,true,true,true,false,false,true,true,true,true,false,false,false,false] rfl rfl rfl rfl (two_of HT_.out (by kernel_rfl)) (by decide) (by decide) (fun K hK=>?_) (fun K hK=>?_)
                 ·skip
                  refine goes_ Try.func49 (by kernel_rfl) rfl #[.agg #[.int .u8 ((rd_T44 l0_1 0).f0),.slice A346_1 ((rd_T44 l0_1 0).f1).length c346_1]] (by rfl) rfl rfl (by (try simp only [List.map_toArray,List.map_cons,List.map_nil]);first|done|rfl|(simp only [List.length_drop,List.length_take];rfl)) ?_
                  with_reducible refine (ih k (by omega) ((rd_T44 l0_1 0).f0) _ _ ((rd_T44 l0_1 0).f1) t347 _ ?side1 ?side2 A21.out).mono ?_
                  (case side1=>repeat (first|exact (Kd.C_below HR346_1.out HB.out)|(with_reducible refine Kd.C_alloc ?_ _)|(with_reducible refine Kd.C_drewN ?_ _)|(with_reducible refine Kd.C_drew ?_)))
                  (case side2=>exact HC346_1.out)
                  rintro e w31 ⟨rfl,hb⟩
                  refine ⟨_,rfl,?_⟩
                  have n0_:=Aside0.mk (blk_below (g:=gb337) (o:=.cells #[.int .u8 a0_0,.slice (some ad346) l0_1.length c0_1] 44 (0,0)) (by (with_reducible repeat (first|refine yE ?_ _|refine yF ?_|refine yG ?_ _));exact BK337.out) hb)
                  have n1_:=Aside0.mk (yP (by repeat (first|(with_reducible first|exact HB.out|apply yA|apply yB|apply yC|refine yD ?_ GE337.out)|exact HB.out)) hb)
                  clear BK337
                  clear HB
                  have BK337:=n0_
                  have HB:=n1_
                  clear n0_ n1_
                  (try clear hb)
                  (try clear hb2)
                  (try clear hk)
                  (try clear hi)
                  refine hK.out _ _ ⟨(blk_cell BK337.out 0).trans rfl,(blk_cell BK337.out 1).trans rfl,((HB.out.cell (World.block_lt_of_cell? w _ hw346_0)).trans hw346_0),((HB.out.cell (World.block_lt_of_cell? w _ hw346_1)).trans hw346_1),((HB.out.cell (World.block_lt_of_cell? w _ hw351_0)).trans hw351_0),((HB.out.cell (World.block_lt_of_cell? w _ hw351_1)).trans hw351_1)⟩ (fun hHeld=>?_)
                  clear hK K
                  refine norm_ (a':=?_) ?_ ?_
                  rotate_left
                  ·show Act.put _ (some 28) _=_
                   simp only [Act.put,yK,yL,yM,i64_w,i32_w]
                   rfl
                  refine pure_ (i:=5) (N:=some 29) (v:=?_) (a':=?_) #[true,true,true,true,true,true,true,true,false,false,false,true,true,true,true,false,false,false,false] rfl rfl (any_of HT_.out (by kernel_rfl)) (fun _ _ _ h=>h) (Or.inl ⟨by rfl,?_⟩) ?_ ?_
                  rotate_left
                  ·intro w'
                   go_simp
                   with_reducible rfl
                  rotate_left
                  ·simp only [Act.put,yK,yL,yM,i64_w,i32_w]
                   rfl
                  exact norm_ (by first|(simp only [putAll,Act.put,yK,yL,yM];done)|(simp only [putAll,Act.put,yK,yL,yM];rfl)) (hJ4 () _ ⟨hHeld,(by (with_reducible repeat (first|refine yE ?_ _|refine yF ?_|refine yG ?_ _));exact BK337.out),(by repeat (first|(with_reducible first|exact HB.out|apply yA|apply yB|apply yC|refine yD ?_ GE337.out)|exact HB.out))⟩)
                 ·skip
                  refine Kd.R_lit_step (Kd.int .u8) _ 5 ?hg (N:=32) ?hd (xs:=([a0_0]:List Int)) (inner:=[.int .u8 a0_0]) (ok:=fun _=>True) (okp:=fun _=>True) ?hr ?hp (fun _ hk=>hk) trivial (Below.refl _ _) (Nat.le_refl _) (by simp) ?_;(case hd=>rfl);(case hg=>rfl);(case hr=>first|(go_simp;done)|(go_simp;rfl));(case hp=>exact (Reps.one (show Kd.M (Kd.int .u8) _ _ _ a0_0 [.int .u8 a0_0] from rfl) (Reps.none _ _)))
                  intro v349 w31 ho32 hb hg_ hnew_
                  clear hg_ hnew_
                  (first|rw [← Ny348.out] at ho32|(simp only [Int.reduceToNat] at ho32;rw [← Ny348.out] at ho32))
                  have n0_:=Aside0.mk (Kd.R_lower ho32 (yQ (by repeat (first|(with_reducible first|exact HB.out|apply yA|apply yB|apply yC|refine yD ?_ GE337.out)|exact HB.out))))
                  have n1_:=Aside0.mk (blk_below (g:=gb337) (o:=.cells #[.int .u8 a0_0,.slice (some ad346) l0_1.length c0_1] 44 (0,0)) (by (with_reducible repeat (first|refine yE ?_ _|refine yF ?_|refine yG ?_ _));exact BK337.out) hb)
                  have n2_:=Aside0.mk (yP (by repeat (first|(with_reducible first|exact HB.out|apply yA|apply yB|apply yC|refine yD ?_ GE337.out)|exact HB.out)) hb)
                  clear BK337
                  clear HB
                  have HO350:=n0_
                  have BK337:=n1_
                  have HB:=n2_
                  clear n0_ n1_ n2_
                  clear hb ho32
                  refine hK.out _ _ ⟨(blk_cell BK337.out 0).trans rfl,(blk_cell BK337.out 1).trans rfl,((HB.out.cell (World.block_lt_of_cell? w _ hw346_0)).trans hw346_0),((HB.out.cell (World.block_lt_of_cell? w _ hw346_1)).trans hw346_1),((HB.out.cell (World.block_lt_of_cell? w _ hw351_0)).trans hw351_0),((HB.out.cell (World.block_lt_of_cell? w _ hw351_1)).trans hw351_1)⟩ (fun hHeld=>?_)
                  clear hK K
                  refine norm_ (a':=?_) ?_ ?_
                  rotate_left
                  ·show Act.put _ (some 32) _=_
                   simp only [Act.put,yK,yL,yM,i64_w,i32_w]
                   rfl
                  exact norm_ (by first|(simp only [putAll,Act.put,yK,yL,yM];done)|(simp only [putAll,Act.put,yK,yL,yM];rfl)) (hJ8 (v349) _ ⟨hHeld,(by (with_reducible repeat (first|apply yH|apply yI|apply yJ));exact HO350.out),(by (with_reducible repeat (first|refine yE ?_ _|refine yF ?_|refine yG ?_ _));exact BK337.out),(by repeat (first|(with_reducible first|exact HB.out|apply yA|apply yB|apply yC|refine yD ?_ GE337.out)|exact HB.out))⟩)
                ·skip
                 rintro v349 w33 ⟨hS_,h0_,h1_,h2_⟩
                 have n0_:Aside0 (Kd.R (Kd.int .u8) 5 w33 w.heap.size (fun _=>True) v349 y348):=⟨h0_⟩
                 have n1_:Aside0 (w33.heap[gb337]?=some (.cells #[.int .u8 a0_0,.slice (some ad346) l0_1.length c0_1] 44 (0,0))):=⟨h1_⟩
                 have n2_:Aside0 (Below w.heap.size w w33):=⟨h2_⟩
                 clear BK337
                 clear HB
                 clear h0_ h1_ h2_
                 have HO350:=n0_
                 have BK337:=n1_
                 have HB:=n2_
                 clear n0_ n1_ n2_
                 have hHeld:w33.cell? ⟨gb337,0,none⟩=some (.int .u8 a0_0)∧w33.cell? ⟨gb337,1,none⟩=some (.slice (some ad346) l0_1.length c0_1)∧w33.cell? ad346=some (.int .u8 ((rd_T44 l0_1 0).f0))∧w33.cell? ⟨ad346.block,ad346.off+1,none⟩=some (.slice A346_1 ((rd_T44 l0_1 0).f1).length c346_1)∧w33.cell? ⟨ad346.block,ad346.off+2,none⟩=some (.int .u8 ((rd_T44 l0_1 1).f0))∧w33.cell? ⟨ad346.block,ad346.off+2+1,none⟩=some (.slice A351_1 ((rd_T44 l0_1 1).f1).length c351_1):=hS_
                 refine norm_ (a':=?_) ?_ ?_
                 rotate_left
                 ·simp only [putAll,Act.put,yK,yL,yM]
                  rfl
                 refine two_ (i:=4) (j:=9) (Ni:=some 28) (Nj:=some 33) #[true,true,true,true,true,false,true,true,true,false,false,true,true,true,true,false,false,false,false] #[true,true,true,true,false,false,true,true,true,true,false,true,true,true,true,false,false,false,false] rfl rfl rfl rfl (two_of HT_.out (by kernel_rfl)) (by decide) (by decide) (fun K hK=>?_) (fun K hK=>?_)
                 ·skip
                  refine goes_ Try.func49 (by kernel_rfl) rfl #[.agg #[.int .u8 ((rd_T44 l0_1 0).f0),.slice A346_1 ((rd_T44 l0_1 0).f1).length c346_1]] (by rfl) rfl rfl (by (try simp only [List.map_toArray,List.map_cons,List.map_nil]);first|done|rfl|(simp only [List.length_drop,List.length_take];rfl)) ?_
                  with_reducible refine (ih k (by omega) ((rd_T44 l0_1 0).f0) _ _ ((rd_T44 l0_1 0).f1) t347 _ ?side1 ?side2 A21.out).mono ?_
                  (case side1=>repeat (first|exact (Kd.C_below HR346_1.out HB.out)|(with_reducible refine Kd.C_alloc ?_ _)|(with_reducible refine Kd.C_drewN ?_ _)|(with_reducible refine Kd.C_drew ?_)))
                  (case side2=>exact HC346_1.out)
                  rintro e w34 ⟨rfl,hb⟩
                  refine ⟨_,rfl,?_⟩
                  have n0_:=Aside0.mk (Kd.R_below (by (with_reducible repeat (first|apply yH|apply yI|apply yJ));exact HO350.out) hb)
                  have n1_:=Aside0.mk (blk_below (g:=gb337) (o:=.cells #[.int .u8 a0_0,.slice (some ad346) l0_1.length c0_1] 44 (0,0)) (by (with_reducible repeat (first|refine yE ?_ _|refine yF ?_|refine yG ?_ _));exact BK337.out) hb)
                  have n2_:=Aside0.mk (yP (by repeat (first|(with_reducible first|exact HB.out|apply yA|apply yB|apply yC|refine yD ?_ GE337.out)|exact HB.out)) hb)
                  clear HO350
                  clear BK337
                  clear HB
                  have HO350:=n0_
                  have BK337:=n1_
                  have HB:=n2_
                  clear n0_ n1_ n2_
                  (try clear hb)
                  (try clear hb2)
                  (try clear hk)
                  (try clear hi)
                  refine hK.out _ _ ⟨(blk_cell BK337.out 0).trans rfl,(blk_cell BK337.out 1).trans rfl,((HB.out.cell (World.block_lt_of_cell? w _ hw346_0)).trans hw346_0),((HB.out.cell (World.block_lt_of_cell? w _ hw346_1)).trans hw346_1),((HB.out.cell (World.block_lt_of_cell? w _ hw351_0)).trans hw351_0),((HB.out.cell (World.block_lt_of_cell? w _ hw351_1)).trans hw351_1)⟩ (fun hHeld=>?_)
                  clear hK K
                  refine norm_ (a':=?_) ?_ ?_
                  rotate_left
                  ·show Act.put _ (some 28) _=_
                   simp only [Act.put,yK,yL,yM,i64_w,i32_w]
                   rfl
                  refine pure_ (i:=5) (N:=some 29) (v:=?_) (a':=?_) #[true,true,true,true,true,true,true,true,true,false,false,true,true,true,true,false,false,false,false] rfl rfl (any_of HT_.out (by kernel_rfl)) (fun _ _ _ h=>h) (Or.inl ⟨by rfl,?_⟩) ?_ ?_
                  rotate_left
                  ·intro w'
                   go_simp
                   with_reducible rfl
                  rotate_left
                  ·simp only [Act.put,yK,yL,yM,i64_w,i32_w]
                   rfl
                  exact norm_ (by first|(simp only [putAll,Act.put,yK,yL,yM];done)|(simp only [putAll,Act.put,yK,yL,yM];rfl)) (hJ4_8 (v349) _ ⟨hHeld,(by (with_reducible repeat (first|apply yH|apply yI|apply yJ));exact HO350.out),(by (with_reducible repeat (first|refine yE ?_ _|refine yF ?_|refine yG ?_ _));exact BK337.out),(by repeat (first|(with_reducible first|exact HB.out|apply yA|apply yB|apply yC|refine yD ?_ GE337.out)|exact HB.out))⟩)
                 ·skip
                  have hcv34:=own_string (P:=Try.prog) Try.underlying22 Try.underlying5 Try.underlying9 (Kd.own_of_R HO350.out)
                  refine value_ (w1:=?_) (v:=?_) (by rfl) rfl ?_ ?_
                  rotate_left 2
                  ·go_simp
                   constructor
                   ·rfl
                   ·rfl
                  clear hcv34
                  refine hK.out _ _ ⟨(blk_cell BK337.out 0).trans rfl,(blk_cell BK337.out 1).trans rfl,((HB.out.cell (World.block_lt_of_cell? w _ hw346_0)).trans hw346_0),((HB.out.cell (World.block_lt_of_cell? w _ hw346_1)).trans hw346_1),((HB.out.cell (World.block_lt_of_cell? w _ hw351_0)).trans hw351_0),((HB.out.cell (World.block_lt_of_cell? w _ hw351_1)).trans hw351_1)⟩ (fun hHeld=>?_)
                  clear hK K
                  refine norm_ (a':=?_) ?_ ?_
                  rotate_left
                  ·show Act.put _ (some 33) _=_
                   simp only [Act.put,yK,yL,yM,i64_w,i32_w]
                   rfl
                  exact norm_ (by first|(simp only [putAll,Act.put,yK,yL,yM];done)|(simp only [putAll,Act.put,yK,yL,yM];rfl)) (hJ8_9 (v349) _ ⟨hHeld,(by (with_reducible repeat (first|apply yH|apply yI|apply yJ));exact HO350.out),(by (with_reducible repeat (first|refine yE ?_ _|refine yF ?_|refine yG ?_ _));exact BK337.out),(by repeat (first|(with_reducible first|exact HB.out|apply yA|apply yB|apply yC|refine yD ?_ GE337.out)|exact HB.out))⟩)
               ·skip
                rintro _ w32 ⟨hS_,h0_,h1_⟩
                have n0_:Aside0 (w32.heap[gb337]?=some (.cells #[.int .u8 a0_0,.slice (some ad346) l0_1.length c0_1] 44 (0,0))):=⟨h0_⟩
                have n1_:Aside0 (Below w.heap.size w w32):=⟨h1_⟩
                clear BK337
                clear HB
                clear h0_ h1_
                have BK337:=n0_
                have HB:=n1_
                clear n0_ n1_
                have hHeld:w32.cell? ⟨gb337,0,none⟩=some (.int .u8 a0_0)∧w32.cell? ⟨gb337,1,none⟩=some (.slice (some ad346) l0_1.length c0_1)∧w32.cell? ad346=some (.int .u8 ((rd_T44 l0_1 0).f0))∧w32.cell? ⟨ad346.block,ad346.off+1,none⟩=some (.slice A346_1 ((rd_T44 l0_1 0).f1).length c346_1)∧w32.cell? ⟨ad346.block,ad346.off+2,none⟩=some (.int .u8 ((rd_T44 l0_1 1).f0))∧w32.cell? ⟨ad346.block,ad346.off+2+1,none⟩=some (.slice A351_1 ((rd_T44 l0_1 1).f1).length c351_1):=hS_
                refine norm_ (a':=?_) ?_ ?_
                rotate_left
                ·simp only [putAll,Act.put,yK,yL,yM]
                 rfl
                refine two_ (i:=8) (j:=15) (Ni:=some 32) (Nj:=some 39) #[true,true,true,true,true,true,true,true,true,false,false,true,true,true,true,false,false,false,false] #[true,true,true,true,true,true,true,true,false,false,false,true,true,true,true,true,false,false,false] rfl rfl rfl rfl (two_of HT_.out (by kernel_rfl)) (by decide) (by decide) (fun K hK=>?_) (fun K hK=>?_)
                ·skip
                 refine Kd.R_lit_step (Kd.int .u8) _ 5 ?hg (N:=32) ?hd (xs:=([a0_0]:List Int)) (inner:=[.int .u8 a0_0]) (ok:=fun _=>True) (okp:=fun _=>True) ?hr ?hp (fun _ hk=>hk) trivial (Below.refl _ _) (Nat.le_refl _) (by simp) ?_;(case hd=>rfl);(case hg=>rfl);(case hr=>first|(go_simp;done)|(go_simp;rfl));(case hp=>exact (Reps.one (show Kd.M (Kd.int .u8) _ _ _ a0_0 [.int .u8 a0_0] from rfl) (Reps.none _ _)))
                 intro v349 w33 ho34 hb hg_ hnew_
                 clear hg_ hnew_
                 (first|rw [← Ny348.out] at ho34|(simp only [Int.reduceToNat] at ho34;rw [← Ny348.out] at ho34))
                 have n0_:=Aside0.mk (Kd.R_lower ho34 (yQ (by repeat (first|(with_reducible first|exact HB.out|apply yA|apply yB|apply yC|refine yD ?_ GE337.out)|exact HB.out))))
                 have n1_:=Aside0.mk (blk_below (g:=gb337) (o:=.cells #[.int .u8 a0_0,.slice (some ad346) l0_1.length c0_1] 44 (0,0)) (by (with_reducible repeat (first|refine yE ?_ _|refine yF ?_|refine yG ?_ _));exact BK337.out) hb)
                 have n2_:=Aside0.mk (yP (by repeat (first|(with_reducible first|exact HB.out|apply yA|apply yB|apply yC|refine yD ?_ GE337.out)|exact HB.out)) hb)
                 clear BK337
                 clear HB
                 have HO350:=n0_
                 have BK337:=n1_
                 have HB:=n2_
                 clear n0_ n1_ n2_
                 clear hb ho34
                 refine hK.out _ _ ⟨(blk_cell BK337.out 0).trans rfl,(blk_cell BK337.out 1).trans rfl,((HB.out.cell (World.block_lt_of_cell? w _ hw346_0)).trans hw346_0),((HB.out.cell (World.block_lt_of_cell? w _ hw346_1)).trans hw346_1),((HB.out.cell (World.block_lt_of_cell? w _ hw351_0)).trans hw351_0),((HB.out.cell (World.block_lt_of_cell? w _ hw351_1)).trans hw351_1)⟩ (fun hHeld=>?_)
                 clear hK K
                 refine norm_ (a':=?_) ?_ ?_
                 rotate_left
                 ·show Act.put _ (some 32) _=_
                  simp only [Act.put,yK,yL,yM,i64_w,i32_w]
                  rfl
                 exact norm_ (by first|(simp only [putAll,Act.put,yK,yL,yM];done)|(simp only [putAll,Act.put,yK,yL,yM];rfl)) (hJ4_8 (v349) _ ⟨hHeld,(by (with_reducible repeat (first|apply yH|apply yI|apply yJ));exact HO350.out),(by (with_reducible repeat (first|refine yE ?_ _|refine yF ?_|refine yG ?_ _));exact BK337.out),(by repeat (first|(with_reducible first|exact HB.out|apply yA|apply yB|apply yC|refine yD ?_ GE337.out)|exact HB.out))⟩)
                ·skip
                 refine goes_ Try.func49 (by kernel_rfl) rfl #[.agg #[.int .u8 ((rd_T44 l0_1 1).f0),.slice A351_1 ((rd_T44 l0_1 1).f1).length c351_1]] (by rfl) rfl rfl (by (try simp only [List.map_toArray,List.map_cons,List.map_nil]);first|done|rfl|(simp only [List.length_drop,List.length_take];rfl)) ?_
                 with_reducible refine (ih k (by omega) ((rd_T44 l0_1 1).f0) _ _ ((rd_T44 l0_1 1).f1) t352 _ ?side1 ?side2 A25.out).mono ?_
                 (case side1=>repeat (first|exact (Kd.C_below HR351_1.out HB.out)|(with_reducible refine Kd.C_alloc ?_ _)|(with_reducible refine Kd.C_drewN ?_ _)|(with_reducible refine Kd.C_drew ?_)))
                 (case side2=>exact HC351_1.out)
                 rintro e w33 ⟨rfl,hb⟩
                 refine ⟨_,rfl,?_⟩
                 have n0_:=Aside0.mk (blk_below (g:=gb337) (o:=.cells #[.int .u8 a0_0,.slice (some ad346) l0_1.length c0_1] 44 (0,0)) (by (with_reducible repeat (first|refine yE ?_ _|refine yF ?_|refine yG ?_ _));exact BK337.out) hb)
                 have n1_:=Aside0.mk (yP (by repeat (first|(with_reducible first|exact HB.out|apply yA|apply yB|apply yC|refine yD ?_ GE337.out)|exact HB.out)) hb)
                 clear BK337
                 clear HB
                 have BK337:=n0_
                 have HB:=n1_
                 clear n0_ n1_
                 (try clear hb)
                 (try clear hb2)
                 (try clear hk)
                 (try clear hi)
                 refine hK.out _ _ ⟨(blk_cell BK337.out 0).trans rfl,(blk_cell BK337.out 1).trans rfl,((HB.out.cell (World.block_lt_of_cell? w _ hw346_0)).trans hw346_0),((HB.out.cell (World.block_lt_of_cell? w _ hw346_1)).trans hw346_1),((HB.out.cell (World.block_lt_of_cell? w _ hw351_0)).trans hw351_0),((HB.out.cell (World.block_lt_of_cell? w _ hw351_1)).trans hw351_1)⟩ (fun hHeld=>?_)
                 clear hK K
                 refine norm_ (a':=?_) ?_ ?_
                 rotate_left
                 ·show Act.put _ (some 39) _=_
                  simp only [Act.put,yK,yL,yM,i64_w,i32_w]
                  rfl
                 exact norm_ (by first|(simp only [putAll,Act.put,yK,yL,yM];done)|(simp only [putAll,Act.put,yK,yL,yM];rfl)) (hJ4_15 () _ ⟨hHeld,(by (with_reducible repeat (first|refine yE ?_ _|refine yF ?_|refine yG ?_ _));exact BK337.out),(by repeat (first|(with_reducible first|exact HB.out|apply yA|apply yB|apply yC|refine yD ?_ GE337.out)|exact HB.out))⟩)
              ·skip
               rintro v349 w34 ⟨hS_,h0_,h1_,h2_⟩
               have n0_:Aside0 (Kd.R (Kd.int .u8) 5 w34 w.heap.size (fun _=>True) v349 y348):=⟨h0_⟩
               have n1_:Aside0 (w34.heap[gb337]?=some (.cells #[.int .u8 a0_0,.slice (some ad346) l0_1.length c0_1] 44 (0,0))):=⟨h1_⟩
               have n2_:Aside0 (Below w.heap.size w w34):=⟨h2_⟩
               clear BK337
               clear HB
               clear h0_ h1_ h2_
               have HO350:=n0_
               have BK337:=n1_
               have HB:=n2_
               clear n0_ n1_ n2_
               have hHeld:w34.cell? ⟨gb337,0,none⟩=some (.int .u8 a0_0)∧w34.cell? ⟨gb337,1,none⟩=some (.slice (some ad346) l0_1.length c0_1)∧w34.cell? ad346=some (.int .u8 ((rd_T44 l0_1 0).f0))∧w34.cell? ⟨ad346.block,ad346.off+1,none⟩=some (.slice A346_1 ((rd_T44 l0_1 0).f1).length c346_1)∧w34.cell? ⟨ad346.block,ad346.off+2,none⟩=some (.int .u8 ((rd_T44 l0_1 1).f0))∧w34.cell? ⟨ad346.block,ad346.off+2+1,none⟩=some (.slice A351_1 ((rd_T44 l0_1 1).f1).length c351_1):=hS_
               refine norm_ (a':=?_) ?_ ?_
               rotate_left
               ·simp only [putAll,Act.put,yK,yL,yM]
                rfl
               refine one_ (i:=4) (N:=some 28) #[true,true,true,true,true,false,true,true,true,true,false,true,true,true,true,false,false,false,false] rfl rfl (one_of HT_.out (by kernel_rfl)) (by decide) (fun K hK=>?_)
               refine goes_ Try.func49 (by kernel_rfl) rfl #[.agg #[.int .u8 ((rd_T44 l0_1 0).f0),.slice A346_1 ((rd_T44 l0_1 0).f1).length c346_1]] (by rfl) rfl rfl (by (try simp only [List.map_toArray,List.map_cons,List.map_nil]);first|done|rfl|(simp only [List.length_drop,List.length_take];rfl)) ?_
               with_reducible refine (ih k (by omega) ((rd_T44 l0_1 0).f0) _ _ ((rd_T44 l0_1 0).f1) t347 _ ?side1 ?side2 A21.out).mono ?_
               (case side1=>repeat (first|exact (Kd.C_below HR346_1.out HB.out)|(with_reducible refine Kd.C_alloc ?_ _)|(with_reducible refine Kd.C_drewN ?_ _)|(with_reducible refine Kd.C_drew ?_)))
               (case side2=>exact HC346_1.out)
               rintro e w35 ⟨rfl,hb⟩
               refine ⟨_,rfl,?_⟩
               have n0_:=Aside0.mk (Kd.R_below (by (with_reducible repeat (first|apply yH|apply yI|apply yJ));exact HO350.out) hb)
               have n1_:=Aside0.mk (blk_below (g:=gb337) (o:=.cells #[.int .u8 a0_0,.slice (some ad346) l0_1.length c0_1] 44 (0,0)) (by (with_reducible repeat (first|refine yE ?_ _|refine yF ?_|refine yG ?_ _));exact BK337.out) hb)
               have n2_:=Aside0.mk (yP (by repeat (first|(with_reducible first|exact HB.out|apply yA|apply yB|apply yC|refine yD ?_ GE337.out)|exact HB.out)) hb)
               clear HO350
               clear BK337
               clear HB
               have HO350:=n0_
               have BK337:=n1_
               have HB:=n2_
               clear n0_ n1_ n2_
               (try clear hb)
               (try clear hb2)
               (try clear hk)
               (try clear hi)
               refine hK.out _ _ ⟨(blk_cell BK337.out 0).trans rfl,(blk_cell BK337.out 1).trans rfl,((HB.out.cell (World.block_lt_of_cell? w _ hw346_0)).trans hw346_0),((HB.out.cell (World.block_lt_of_cell? w _ hw346_1)).trans hw346_1),((HB.out.cell (World.block_lt_of_cell? w _ hw351_0)).trans hw351_0),((HB.out.cell (World.block_lt_of_cell? w _ hw351_1)).trans hw351_1)⟩ (fun hHeld=>?_)
               clear hK K
               refine norm_ (a':=?_) ?_ ?_
               rotate_left
               ·show Act.put _ (some 28) _=_
                simp only [Act.put,yK,yL,yM,i64_w,i32_w]
                rfl
               refine pure_ (i:=5) (N:=some 29) (v:=?_) (a':=?_) #[true,true,true,true,true,true,true,true,true,true,false,true,true,true,true,false,false,false,false] rfl rfl (any_of HT_.out (by kernel_rfl)) (fun _ _ _ h=>h) (Or.inl ⟨by rfl,?_⟩) ?_ ?_
               rotate_left
               ·intro w'
                go_simp
                with_reducible rfl
               rotate_left
               ·simp only [Act.put,yK,yL,yM,i64_w,i32_w]
                rfl
               refine pure_ (i:=10) (N:=some 34) (v:=?_) (a':=?_) #[true,true,true,true,true,true,true,true,true,true,true,true,true,true,true,false,false,false,false] rfl rfl (any_of HT_.out (by kernel_rfl)) (fun _ _ _ h=>h) (Or.inl ⟨by rfl,?_⟩) ?_ ?_
               rotate_left
               ·intro w'
                go_simp
                with_reducible rfl
               rotate_left
               ·simp only [Act.put,yK,yL,yM,i64_w,i32_w]
                rfl
               exact norm_ (by first|(simp only [putAll,Act.put,yK,yL,yM];done)|(simp only [putAll,Act.put,yK,yL,yM];rfl)) (hJ4_8_9 (v349) _ ⟨hHeld,(by (with_reducible repeat (first|apply yH|apply yI|apply yJ));exact HO350.out),(by (with_reducible repeat (first|refine yE ?_ _|refine yF ?_|refine yG ?_ _));exact BK337.out),(by repeat (first|(with_reducible first|exact HB.out|apply yA|apply yB|apply yC|refine yD ?_ GE337.out)|exact HB.out))⟩)
             ·skip
              rintro _ w33 ⟨hS_,h0_,h1_⟩
              have n0_:Aside0 (w33.heap[gb337]?=some (.cells #[.int .u8 a0_0,.slice (some ad346) l0_1.length c0_1] 44 (0,0))):=⟨h0_⟩
              have n1_:Aside0 (Below w.heap.size w w33):=⟨h1_⟩
              clear BK337
              clear HB
              clear h0_ h1_
              have BK337:=n0_
              have HB:=n1_
              clear n0_ n1_
              have hHeld:w33.cell? ⟨gb337,0,none⟩=some (.int .u8 a0_0)∧w33.cell? ⟨gb337,1,none⟩=some (.slice (some ad346) l0_1.length c0_1)∧w33.cell? ad346=some (.int .u8 ((rd_T44 l0_1 0).f0))∧w33.cell? ⟨ad346.block,ad346.off+1,none⟩=some (.slice A346_1 ((rd_T44 l0_1 0).f1).length c346_1)∧w33.cell? ⟨ad346.block,ad346.off+2,none⟩=some (.int .u8 ((rd_T44 l0_1 1).f0))∧w33.cell? ⟨ad346.block,ad346.off+2+1,none⟩=some (.slice A351_1 ((rd_T44 l0_1 1).f1).length c351_1):=hS_
              refine norm_ (a':=?_) ?_ ?_
              rotate_left
              ·simp only [putAll,Act.put,yK,yL,yM]
               rfl
              refine one_ (i:=8) (N:=some 32) #[true,true,true,true,true,true,true,true,true,false,false,true,true,true,true,true,false,false,false] rfl rfl (one_of HT_.out (by kernel_rfl)) (by decide) (fun K hK=>?_)
              refine Kd.R_lit_step (Kd.int .u8) _ 5 ?hg (N:=32) ?hd (xs:=([a0_0]:List Int)) (inner:=[.int .u8 a0_0]) (ok:=fun _=>True) (okp:=fun _=>True) ?hr ?hp (fun _ hk=>hk) trivial (Below.refl _ _) (Nat.le_refl _) (by simp) ?_;(case hd=>rfl);(case hg=>rfl);(case hr=>first|(go_simp;done)|(go_simp;rfl));(case hp=>exact (Reps.one (show Kd.M (Kd.int .u8) _ _ _ a0_0 [.int .u8 a0_0] from rfl) (Reps.none _ _)))
              intro v349 w34 ho35 hb hg_ hnew_
              clear hg_ hnew_
              (first|rw [← Ny348.out] at ho35|(simp only [Int.reduceToNat] at ho35;rw [← Ny348.out] at ho35))
              have n0_:=Aside0.mk (Kd.R_lower ho35 (yQ (by repeat (first|(with_reducible first|exact HB.out|apply yA|apply yB|apply yC|refine yD ?_ GE337.out)|exact HB.out))))
              have n1_:=Aside0.mk (blk_below (g:=gb337) (o:=.cells #[.int .u8 a0_0,.slice (some ad346) l0_1.length c0_1] 44 (0,0)) (by (with_reducible repeat (first|refine yE ?_ _|refine yF ?_|refine yG ?_ _));exact BK337.out) hb)
              have n2_:=Aside0.mk (yP (by repeat (first|(with_reducible first|exact HB.out|apply yA|apply yB|apply yC|refine yD ?_ GE337.out)|exact HB.out)) hb)
              clear BK337
              clear HB
              have HO350:=n0_
              have BK337:=n1_
              have HB:=n2_
              clear n0_ n1_ n2_
              clear hb ho35
              refine hK.out _ _ ⟨(blk_cell BK337.out 0).trans rfl,(blk_cell BK337.out 1).trans rfl,((HB.out.cell (World.block_lt_of_cell? w _ hw346_0)).trans hw346_0),((HB.out.cell (World.block_lt_of_cell? w _ hw346_1)).trans hw346_1),((HB.out.cell (World.block_lt_of_cell? w _ hw351_0)).trans hw351_0),((HB.out.cell (World.block_lt_of_cell? w _ hw351_1)).trans hw351_1)⟩ (fun hHeld=>?_)
              clear hK K
              refine norm_ (a':=?_) ?_ ?_
              rotate_left
              ·show Act.put _ (some 32) _=_
               simp only [Act.put,yK,yL,yM,i64_w,i32_w]
               rfl
              exact norm_ (by first|(simp only [putAll,Act.put,yK,yL,yM];done)|(simp only [putAll,Act.put,yK,yL,yM];rfl)) (hJ4_8_15 (v349) _ ⟨hHeld,(by (with_reducible repeat (first|apply yH|apply yI|apply yJ));exact HO350.out),(by (with_reducible repeat (first|refine yE ?_ _|refine yF ?_|refine yG ?_ _));exact BK337.out),(by repeat (first|(with_reducible first|exact HB.out|apply yA|apply yB|apply yC|refine yD ?_ GE337.out)|exact HB.out))⟩)
            ·skip
             rintro v349 w34 ⟨hS_,h0_,h1_,h2_⟩
             have n0_:Aside0 (Kd.R (Kd.int .u8) 5 w34 w.heap.size (fun _=>True) v349 y348):=⟨h0_⟩
             have n1_:Aside0 (w34.heap[gb337]?=some (.cells #[.int .u8 a0_0,.slice (some ad346) l0_1.length c0_1] 44 (0,0))):=⟨h1_⟩
             have n2_:Aside0 (Below w.heap.size w w34):=⟨h2_⟩
             clear BK337
             clear HB
             clear h0_ h1_ h2_
             have HO350:=n0_
             have BK337:=n1_
             have HB:=n2_
             clear n0_ n1_ n2_
             have hHeld:w34.cell? ⟨gb337,0,none⟩=some (.int .u8 a0_0)∧w34.cell? ⟨gb337,1,none⟩=some (.slice (some ad346) l0_1.length c0_1)∧w34.cell? ad346=some (.int .u8 ((rd_T44 l0_1 0).f0))∧w34.cell? ⟨ad346.block,ad346.off+1,none⟩=some (.slice A346_1 ((rd_T44 l0_1 0).f1).length c346_1)∧w34.cell? ⟨ad346.block,ad346.off+2,none⟩=some (.int .u8 ((rd_T44 l0_1 1).f0))∧w34.cell? ⟨ad346.block,ad346.off+2+1,none⟩=some (.slice A351_1 ((rd_T44 l0_1 1).f1).length c351_1):=hS_
             refine norm_ (a':=?_) ?_ ?_
             rotate_left
             ·simp only [putAll,Act.put,yK,yL,yM]
              rfl
             refine two_ (i:=9) (j:=15) (Ni:=some 33) (Nj:=some 39) #[true,true,true,true,true,true,true,true,true,true,false,true,true,true,true,false,false,false,false] #[true,true,true,true,true,true,true,true,true,false,false,true,true,true,true,true,false,false,false] rfl rfl rfl rfl (two_of HT_.out (by kernel_rfl)) (by decide) (by decide) (fun K hK=>?_) (fun K hK=>?_)
             ·skip
              have hcv35:=own_string (P:=Try.prog) Try.underlying22 Try.underlying5 Try.underlying9 (Kd.own_of_R HO350.out)
              refine value_ (w1:=?_) (v:=?_) (by rfl) rfl ?_ ?_
              rotate_left 2
              ·go_simp
               constructor
               ·rfl
               ·rfl
              clear hcv35
              refine hK.out _ _ ⟨(blk_cell BK337.out 0).trans rfl,(blk_cell BK337.out 1).trans rfl,((HB.out.cell (World.block_lt_of_cell? w _ hw346_0)).trans hw346_0),((HB.out.cell (World.block_lt_of_cell? w _ hw346_1)).trans hw346_1),((HB.out.cell (World.block_lt_of_cell? w _ hw351_0)).trans hw351_0),((HB.out.cell (World.block_lt_of_cell? w _ hw351_1)).trans hw351_1)⟩ (fun hHeld=>?_)
              clear hK K
              refine norm_ (a':=?_) ?_ ?_
              rotate_left
              ·show Act.put _ (some 33) _=_
               simp only [Act.put,yK,yL,yM,i64_w,i32_w]
               rfl
              refine pure_ (i:=10) (N:=some 34) (v:=?_) (a':=?_) #[true,true,true,true,true,true,true,true,true,true,true,true,true,true,true,false,false,false,false] rfl rfl (any_of HT_.out (by kernel_rfl)) (fun _ _ _ h=>h) (Or.inl ⟨by rfl,?_⟩) ?_ ?_
              rotate_left
              ·intro w'
               go_simp
               with_reducible rfl
              rotate_left
              ·simp only [Act.put,yK,yL,yM,i64_w,i32_w]
               rfl
              exact norm_ (by first|(simp only [putAll,Act.put,yK,yL,yM];done)|(simp only [putAll,Act.put,yK,yL,yM];rfl)) (hJ4_8_9 (v349) _ ⟨hHeld,(by (with_reducible repeat (first|apply yH|apply yI|apply yJ));exact HO350.out),(by (with_reducible repeat (first|refine yE ?_ _|refine yF ?_|refine yG ?_ _));exact BK337.out),(by repeat (first|(with_reducible first|exact HB.out|apply yA|apply yB|apply yC|refine yD ?_ GE337.out)|exact HB.out))⟩)
             ·skip
              refine goes_ Try.func49 (by kernel_rfl) rfl #[.agg #[.int .u8 ((rd_T44 l0_1 1).f0),.slice A351_1 ((rd_T44 l0_1 1).f1).length c351_1]] (by rfl) rfl rfl (by (try simp only [List.map_toArray,List.map_cons,List.map_nil]);first|done|rfl|(simp only [List.length_drop,List.length_take];rfl)) ?_
              with_reducible refine (ih k (by omega) ((rd_T44 l0_1 1).f0) _ _ ((rd_T44 l0_1 1).f1) t352 _ ?side1 ?side2 A25.out).mono ?_
              (case side1=>repeat (first|exact (Kd.C_below HR351_1.out HB.out)|(with_reducible refine Kd.C_alloc ?_ _)|(with_reducible refine Kd.C_drewN ?_ _)|(with_reducible refine Kd.C_drew ?_)))
              (case side2=>exact HC351_1.out)
              rintro e w35 ⟨rfl,hb⟩
              refine ⟨_,rfl,?_⟩
              have n0_:=Aside0.mk (Kd.R_below (by (with_reducible repeat (first|apply yH|apply yI|apply yJ));exact HO350.out) hb)
              have n1_:=Aside0.mk (blk_below (g:=gb337) (o:=.cells #[.int .u8 a0_0,.slice (some ad346) l0_1.length c0_1] 44 (0,0)) (by (with_reducible repeat (first|refine yE ?_ _|refine yF ?_|refine yG ?_ _));exact BK337.out) hb)
              have n2_:=Aside0.mk (yP (by repeat (first|(with_reducible first|exact HB.out|apply yA|apply yB|apply yC|refine yD ?_ GE337.out)|exact HB.out)) hb)
              clear HO350
              clear BK337
              clear HB
              have HO350:=n0_
              have BK337:=n1_
              have HB:=n2_
              clear n0_ n1_ n2_
              (try clear hb)
              (try clear hb2)
              (try clear hk)
              (try clear hi)
              refine hK.out _ _ ⟨(blk_cell BK337.out 0).trans rfl,(blk_cell BK337.out 1).trans rfl,((HB.out.cell (World.block_lt_of_cell? w _ hw346_0)).trans hw346_0),((HB.out.cell (World.block_lt_of_cell? w _ hw346_1)).trans hw346_1),((HB.out.cell (World.block_lt_of_cell? w _ hw351_0)).trans hw351_0),((HB.out.cell (World.block_lt_of_cell? w _ hw351_1)).trans hw351_1)⟩ (fun hHeld=>?_)
              clear hK K
              refine norm_ (a':=?_) ?_ ?_
              rotate_left
              ·show Act.put _ (some 39) _=_
               simp only [Act.put,yK,yL,yM,i64_w,i32_w]
               rfl
              exact norm_ (by first|(simp only [putAll,Act.put,yK,yL,yM];done)|(simp only [putAll,Act.put,yK,yL,yM];rfl)) (hJ4_8_15 (v349) _ ⟨hHeld,(by (with_reducible repeat (first|apply yH|apply yI|apply yJ));exact HO350.out),(by (with_reducible repeat (first|refine yE ?_ _|refine yF ?_|refine yG ?_ _));exact BK337.out),(by repeat (first|(with_reducible first|exact HB.out|apply yA|apply yB|apply yC|refine yD ?_ GE337.out)|exact HB.out))⟩)
           ·skip
            rintro v349 w35 ⟨hS_,h0_,h1_,h2_⟩
            have n0_:Aside0 (Kd.R (Kd.int .u8) 5 w35 w.heap.size (fun _=>True) v349 y348):=⟨h0_⟩
            have n1_:Aside0 (w35.heap[gb337]?=some (.cells #[.int .u8 a0_0,.slice (some ad346) l0_1.length c0_1] 44 (0,0))):=⟨h1_⟩
            have n2_:Aside0 (Below w.heap.size w w35):=⟨h2_⟩
            clear BK337
            clear HB
            clear h0_ h1_ h2_
            have HO350:=n0_
            have BK337:=n1_
            have HB:=n2_
            clear n0_ n1_ n2_
            have hHeld:w35.cell? ⟨gb337,0,none⟩=some (.int .u8 a0_0)∧w35.cell? ⟨gb337,1,none⟩=some (.slice (some ad346) l0_1.length c0_1)∧w35.cell? ad346=some (.int .u8 ((rd_T44 l0_1 0).f0))∧w35.cell? ⟨ad346.block,ad346.off+1,none⟩=some (.slice A346_1 ((rd_T44 l0_1 0).f1).length c346_1)∧w35.cell? ⟨ad346.block,ad346.off+2,none⟩=some (.int .u8 ((rd_T44 l0_1 1).f0))∧w35.cell? ⟨ad346.block,ad346.off+2+1,none⟩=some (.slice A351_1 ((rd_T44 l0_1 1).f1).length c351_1):=hS_
            refine norm_ (a':=?_) ?_ ?_
            rotate_left
            ·simp only [putAll,Act.put,yK,yL,yM]
             rfl
            refine one_ (i:=9) (N:=some 33) #[true,true,true,true,true,true,true,true,true,true,false,true,true,true,true,true,false,false,false] rfl rfl (one_of HT_.out (by kernel_rfl)) (by decide) (fun K hK=>?_)
            have hcv36:=own_string (P:=Try.prog) Try.underlying22 Try.underlying5 Try.underlying9 (Kd.own_of_R HO350.out)
            refine value_ (w1:=?_) (v:=?_) (by rfl) rfl ?_ ?_
            rotate_left 2
            ·go_simp
             constructor
             ·rfl
             ·rfl
            clear hcv36
            refine hK.out _ _ ⟨(blk_cell BK337.out 0).trans rfl,(blk_cell BK337.out 1).trans rfl,((HB.out.cell (World.block_lt_of_cell? w _ hw346_0)).trans hw346_0),((HB.out.cell (World.block_lt_of_cell? w _ hw346_1)).trans hw346_1),((HB.out.cell (World.block_lt_of_cell? w _ hw351_0)).trans hw351_0),((HB.out.cell (World.block_lt_of_cell? w _ hw351_1)).trans hw351_1)⟩ (fun hHeld=>?_)
            clear hK K
            refine norm_ (a':=?_) ?_ ?_
            rotate_left
            ·show Act.put _ (some 33) _=_
             simp only [Act.put,yK,yL,yM,i64_w,i32_w]
             rfl
            refine pure_ (i:=10) (N:=some 34) (v:=?_) (a':=?_) #[true,true,true,true,true,true,true,true,true,true,true,true,true,true,true,true,false,false,false] rfl rfl (any_of HT_.out (by kernel_rfl)) (fun _ _ _ h=>h) (Or.inl ⟨by rfl,?_⟩) ?_ ?_
            rotate_left
            ·intro w'
             go_simp
             with_reducible rfl
            rotate_left
            ·simp only [Act.put,yK,yL,yM,i64_w,i32_w]
             rfl
            exact norm_ (by first|(simp only [putAll,Act.put,yK,yL,yM];done)|(simp only [putAll,Act.put,yK,yL,yM];rfl)) (hJ4_8_9_15 (v349) _ ⟨hHeld,(by (with_reducible repeat (first|apply yH|apply yI|apply yJ));exact HO350.out),(by (with_reducible repeat (first|refine yE ?_ _|refine yF ?_|refine yG ?_ _));exact BK337.out),(by repeat (first|(with_reducible first|exact HB.out|apply yA|apply yB|apply yC|refine yD ?_ GE337.out)|exact HB.out))⟩)
          ·skip
           rintro v349 w35 ⟨hS_,h0_,h1_,h2_⟩
           have n0_:Aside0 (Kd.R (Kd.int .u8) 5 w35 w.heap.size (fun _=>True) v349 y348):=⟨h0_⟩
           have n1_:Aside0 (w35.heap[gb337]?=some (.cells #[.int .u8 a0_0,.slice (some ad346) l0_1.length c0_1] 44 (0,0))):=⟨h1_⟩
           have n2_:Aside0 (Below w.heap.size w w35):=⟨h2_⟩
           clear BK337
           clear HB
           clear h0_ h1_ h2_
           have HO350:=n0_
           have BK337:=n1_
           have HB:=n2_
           clear n0_ n1_ n2_
           have hHeld:w35.cell? ⟨gb337,0,none⟩=some (.int .u8 a0_0)∧w35.cell? ⟨gb337,1,none⟩=some (.slice (some ad346) l0_1.length c0_1)∧w35.cell? ad346=some (.int .u8 ((rd_T44 l0_1 0).f0))∧w35.cell? ⟨ad346.block,ad346.off+1,none⟩=some (.slice A346_1 ((rd_T44 l0_1 0).f1).length c346_1)∧w35.cell? ⟨ad346.block,ad346.off+2,none⟩=some (.int .u8 ((rd_T44 l0_1 1).f0))∧w35.cell? ⟨ad346.block,ad346.off+2+1,none⟩=some (.slice A351_1 ((rd_T44 l0_1 1).f1).length c351_1):=hS_
           refine norm_ (a':=?_) ?_ ?_
           rotate_left
           ·simp only [putAll,Act.put,yK,yL,yM]
            rfl
           refine one_ (i:=15) (N:=some 39) #[true,true,true,true,true,true,true,true,true,true,true,true,true,true,true,true,false,false,false] rfl rfl (one_of HT_.out (by kernel_rfl)) (by decide) (fun K hK=>?_)
           refine goes_ Try.func49 (by kernel_rfl) rfl #[.agg #[.int .u8 ((rd_T44 l0_1 1).f0),.slice A351_1 ((rd_T44 l0_1 1).f1).length c351_1]] (by rfl) rfl rfl (by (try simp only [List.map_toArray,List.map_cons,List.map_nil]);first|done|rfl|(simp only [List.length_drop,List.length_take];rfl)) ?_
           with_reducible refine (ih k (by omega) ((rd_T44 l0_1 1).f0) _ _ ((rd_T44 l0_1 1).f1) t352 _ ?side1 ?side2 A25.out).mono ?_
           (case side1=>repeat (first|exact (Kd.C_below HR351_1.out HB.out)|(with_reducible refine Kd.C_alloc ?_ _)|(with_reducible refine Kd.C_drewN ?_ _)|(with_reducible refine Kd.C_drew ?_)))
           (case side2=>exact HC351_1.out)
           rintro e w36 ⟨rfl,hb⟩
           refine ⟨_,rfl,?_⟩
           have n0_:=Aside0.mk (Kd.R_below (by (with_reducible repeat (first|apply yH|apply yI|apply yJ));exact HO350.out) hb)
           have n1_:=Aside0.mk (blk_below (g:=gb337) (o:=.cells #[.int .u8 a0_0,.slice (some ad346) l0_1.length c0_1] 44 (0,0)) (by (with_reducible repeat (first|refine yE ?_ _|refine yF ?_|refine yG ?_ _));exact BK337.out) hb)
           have n2_:=Aside0.mk (yP (by repeat (first|(with_reducible first|exact HB.out|apply yA|apply yB|apply yC|refine yD ?_ GE337.out)|exact HB.out)) hb)
           clear HO350
           clear BK337
           clear HB
           have HO350:=n0_
           have BK337:=n1_
           have HB:=n2_
           clear n0_ n1_ n2_
           (try clear hb)
           (try clear hb2)
           (try clear hk)
           (try clear hi)
           refine hK.out _ _ ⟨(blk_cell BK337.out 0).trans rfl,(blk_cell BK337.out 1).trans rfl,((HB.out.cell (World.block_lt_of_cell? w _ hw346_0)).trans hw346_0),((HB.out.cell (World.block_lt_of_cell? w _ hw346_1)).trans hw346_1),((HB.out.cell (World.block_lt_of_cell? w _ hw351_0)).trans hw351_0),((HB.out.cell (World.block_lt_of_cell? w _ hw351_1)).trans hw351_1)⟩ (fun hHeld=>?_)
           clear hK K
           refine norm_ (a':=?_) ?_ ?_
           rotate_left
           ·show Act.put _ (some 39) _=_
            simp only [Act.put,yK,yL,yM,i64_w,i32_w]
            rfl
           exact norm_ (by first|(simp only [putAll,Act.put,yK,yL,yM];done)|(simp only [putAll,Act.put,yK,yL,yM];rfl)) (hJ4_8_9_15 (v349) _ ⟨hHeld,(by (with_reducible repeat (first|apply yH|apply yI|apply yJ));exact HO350.out),(by (with_reducible repeat (first|refine yE ?_ _|refine yF ?_|refine yG ?_ _));exact BK337.out),(by repeat (first|(with_reducible first|exact HB.out|apply yA|apply yB|apply yC|refine yD ?_ GE337.out)|exact HB.out))⟩)
         rintro v349 w36 ⟨hS_,h0_,h1_,h2_⟩
         have n0_:Aside0 (Kd.R (Kd.int .u8) 5 w36 w.heap.size (fun _=>True) v349 y348):=⟨h0_⟩
         have n1_:Aside0 (w36.heap[gb337]?=some (.cells #[.int .u8 a0_0,.slice (some ad346) l0_1.length c0_1] 44 (0,0))):=⟨h1_⟩
         have n2_:Aside0 (Below w.heap.size w w36):=⟨h2_⟩
         clear BK337
         clear HB
         clear h0_ h1_ h2_
         have HO350:=n0_
         have BK337:=n1_
         have HB:=n2_
         clear n0_ n1_ n2_
         have hHeld:w36.cell? ⟨gb337,0,none⟩=some (.int .u8 a0_0)∧w36.cell? ⟨gb337,1,none⟩=some (.slice (some ad346) l0_1.length c0_1)∧w36.cell? ad346=some (.int .u8 ((rd_T44 l0_1 0).f0))∧w36.cell? ⟨ad346.block,ad346.off+1,none⟩=some (.slice A346_1 ((rd_T44 l0_1 0).f1).length c346_1)∧w36.cell? ⟨ad346.block,ad346.off+2,none⟩=some (.int .u8 ((rd_T44 l0_1 1).f0))∧w36.cell? ⟨ad346.block,ad346.off+2+1,none⟩=some (.slice A351_1 ((rd_T44 l0_1 1).f1).length c351_1):=hS_
         refine norm_ (a':=?_) ?_ ?_
         rotate_left
         ·simp only [putAll,Act.put,yK,yL,yM]
          rfl
         refine pure_ (i:=16) (N:=some 40) (v:=?_) (a':=?_) #[true,true,true,true,true,true,true,true,true,true,true,true,true,true,true,true,true,false,false] rfl rfl (any_of HT_.out (by kernel_rfl)) (fun _ _ _ h=>h) (Or.inl ⟨by rfl,?_⟩) ?_ ?_
         rotate_left
         ·intro w'
          go_simp
          with_reducible rfl
         rotate_left
         ·simp only [Act.put,yK,yL,yM,i64_w,i32_w]
          rfl
         refine pure_ (i:=17) (N:=some 41) (v:=?_) (a':=?_) #[true,true,true,true,true,true,true,true,true,true,true,true,true,true,true,true,true,true,false] rfl rfl (any_of HT_.out (by kernel_rfl)) (fun _ _ _ h=>h) (Or.inl ⟨by rfl,?_⟩) ?_ ?_
         rotate_left
         ·intro w'
          go_simp
          with_reducible rfl
         rotate_left
         ·simp only [Act.put,yK,yL,yM,i64_w,i32_w]
          rfl
         refine pure_ (i:=18) (N:=some 2) (v:=?_) (a':=?_) #[true,true,true,true,true,true,true,true,true,true,true,true,true,true,true,true,true,true,true] rfl rfl (any_of HT_.out (by kernel_rfl)) (fun _ _ _ h=>h) (Or.inl ⟨by rfl,?_⟩) ?_ ?_
         rotate_left
         ·intro w'
          go_simp
          with_reducible rfl
         rotate_left
         ·simp only [Act.put,yK,yL,yM,i64_w,i32_w]
          rfl
         refine done_ (done_of HT_.out (by kernel_rfl)) ?_
         try go_wp2
         go_ret
         exact ⟨by first|rfl|(simp [errW_none,errW_some]<;>rfl)|(simp [*,errW_none,errW_some]<;>rfl)|(simp [errW_none,errW_some];exact ⟨rfl,rfl⟩),by repeat (first|(with_reducible first|exact HB.out|apply yA|apply yB|apply yC|refine yD ?_ GE337.out)|exact HB.out)⟩
        ·rw [if_neg c27] at H
         exact absurd H (by simp)
       ·rw [if_neg c26] at H
        exact absurd H (by simp)
      ·rw [if_neg c24] at H
       exact absurd H (by simp)
     ·rw [if_neg c23] at H
      exact absurd H (by simp)
    ·rw [if_neg c22] at H
     exact absurd H (by simp)
   ·rw [if_neg c20] at H
    exact absurd H (by simp)

end Go.Proofs.Ytjjnckgdpdelkaa.P

namespace Go.Proofs.Ytjjnckgdpdelkaa.P
open Go.RowKit Go.Proofs.YtjjnckgdpdelkaaW.PrintWords Go.Proofs.YtjjnckgdpdelkaaW.PrintLast Go.Proofs.YtjjnckgdpdelkaaW.PrintMore
attribute [local go_sem] max2_int min2_int max_two min_two max_three min_three max_four min_four   -- for this text's walks alone
set_option linter.unusedVariables false
set_option linter.unusedSimpArgs false

/-! ### spec_l7Tidy: function 36 -/
mutual
def spec_l7Tidy.j0:Nat→ByteArray→Bool→Int→List (S44)→Option (ByteArray)
 | 0,_,_,_,_=>none
 | k+1,x3,x20,x354000,x354001=>if x20=true then (some (⟨#[49]⟩:ByteArray)) else (if x354000=42 then (if 0<(x3.size:Int) then (spec_l7Tidy.j1 k x3 ((bt x3 0) == 42) x354000 x354001) else (none)) else (spec_l7Tidy.j1 k x3 false x354000 x354001))
def spec_l7Tidy.j1:Nat→ByteArray→Bool→Int→List (S44)→Option (ByteArray)
 | 0,_,_,_,_=>none
 | k+1,x3,x32,x354000,x354001=>if x32=true then (some x3) else (if x354000=42 then ((some (([x354000]:List Int):List Int)).bind fun y357=>(if (strOfNums y357).size+x3.size≤9223372036854775807 then (some ((strOfNums y357)++x3)) else (none))) else (if x3.toList=([48]:List UInt8) then (some x3) else (if x3.toList=([49]:List UInt8) then (some x3) else ((some (([x354000]:List Int):List Int)).bind fun y360=>(if (strOfNums y360).size+x3.size≤9223372036854775807 then (some ((strOfNums y360)++x3)) else (none))))))
def spec_l7Tidy.j2:Nat→ByteArray→ByteArray→Bool→Int→List (S44)→Option (ByteArray)
 | 0,_,_,_,_,_=>none
 | k+1,x3,x4,x66,x354000,x354001=>if x66=true then (some x4) else (if x354000=43 then (spec_l7Tidy.j3 k x3 x4 (x4.toList == ([48]:List UInt8)) x354000 x354001) else (spec_l7Tidy.j3 k x3 x4 false x354000 x354001))
def spec_l7Tidy.j3:Nat→ByteArray→ByteArray→Bool→Int→List (S44)→Option (ByteArray)
 | 0,_,_,_,_,_=>none
 | k+1,x3,x4,x75,x354000,x354001=>if x75=true then (some x3) else (if x354000=43 then (spec_l7Tidy.j4 k x3 x4 false x354000 x354001) else (if x3.toList=([48]:List UInt8) then (spec_l7Tidy.j4 k x3 x4 true x354000 x354001) else (spec_l7Tidy.j4 k x3 x4 (x4.toList == ([48]:List UInt8)) x354000 x354001)))
def spec_l7Tidy.j4:Nat→ByteArray→ByteArray→Bool→Int→List (S44)→Option (ByteArray)
 | 0,_,_,_,_,_=>none
 | k+1,x3,x4,x84,x354000,x354001=>if x84=true then (some (⟨#[48]⟩:ByteArray)) else (if x354000=46 then (spec_l7Tidy.j5 k x3 x4 (x3.toList == ([49]:List UInt8)) x354000 x354001) else (spec_l7Tidy.j5 k x3 x4 false x354000 x354001))
def spec_l7Tidy.j5:Nat→ByteArray→ByteArray→Bool→Int→List (S44)→Option (ByteArray)
 | 0,_,_,_,_,_=>none
 | k+1,x3,x4,x96,x354000,x354001=>if x96=true then (some x4) else (if x354000=46 then (spec_l7Tidy.j6 k x3 x4 (x4.toList == ([49]:List UInt8)) x354000 x354001) else (spec_l7Tidy.j6 k x3 x4 false x354000 x354001))
def spec_l7Tidy.j6:Nat→ByteArray→ByteArray→Bool→Int→List (S44)→Option (ByteArray)
 | 0,_,_,_,_,_=>none
 | k+1,x3,x4,x105,x354000,x354001=>if x105=true then (some x3) else (if x354000=46 then (if 1+x3.size≤9223372036854775807 then ((some (([x354000]:List Int):List Int)).bind fun y365=>(if 1+x3.size+(strOfNums y365).size≤9223372036854775807 then (if 1+x3.size+(strOfNums y365).size+x4.size≤9223372036854775807 then (if 1+x3.size+(strOfNums y365).size+x4.size+1≤9223372036854775807 then (some (((((⟨#[40]⟩:ByteArray)++x3)++(strOfNums y365))++x4)++(⟨#[41]⟩:ByteArray))) else (none)) else (none)) else (none))) else (none)) else (if x3.toList=x4.toList then (some x3) else (if 1+x3.size≤9223372036854775807 then ((some (([x354000]:List Int):List Int)).bind fun y368=>(if 1+x3.size+(strOfNums y368).size≤9223372036854775807 then (if 1+x3.size+(strOfNums y368).size+x4.size≤9223372036854775807 then (if 1+x3.size+(strOfNums y368).size+x4.size+1≤9223372036854775807 then (some (((((⟨#[40]⟩:ByteArray)++x3)++(strOfNums y368))++x4)++(⟨#[41]⟩:ByteArray))) else (none)) else (none)) else (none))) else (none))))
def spec_l7Tidy.f:Nat→Int→List (S44)→Option (ByteArray)
 | 0,_,_=>none
 | k+1,a0_0,l0_1=>if (l0_1.length:Int)=0 then ((spec_l7Write.f k a0_0 l0_1).bind fun t354=>(some t354)) else (if 0<(l0_1.length:Int) then ((spec_l7Tidy.f k ((rd_T44 l0_1 0).f0) ((rd_T44 l0_1 0).f1)).bind fun t356=>(if (l0_1.length:Int)=1 then (if a0_0=42 then (if t356.toList=([48]:List UInt8) then (spec_l7Tidy.j0 k t356 true a0_0 l0_1) else (spec_l7Tidy.j0 k t356 (t356.toList == ([49]:List UInt8)) a0_0 l0_1)) else (spec_l7Tidy.j0 k t356 false a0_0 l0_1)) else (if 1<(l0_1.length:Int) then ((spec_l7Tidy.f k ((rd_T44 l0_1 1).f0) ((rd_T44 l0_1 1).f1)).bind fun t364=>(if a0_0=43 then (spec_l7Tidy.j2 k t356 t364 (t356.toList == ([48]:List UInt8)) a0_0 l0_1) else (spec_l7Tidy.j2 k t356 t364 false a0_0 l0_1))) else (none)))) else (none))
end
theorem spec_l7Tidy.mono_l:∀ k,(∀ y0 y1,LeO (spec_l7Tidy.f k y0 y1) (spec_l7Tidy.f (k+1) y0 y1))∧(∀ y0 y1 y2 y3,LeO (spec_l7Tidy.j0 k y0 y1 y2 y3) (spec_l7Tidy.j0 (k+1) y0 y1 y2 y3))∧(∀ y0 y1 y2 y3,LeO (spec_l7Tidy.j1 k y0 y1 y2 y3) (spec_l7Tidy.j1 (k+1) y0 y1 y2 y3))∧(∀ y0 y1 y2 y3 y4,LeO (spec_l7Tidy.j2 k y0 y1 y2 y3 y4) (spec_l7Tidy.j2 (k+1) y0 y1 y2 y3 y4))∧(∀ y0 y1 y2 y3 y4,LeO (spec_l7Tidy.j3 k y0 y1 y2 y3 y4) (spec_l7Tidy.j3 (k+1) y0 y1 y2 y3 y4))∧(∀ y0 y1 y2 y3 y4,LeO (spec_l7Tidy.j4 k y0 y1 y2 y3 y4) (spec_l7Tidy.j4 (k+1) y0 y1 y2 y3 y4))∧(∀ y0 y1 y2 y3 y4,LeO (spec_l7Tidy.j5 k y0 y1 y2 y3 y4) (spec_l7Tidy.j5 (k+1) y0 y1 y2 y3 y4))∧(∀ y0 y1 y2 y3 y4,LeO (spec_l7Tidy.j6 k y0 y1 y2 y3 y4) (spec_l7Tidy.j6 (k+1) y0 y1 y2 y3 y4))
 | 0=>⟨fun _ _ r h=>by simp [spec_l7Tidy.f] at h,fun _ _ _ _ r h=>by simp [spec_l7Tidy.j0] at h,fun _ _ _ _ r h=>by simp [spec_l7Tidy.j1] at h,fun _ _ _ _ _ r h=>by simp [spec_l7Tidy.j2] at h,fun _ _ _ _ _ r h=>by simp [spec_l7Tidy.j3] at h,fun _ _ _ _ _ r h=>by simp [spec_l7Tidy.j4] at h,fun _ _ _ _ _ r h=>by simp [spec_l7Tidy.j5] at h,fun _ _ _ _ _ r h=>by simp [spec_l7Tidy.j6] at h⟩
 | k+1=>by
  obtain ⟨ih0,ih1,ih2,ih3,ih4,ih5,ih6,ih7⟩:=spec_l7Tidy.mono_l k
  refine ⟨?_,?_,?_,?_,?_,?_,?_,?_⟩
  ·intro y0 y1
   unfold spec_l7Tidy.f
   repeat' first
   | (with_reducible exact ih0 _ _)
   | (with_reducible exact ih1 _ _ _ _)
   | (with_reducible exact ih2 _ _ _ _)
   | (with_reducible exact ih3 _ _ _ _ _)
   | (with_reducible exact ih4 _ _ _ _ _)
   | (with_reducible exact ih5 _ _ _ _ _)
   | (with_reducible exact ih6 _ _ _ _ _)
   | (with_reducible exact ih7 _ _ _ _ _)
   | (with_reducible exact spec_l7Write.mono _ _ _)
   | (with_reducible exact LeO.refl _)
   | (with_reducible exact LeO.none _)
   | (with_reducible refine LeO.ite ?_ ?_)
   | (with_reducible refine LeO.bind ?_ (fun _=>?_))
   | exact ih0 _ _
   | exact ih1 _ _ _ _
   | exact ih2 _ _ _ _
   | exact ih3 _ _ _ _ _
   | exact ih4 _ _ _ _ _
   | exact ih5 _ _ _ _ _
   | exact ih6 _ _ _ _ _
   | exact ih7 _ _ _ _ _
   | exact spec_l7Write.mono _ _ _
   | exact LeO.none _
   | refine LeO.ite ?_ ?_
   | refine LeO.bind ?_ (fun _=>?_)
  ·intro y0 y1 y2 y3
   unfold spec_l7Tidy.j0
   repeat' first
   | (with_reducible exact ih0 _ _)
   | (with_reducible exact ih1 _ _ _ _)
   | (with_reducible exact ih2 _ _ _ _)
   | (with_reducible exact ih3 _ _ _ _ _)
   | (with_reducible exact ih4 _ _ _ _ _)
   | (with_reducible exact ih5 _ _ _ _ _)
   | (with_reducible exact ih6 _ _ _ _ _)
   | (with_reducible exact ih7 _ _ _ _ _)
   | (with_reducible exact spec_l7Write.mono _ _ _)
   | (with_reducible exact LeO.refl _)
   | (with_reducible exact LeO.none _)
   | (with_reducible refine LeO.ite ?_ ?_)
   | (with_reducible refine LeO.bind ?_ (fun _=>?_))
   | exact ih0 _ _
   | exact ih1 _ _ _ _
   | exact ih2 _ _ _ _
   | exact ih3 _ _ _ _ _
   | exact ih4 _ _ _ _ _
   | exact ih5 _ _ _ _ _
   | exact ih6 _ _ _ _ _
   | exact ih7 _ _ _ _ _
   | exact spec_l7Write.mono _ _ _
   | exact LeO.none _
   | refine LeO.ite ?_ ?_
   | refine LeO.bind ?_ (fun _=>?_)
  ·intro y0 y1 y2 y3
   unfold spec_l7Tidy.j1
   repeat' first
   | (with_reducible exact ih0 _ _)
   | (with_reducible exact ih1 _ _ _ _)
   | (with_reducible exact ih2 _ _ _ _)
   | (with_reducible exact ih3 _ _ _ _ _)
   | (with_reducible exact ih4 _ _ _ _ _)
   | (with_reducible exact ih5 _ _ _ _ _)
   | (with_reducible exact ih6 _ _ _ _ _)
   | (with_reducible exact ih7 _ _ _ _ _)
   | (with_reducible exact spec_l7Write.mono _ _ _)
   | (with_reducible exact LeO.refl _)
   | (with_reducible exact LeO.none _)
   | (with_reducible refine LeO.ite ?_ ?_)
   | (with_reducible refine LeO.bind ?_ (fun _=>?_))
   | exact ih0 _ _
   | exact ih1 _ _ _ _
   | exact ih2 _ _ _ _
   | exact ih3 _ _ _ _ _
   | exact ih4 _ _ _ _ _
   | exact ih5 _ _ _ _ _
   | exact ih6 _ _ _ _ _
   | exact ih7 _ _ _ _ _
   | exact spec_l7Write.mono _ _ _
   | exact LeO.none _
   | refine LeO.ite ?_ ?_
   | refine LeO.bind ?_ (fun _=>?_)
  ·intro y0 y1 y2 y3 y4
   unfold spec_l7Tidy.j2
   repeat' first
   | (with_reducible exact ih0 _ _)
   | (with_reducible exact ih1 _ _ _ _)
   | (with_reducible exact ih2 _ _ _ _)
   | (with_reducible exact ih3 _ _ _ _ _)
   | (with_reducible exact ih4 _ _ _ _ _)
   | (with_reducible exact ih5 _ _ _ _ _)
   | (with_reducible exact ih6 _ _ _ _ _)
   | (with_reducible exact ih7 _ _ _ _ _)
   | (with_reducible exact spec_l7Write.mono _ _ _)
   | (with_reducible exact LeO.refl _)
   | (with_reducible exact LeO.none _)
   | (with_reducible refine LeO.ite ?_ ?_)
   | (with_reducible refine LeO.bind ?_ (fun _=>?_))
   | exact ih0 _ _
   | exact ih1 _ _ _ _
   | exact ih2 _ _ _ _
   | exact ih3 _ _ _ _ _
   | exact ih4 _ _ _ _ _
   | exact ih5 _ _ _ _ _
   | exact ih6 _ _ _ _ _
   | exact ih7 _ _ _ _ _
   | exact spec_l7Write.mono _ _ _
   | exact LeO.none _
   | refine LeO.ite ?_ ?_
   | refine LeO.bind ?_ (fun _=>?_)
  ·intro y0 y1 y2 y3 y4
   unfold spec_l7Tidy.j3
   repeat' first
   | (with_reducible exact ih0 _ _)
   | (with_reducible exact ih1 _ _ _ _)
   | (with_reducible exact ih2 _ _ _ _)
   | (with_reducible exact ih3 _ _ _ _ _)
   | (with_reducible exact ih4 _ _ _ _ _)
   | (with_reducible exact ih5 _ _ _ _ _)
   | (with_reducible exact ih6 _ _ _ _ _)
   | (with_reducible exact ih7 _ _ _ _ _)
   | (with_reducible exact spec_l7Write.mono _ _ _)
   | (with_reducible exact LeO.refl _)
   | (with_reducible exact LeO.none _)
   | (with_reducible refine LeO.ite ?_ ?_)
   | (with_reducible refine LeO.bind ?_ (fun _=>?_))
   | exact ih0 _ _
   | exact ih1 _ _ _ _
   | exact ih2 _ _ _ _
   | exact ih3 _ _ _ _ _
   | exact ih4 _ _ _ _ _
   | exact ih5 _ _ _ _ _
   | exact ih6 _ _ _ _ _
   | exact ih7 _ _ _ _ _
   | exact spec_l7Write.mono _ _ _
   | exact LeO.none _
   | refine LeO.ite ?_ ?_
   | refine LeO.bind ?_ (fun _=>?_)
  ·intro y0 y1 y2 y3 y4
   unfold spec_l7Tidy.j4
   repeat' first
   | (with_reducible exact ih0 _ _)
   | (with_reducible exact ih1 _ _ _ _)
   | (with_reducible exact ih2 _ _ _ _)
   | (with_reducible exact ih3 _ _ _ _ _)
   | (with_reducible exact ih4 _ _ _ _ _)
   | (with_reducible exact ih5 _ _ _ _ _)
   | (with_reducible exact ih6 _ _ _ _ _)
   | (with_reducible exact ih7 _ _ _ _ _)
   | (with_reducible exact spec_l7Write.mono _ _ _)
   | (with_reducible exact LeO.refl _)
   | (with_reducible exact LeO.none _)
   | (with_reducible refine LeO.ite ?_ ?_)
   | (with_reducible refine LeO.bind ?_ (fun _=>?_))
   | exact ih0 _ _
   | exact ih1 _ _ _ _
   | exact ih2 _ _ _ _
   | exact ih3 _ _ _ _ _
   | exact ih4 _ _ _ _ _
   | exact ih5 _ _ _ _ _
   | exact ih6 _ _ _ _ _
   | exact ih7 _ _ _ _ _
   | exact spec_l7Write.mono _ _ _
   | exact LeO.none _
   | refine LeO.ite ?_ ?_
   | refine LeO.bind ?_ (fun _=>?_)
  ·intro y0 y1 y2 y3 y4
   unfold spec_l7Tidy.j5
   repeat' first
   | (with_reducible exact ih0 _ _)
   | (with_reducible exact ih1 _ _ _ _)
   | (with_reducible exact ih2 _ _ _ _)
   | (with_reducible exact ih3 _ _ _ _ _)
   | (with_reducible exact ih4 _ _ _ _ _)
   | (with_reducible exact ih5 _ _ _ _ _)
   | (with_reducible exact ih6 _ _ _ _ _)
   | (with_reducible exact ih7 _ _ _ _ _)
   | (with_reducible exact spec_l7Write.mono _ _ _)
   | (with_reducible exact LeO.refl _)
   | (with_reducible exact LeO.none _)
   | (with_reducible refine LeO.ite ?_ ?_)
   | (with_reducible refine LeO.bind ?_ (fun _=>?_))
   | exact ih0 _ _
   | exact ih1 _ _ _ _
   | exact ih2 _ _ _ _
   | exact ih3 _ _ _ _ _
   | exact ih4 _ _ _ _ _
   | exact ih5 _ _ _ _ _
   | exact ih6 _ _ _ _ _
   | exact ih7 _ _ _ _ _
   | exact spec_l7Write.mono _ _ _
   | exact LeO.none _
   | refine LeO.ite ?_ ?_
   | refine LeO.bind ?_ (fun _=>?_)
  ·intro y0 y1 y2 y3 y4
   unfold spec_l7Tidy.j6
   repeat' first
   | (with_reducible exact ih0 _ _)
   | (with_reducible exact ih1 _ _ _ _)
   | (with_reducible exact ih2 _ _ _ _)
   | (with_reducible exact ih3 _ _ _ _ _)
   | (with_reducible exact ih4 _ _ _ _ _)
   | (with_reducible exact ih5 _ _ _ _ _)
   | (with_reducible exact ih6 _ _ _ _ _)
   | (with_reducible exact ih7 _ _ _ _ _)
   | (with_reducible exact spec_l7Write.mono _ _ _)
   | (with_reducible exact LeO.refl _)
   | (with_reducible exact LeO.none _)
   | (with_reducible refine LeO.ite ?_ ?_)
   | (with_reducible refine LeO.bind ?_ (fun _=>?_))
   | exact ih0 _ _
   | exact ih1 _ _ _ _
   | exact ih2 _ _ _ _
   | exact ih3 _ _ _ _ _
   | exact ih4 _ _ _ _ _
   | exact ih5 _ _ _ _ _
   | exact ih6 _ _ _ _ _
   | exact ih7 _ _ _ _ _
   | exact spec_l7Write.mono _ _ _
   | exact LeO.none _
   | refine LeO.ite ?_ ?_
   | refine LeO.bind ?_ (fun _=>?_)
theorem spec_l7Tidy.mono:∀ a0 a1 k,LeO (spec_l7Tidy.f k a0 a1) (spec_l7Tidy.f (k+1) a0 a1):=by
 intro a0 a1 k
 obtain ⟨ih0,ih1,ih2,ih3,ih4,ih5,ih6,ih7⟩:=spec_l7Tidy.mono_l k
 exact ih0 a0 a1
set_option maxHeartbeats 8000000 in
set_option maxRecDepth 100000 in
theorem spec_l7Tidy.calls (k:Nat):∀ (a0_0:Int) (A0_1:Option Addr) (c0_1:Nat) (l0_1:List (S44)) (r:ByteArray) (w:World) (hr0_1:Kd.C k44 w A0_1 l0_1.length l0_1) (hc0_1:l0_1.length≤c0_1) (h:spec_l7Tidy.f k a0_0 l0_1=some r),
  Calls Try.prog 36 #[.agg #[.int .u8 a0_0,.slice A0_1 l0_1.length c0_1]] w fun e w'=>e=.returned (.string r)∧Below w.heap.size w w':=by
 induction k using Nat.strongRecOn with
 | _ k ih =>
 intro a0_0 A0_1 c0_1 l0_1 r w hr0_1 hc0_1 h
 cases k with
 | zero=>exact absurd h (by simp [spec_l7Tidy.f])
 | succ k =>
 simp only [spec_l7Tidy.f] at h
 have hu44:=Try.underlying44
 have HR0_1:=Aside0.mk hr0_1
 have HC0_1:=Aside0.mk hc0_1
 clear hr0_1 hc0_1
 have HB:=Aside0.mk (Below.refl w.heap.size w)
 have H:(if (l0_1.length:Int)=0 then ((spec_l7Write.f k a0_0 l0_1).bind fun t354=>(some t354)) else (if 0<(l0_1.length:Int) then ((spec_l7Tidy.f k ((rd_T44 l0_1 0).f0) ((rd_T44 l0_1 0).f1)).bind fun t356=>(if (l0_1.length:Int)=1 then (if a0_0=42 then (if t356.toList=([48]:List UInt8) then (spec_l7Tidy.j0 k t356 true a0_0 l0_1) else (spec_l7Tidy.j0 k t356 (t356.toList == ([49]:List UInt8)) a0_0 l0_1)) else (spec_l7Tidy.j0 k t356 false a0_0 l0_1)) else (if 1<(l0_1.length:Int) then ((spec_l7Tidy.f k ((rd_T44 l0_1 1).f0) ((rd_T44 l0_1 1).f1)).bind fun t364=>(if a0_0=43 then (spec_l7Tidy.j2 k t356 t364 (t356.toList == ([48]:List UInt8)) a0_0 l0_1) else (spec_l7Tidy.j2 k t356 t364 false a0_0 l0_1))) else (none)))) else (none)))=some r:=h
 clear h
 by_cases c2:(l0_1.length:Int)=0
 ·rw [if_pos c2] at H
  have c2b0:((l0_1.length:Int) == 0)=true:=beq_iff_eq.mpr c2
  have c2b1:((l0_1.length:Int) != 0)=false:=bne_eq_false_iff_eq.mpr c2
  clear c2
  replace H:=Option.bind_eq_some_iff.mp H
  obtain ⟨t354,A30,H⟩:=H
  replace H:(some t354)=some r:=H
  have A3:=Aside0.mk A30
  clear A30
  obtain rfl:=Option.some.inj H
  go_enter Try.func36,Try.ntmps36
  go_wp2_with (first|((with_reducible refine gate_dst (N:=1) rfl ?_);refine box_event ?hg (N:=1) ?hd (cs:=#[.int .u8 a0_0,.slice A0_1 l0_1.length c0_1]) (t:=44) ?hr ?_;(case hd=>rfl);(case hg=>rfl);(case hr=>first|(go_simp;done)|(go_simp;rfl));intro gb353 hg w4 hbox hb;have n0_:=Aside0.mk (yP (by repeat (first|(with_reducible first|exact HB.out|apply yA|apply yB|apply yC)|exact HB.out)) hb);have n1_:=Aside0.mk (hbox);have n2_:=Aside0.mk ((by rw [hg];exact (yQ (by repeat (first|(with_reducible first|exact HB.out|apply yA|apply yB|apply yC)|exact HB.out))):w.heap.size≤gb353));have n3_:=Aside0.mk ((by rw [hg];exact (yQ (by repeat (first|(with_reducible first|exact HB.out|apply yA|apply yB|apply yC)|exact HB.out))):w.heap.size≤gb353));clear HB;have HB:=n0_;have BK353:=n1_;have GW353:=n2_;have GE353:=n3_;clear n0_ n1_ n2_ n3_;clear hb hbox hg;have hcz5_0:w4.cell? ⟨gb353,0,none⟩=some (.int .u8 a0_0):=(blk_cell BK353.out 0).trans rfl;have hcz5_1:w4.cell? ⟨gb353,1,none⟩=some (.slice A0_1 l0_1.length c0_1):=(blk_cell BK353.out 1).trans rfl;have hfz5_0:=blk_frozen BK353.out 0;have hfz5_1:=blk_frozen BK353.out 1)|((with_reducible refine gate_callee (f:=49) rfl ?_);refine goesL_ (some 10) rfl rfl Try.func49 (by kernel_rfl) rfl #[.agg #[.int .u8 a0_0,.slice A0_1 l0_1.length c0_1]] rfl (by (try simp only [List.map_toArray,List.map_cons,List.map_nil]);first|done|rfl|(simp only [List.length_drop,List.length_take];rfl)) ?_;(with_reducible refine (spec_l7Write.calls k a0_0 _ _ l0_1 t354 _ ?side1 ?side2 A3.out).mono ?_);(case side1=>repeat (first|exact (Kd.C_below HR0_1.out HB.out)|(with_reducible refine Kd.C_alloc ?_ _)|(with_reducible refine Kd.C_drewN ?_ _)|(with_reducible refine Kd.C_drew ?_)));(case side2=>exact HC0_1.out);rintro e w6 ⟨rfl,hb⟩;refine ⟨_,rfl,?_⟩;have n0_:=Aside0.mk (blk_below (g:=gb353) (o:=.cells #[.int .u8 a0_0,.slice A0_1 l0_1.length c0_1] 44 (0,0)) (by (with_reducible repeat (first|refine yE ?_ _|refine yF ?_|refine yG ?_ _));exact BK353.out) hb);have n1_:=Aside0.mk (yP (by repeat (first|(with_reducible first|exact HB.out|apply yA|apply yB|apply yC|refine yD ?_ GE353.out)|exact HB.out)) hb);clear BK353;clear HB;have BK353:=n0_;have HB:=n1_;clear n0_ n1_;(try clear hb);(try clear hb2);(try clear hk);(try clear hi)))
  go_ret
  exact ⟨by first|rfl|(simp [errW_none,errW_some]<;>rfl)|(simp [*,errW_none,errW_some]<;>rfl)|(simp [errW_none,errW_some];exact ⟨rfl,rfl⟩),by repeat (first|(with_reducible first|exact HB.out|apply yA|apply yB|apply yC|refine yD ?_ GE353.out)|exact HB.out)⟩
 ·rw [if_neg c2] at H
  have c2b0:((l0_1.length:Int) == 0)=false:=beq_eq_false_iff_ne.mpr c2
  have c2b1:((l0_1.length:Int) != 0)=true:=bne_iff_ne.mpr c2
  have c2b2:¬ (l0_1=[]):=fun h_=>c2 (by rw [h_];rfl)
  by_cases c7:0<(l0_1.length:Int)
  ·rw [if_pos c7] at H
   have c7b0:decide (0<(l0_1.length:Int))=true:=decide_eq_true c7
   have c7b1:decide (0<l0_1.length)=true:=decide_eq_true (by omega)
   clear c7
   replace H:=Option.bind_eq_some_iff.mp H
   obtain ⟨t356,A80,H⟩:=H
   replace H:(if (l0_1.length:Int)=1 then (if a0_0=42 then (if t356.toList=([48]:List UInt8) then (spec_l7Tidy.j0 k t356 true a0_0 l0_1) else (spec_l7Tidy.j0 k t356 (t356.toList == ([49]:List UInt8)) a0_0 l0_1)) else (spec_l7Tidy.j0 k t356 false a0_0 l0_1)) else (if 1<(l0_1.length:Int) then ((spec_l7Tidy.f k ((rd_T44 l0_1 1).f0) ((rd_T44 l0_1 1).f1)).bind fun t364=>(if a0_0=43 then (spec_l7Tidy.j2 k t356 t364 (t356.toList == ([48]:List UInt8)) a0_0 l0_1) else (spec_l7Tidy.j2 k t356 t364 false a0_0 l0_1))) else (none)))=some r:=H
   have A8:=Aside0.mk A80
   clear A80
   by_cases c9:(l0_1.length:Int)=1
   ·rw [if_pos c9] at H
    have c9b0:((l0_1.length:Int) == 1)=true:=beq_iff_eq.mpr c9
    have c9b1:((l0_1.length:Int) != 1)=false:=bne_eq_false_iff_eq.mpr c9
    clear c9
    have HC10:=Aside0.mk H
    clear H
    go_enter Try.func36,Try.ntmps36
    go_upto_region 5 with (first|((with_reducible refine gate_dst (N:=1) rfl ?_);refine box_event ?hg (N:=1) ?hd (cs:=#[.int .u8 a0_0,.slice A0_1 l0_1.length c0_1]) (t:=44) ?hr ?_;(case hd=>rfl);(case hg=>rfl);(case hr=>first|(go_simp;done)|(go_simp;rfl));intro gb353 hg w11 hbox hb;have n0_:=Aside0.mk (yP (by repeat (first|(with_reducible first|exact HB.out|apply yA|apply yB|apply yC)|exact HB.out)) hb);have n1_:=Aside0.mk (hbox);have n2_:=Aside0.mk ((by rw [hg];exact (yQ (by repeat (first|(with_reducible first|exact HB.out|apply yA|apply yB|apply yC)|exact HB.out))):w.heap.size≤gb353));have n3_:=Aside0.mk ((by rw [hg];exact (yQ (by repeat (first|(with_reducible first|exact HB.out|apply yA|apply yB|apply yC)|exact HB.out))):w.heap.size≤gb353));clear HB;have HB:=n0_;have BK353:=n1_;have GW353:=n2_;have GE353:=n3_;clear n0_ n1_ n2_ n3_;clear hb hbox hg;have hcz12_0:w11.cell? ⟨gb353,0,none⟩=some (.int .u8 a0_0):=(blk_cell BK353.out 0).trans rfl;have hcz12_1:w11.cell? ⟨gb353,1,none⟩=some (.slice A0_1 l0_1.length c0_1):=(blk_cell BK353.out 1).trans rfl;have hfz12_0:=blk_frozen BK353.out 0;have hfz12_1:=blk_frozen BK353.out 1;have p355:0≤(0:Int):=(by omega);have q355:0<(l0_1.length:Int):=of_decide_eq_true (by first|(with_reducible assumption)|assumption);obtain ⟨ad355,A355_1,c355_1,e355,hx355_0,hx355_1,hl355_1,hi355_1⟩:=at_T44 HR0_1.out 0 p355 q355;cases e355;have qi355:(0<l0_1.length)=True:=eq_true (by omega);(try rw [show ((0:Int)).toNat=0 from rfl] at hx355_0);(try rw [show 0 * 2=0 from rfl] at hx355_0);(try rw [Addr.add_zero'] at hx355_0);(try rw [show ((0:Int)).toNat=0 from rfl] at hx355_1);(try rw [show 0 * 2=0 from rfl] at hx355_1);(try rw [Addr.add_zero'] at hx355_1);replace hx355_0:=(HB.out.cell (World.block_lt_of_cell? w _ hx355_0)).trans hx355_0;replace hx355_1:=(HB.out.cell (World.block_lt_of_cell? w _ hx355_1)).trans hx355_1;have HR355_1:=Aside0.mk hi355_1;have HC355_1:=Aside0.mk hl355_1;clear hi355_1 hl355_1;replace p355:=eq_true p355;replace q355:=eq_true q355)|((with_reducible refine gate_callee (f:=36) rfl ?_);refine goesL_ (some 15) rfl rfl Try.func36 (by kernel_rfl) rfl #[.agg #[.int .u8 ((rd_T44 l0_1 0).f0),.slice A355_1 ((rd_T44 l0_1 0).f1).length c355_1]] rfl (by (try simp only [List.map_toArray,List.map_cons,List.map_nil]);first|done|rfl|(simp only [List.length_drop,List.length_take];rfl)) ?_;(with_reducible refine (ih k (by omega) ((rd_T44 l0_1 0).f0) _ _ ((rd_T44 l0_1 0).f1) t356 _ ?side1 ?side2 A8.out).mono ?_);(case side1=>repeat (first|exact (Kd.C_below HR355_1.out HB.out)|(with_reducible refine Kd.C_alloc ?_ _)|(with_reducible refine Kd.C_drewN ?_ _)|(with_reducible refine Kd.C_drew ?_)));(case side2=>exact HC355_1.out);rintro e w13 ⟨rfl,hb⟩;refine ⟨_,rfl,?_⟩;have n0_:=Aside0.mk (blk_below (g:=gb353) (o:=.cells #[.int .u8 a0_0,.slice (some ad355) l0_1.length c0_1] 44 (0,0)) (by (with_reducible repeat (first|refine yE ?_ _|refine yF ?_|refine yG ?_ _));exact BK353.out) hb);have n1_:=Aside0.mk (yP (by repeat (first|(with_reducible first|exact HB.out|apply yA|apply yB|apply yC|refine yD ?_ GE353.out)|exact HB.out)) hb);clear BK353;clear HB;have BK353:=n0_;have HB:=n1_;clear n0_ n1_;(try clear hb);(try clear hb2);(try clear hk);(try clear hi);have hcz14_0:w13.cell? ⟨gb353,0,none⟩=some (.int .u8 a0_0):=(blk_cell BK353.out 0).trans rfl;have hcz14_1:w13.cell? ⟨gb353,1,none⟩=some (.slice (some ad355) l0_1.length c0_1):=(blk_cell BK353.out 1).trans rfl;have hfz14_0:=blk_frozen BK353.out 0;have hfz14_1:=blk_frozen BK353.out 1))
    (try simp only [Act.put,yK,yL,yM])
    go_cut [20] (fun v20 wc=>∃ (kq:Nat) (x20_9:Bool),v20=.bool x20_9∧Aside0 (spec_l7Tidy.j0 kq t356 x20_9 a0_0 l0_1=some r)∧Aside0 (kq≤k)∧Aside0 (wc.heap[gb353]?=some (.cells #[.int .u8 a0_0,(.slice (some ad355) l0_1.length c0_1)] 44 (0,0)))∧Aside0 (Below w.heap.size w wc))
    case first =>
     have H:=HC10.out
     clear HC10
     by_cases c15:a0_0=42
     ·rw [if_pos c15] at H
      have c15b0:(a0_0 == 42)=true:=beq_iff_eq.mpr c15
      have c15b1:(a0_0 != 42)=false:=bne_eq_false_iff_eq.mpr c15
      clear c15
      (first|rw [c15b0]|(simp only [i64_w,i32_w];rw [c15b0])|skip)
      by_cases c16:t356.toList=([48]:List UInt8)
      ·rw [if_pos c16] at H
       have c16b0:(t356.toList == ([48]:List UInt8))=true:=beq_iff_eq.mpr c16
       have c16b1:(t356.toList != ([48]:List UInt8))=false:=bne_eq_false_iff_eq.mpr c16
       clear c16
       have H':=Aside0.mk H
       clear H
       have hcz17_0:w13.cell? ⟨gb353,0,none⟩=some (.int .u8 a0_0):=(blk_cell BK353.out 0).trans rfl
       have hcz17_1:w13.cell? ⟨gb353,1,none⟩=some (.slice (some ad355) l0_1.length c0_1):=(blk_cell BK353.out 1).trans rfl
       have hfz17_0:=blk_frozen BK353.out 0
       have hfz17_1:=blk_frozen BK353.out 1
       go_wp2
       go_meet
       case rel=>exact ⟨_,(true),(by first|rfl|(simp;done)|(simp [*];done)|(simp [Int.tmod_eq_emod_of_nonneg];done)),H',⟨by first|omega|exact Nat.le_refl _⟩,⟨by (with_reducible repeat (first|refine yE ?_ _|refine yF ?_|refine yG ?_ _));exact BK353.out⟩,⟨by repeat (first|(with_reducible first|exact HB.out|apply yA|apply yB|apply yC|refine yD ?_ GE353.out)|exact HB.out)⟩⟩
      ·rw [if_neg c16] at H
       have c16b0:(t356.toList == ([48]:List UInt8))=false:=beq_eq_false_iff_ne.mpr c16
       have c16b1:(t356.toList != ([48]:List UInt8))=true:=bne_iff_ne.mpr c16
       have H':=Aside0.mk H
       clear H
       have hcz18_0:w13.cell? ⟨gb353,0,none⟩=some (.int .u8 a0_0):=(blk_cell BK353.out 0).trans rfl
       have hcz18_1:w13.cell? ⟨gb353,1,none⟩=some (.slice (some ad355) l0_1.length c0_1):=(blk_cell BK353.out 1).trans rfl
       have hfz18_0:=blk_frozen BK353.out 0
       have hfz18_1:=blk_frozen BK353.out 1
       go_wp2
       go_meet
       case rel=>exact ⟨_,((t356.toList == ([49]:List UInt8))),(by first|rfl|(simp;done)|(simp [*];done)|(simp [Int.tmod_eq_emod_of_nonneg];done)),H',⟨by first|omega|exact Nat.le_refl _⟩,⟨by (with_reducible repeat (first|refine yE ?_ _|refine yF ?_|refine yG ?_ _));exact BK353.out⟩,⟨by repeat (first|(with_reducible first|exact HB.out|apply yA|apply yB|apply yC|refine yD ?_ GE353.out)|exact HB.out)⟩⟩
     ·rw [if_neg c15] at H
      have c15b0:(a0_0 == 42)=false:=beq_eq_false_iff_ne.mpr c15
      have c15b1:(a0_0 != 42)=true:=bne_iff_ne.mpr c15
      (first|rw [c15b0]|(simp only [i64_w,i32_w];rw [c15b0])|skip)
      have H':=Aside0.mk H
      clear H
      have hcz19_0:w13.cell? ⟨gb353,0,none⟩=some (.int .u8 a0_0):=(blk_cell BK353.out 0).trans rfl
      have hcz19_1:w13.cell? ⟨gb353,1,none⟩=some (.slice (some ad355) l0_1.length c0_1):=(blk_cell BK353.out 1).trans rfl
      have hfz19_0:=blk_frozen BK353.out 0
      have hfz19_1:=blk_frozen BK353.out 1
      go_wp2
      go_meet
      case rel=>exact ⟨_,(false),(by first|rfl|(simp;done)|(simp [*];done)|(simp [Int.tmod_eq_emod_of_nonneg];done)),H',⟨by first|omega|exact Nat.le_refl _⟩,⟨by (with_reducible repeat (first|refine yE ?_ _|refine yF ?_|refine yG ?_ _));exact BK353.out⟩,⟨by repeat (first|(with_reducible first|exact HB.out|apply yA|apply yB|apply yC|refine yD ?_ GE353.out)|exact HB.out)⟩⟩
    case rest =>
     clear HC10
     try clear c1
     try clear c2
     try clear c2b0
     try clear c2b1
     try clear c2b2
     try clear p2
     try clear c3
     try clear p3
     try clear q3
     try clear hx3
     try clear qi3
     try clear c4
     try clear c7
     try clear c7b0
     try clear c7b1
     try clear c9
     try clear c9b0
     try clear c9b1
     try clear c15
     try clear c15b0
     try clear c15b1
     try clear c16
     try clear c16b0
     try clear c16b1
     try clear hcz12_0
     try clear hcz12_1
     try clear hcz14_0
     try clear hcz14_1
     try clear hcz17_0
     try clear hcz17_1
     try clear hcz18_0
     try clear hcz18_1
     try clear hcz19_0
     try clear hcz19_1
     try clear hcz5_0
     try clear hcz5_1
     try clear hfz12_0
     try clear hfz12_1
     try clear hfz14_0
     try clear hfz14_1
     try clear hfz17_0
     try clear hfz17_1
     try clear hfz18_0
     try clear hfz18_1
     try clear hfz19_0
     try clear hfz19_1
     try clear hfz5_0
     try clear hfz5_1
     try clear hx355_0
     try clear hx355_1
     try clear p355
     try clear q355
     obtain ⟨kq,x20_9,rfl,HA,HJ9,BK353,HB⟩:=hcut
     cases kq with
     | zero=>exact absurd HA.out (by simp [spec_l7Tidy.j0])
     | succ kj9 =>
      have H:=HA.out
      clear HA
      simp only [spec_l7Tidy.j0] at H
      by_cases c20:x20_9=true
      ·subst c20
       have H1:(some (⟨#[49]⟩:ByteArray))=some r:=by rw [if_pos rfl] at H;exact H
       clear H
       have H:=H1
       clear H1
       obtain rfl:=Option.some.inj H
       go_wp2
       go_ret
       exact ⟨by first|rfl|(simp [errW_none,errW_some]<;>rfl)|(simp [*,errW_none,errW_some]<;>rfl)|(simp [errW_none,errW_some];exact ⟨rfl,rfl⟩),by repeat (first|(with_reducible first|exact HB.out|apply yA|apply yB|apply yC|refine yD ?_ GE353.out)|exact HB.out)⟩
      ·replace c20:=Bool.eq_false_iff.mpr c20
       subst c20
       have H1:(if a0_0=42 then (if 0<(t356.size:Int) then (spec_l7Tidy.j1 kj9 t356 ((bt t356 0) == 42) a0_0 l0_1) else (none)) else (spec_l7Tidy.j1 kj9 t356 false a0_0 l0_1))=some r:=by rw [if_neg (show ¬ (false=true) by decide)] at H;exact H
       clear H
       have H:=H1
       clear H1
       have HC21:=Aside0.mk H
       clear H
       go_upto_region 7 with (fail)
       go_cut [32] (fun v32 wc=>∃ (kq:Nat) (x32_20:Bool),v32=.bool x32_20∧Aside0 (spec_l7Tidy.j1 kq t356 x32_20 a0_0 l0_1=some r)∧Aside0 (kq≤kj9)∧Aside0 (wc.heap[gb353]?=some (.cells #[.int .u8 a0_0,(.slice (some ad355) l0_1.length c0_1)] 44 (0,0)))∧Aside0 (Below w.heap.size w wc))
       case first =>
        have H:=HC21.out
        clear HC21
        by_cases c22:a0_0=42
        ·rw [if_pos c22] at H
         have c22b0:(a0_0 == 42)=true:=beq_iff_eq.mpr c22
         have c22b1:(a0_0 != 42)=false:=bne_eq_false_iff_eq.mpr c22
         clear c22
         (first|rw [c22b0]|(simp only [i64_w,i32_w];rw [c22b0])|skip)
         by_cases c23:0<(t356.size:Int)
         ·rw [if_pos c23] at H
          have c23b0:decide (0<(t356.size:Int))=true:=decide_eq_true c23
          have c23b1:decide (0<t356.size)=true:=decide_eq_true (by omega)
          clear c23
          have H':=Aside0.mk H
          clear H
          have hcz25_0:wc.cell? ⟨gb353,0,none⟩=some (.int .u8 a0_0):=(blk_cell BK353.out 0).trans rfl
          have hcz25_1:wc.cell? ⟨gb353,1,none⟩=some (.slice (some ad355) l0_1.length c0_1):=(blk_cell BK353.out 1).trans rfl
          have hfz25_0:=blk_frozen BK353.out 0
          have hfz25_1:=blk_frozen BK353.out 1
          have p24:0≤(0:Int):=(by omega)
          have q24:0<t356.size:=(by have:(0:Int)<(t356.size:Int):=of_decide_eq_true (by first|(with_reducible assumption)|assumption);omega)
          have hx24:∀ h:0<t356.size,((t356[0]'h).toNat:Int)=bt t356 0:=bt_at t356 0
          clear p24
          have qi24:(0<(t356.size:Int))=True:=eq_true (of_decide_eq_true (by first|(with_reducible assumption)|assumption))
          replace q24:=eq_true q24
          go_wp2
          go_meet
          case rel=>exact ⟨_,(((bt t356 0) == 42)),(by first|rfl|(simp;done)|(simp [*];done)|(simp [Int.tmod_eq_emod_of_nonneg];done)),H',⟨by have:=HJ9.out;first|omega|exact Nat.le_refl _⟩,⟨by (with_reducible repeat (first|refine yE ?_ _|refine yF ?_|refine yG ?_ _));exact BK353.out⟩,⟨by repeat (first|(with_reducible first|exact HB.out|apply yA|apply yB|apply yC|refine yD ?_ GE353.out)|exact HB.out)⟩⟩
         ·rw [if_neg c23] at H
          exact absurd H (by simp)
        ·rw [if_neg c22] at H
         have c22b0:(a0_0 == 42)=false:=beq_eq_false_iff_ne.mpr c22
         have c22b1:(a0_0 != 42)=true:=bne_iff_ne.mpr c22
         (first|rw [c22b0]|(simp only [i64_w,i32_w];rw [c22b0])|skip)
         have H':=Aside0.mk H
         clear H
         have hcz26_0:wc.cell? ⟨gb353,0,none⟩=some (.int .u8 a0_0):=(blk_cell BK353.out 0).trans rfl
         have hcz26_1:wc.cell? ⟨gb353,1,none⟩=some (.slice (some ad355) l0_1.length c0_1):=(blk_cell BK353.out 1).trans rfl
         have hfz26_0:=blk_frozen BK353.out 0
         have hfz26_1:=blk_frozen BK353.out 1
         go_wp2
         go_meet
         case rel=>exact ⟨_,(false),(by first|rfl|(simp;done)|(simp [*];done)|(simp [Int.tmod_eq_emod_of_nonneg];done)),H',⟨by have:=HJ9.out;first|omega|exact Nat.le_refl _⟩,⟨by (with_reducible repeat (first|refine yE ?_ _|refine yF ?_|refine yG ?_ _));exact BK353.out⟩,⟨by repeat (first|(with_reducible first|exact HB.out|apply yA|apply yB|apply yC|refine yD ?_ GE353.out)|exact HB.out)⟩⟩
       case rest =>
        clear HC21
        try clear c1
        try clear c2
        try clear c2b0
        try clear c2b1
        try clear c2b2
        try clear p2
        try clear q2
        try clear hx2
        try clear qi2
        try clear c3
        try clear p3
        try clear q3
        try clear hx3
        try clear qi3
        try clear c4
        try clear c7
        try clear c7b0
        try clear c7b1
        try clear c9
        try clear c9b0
        try clear c9b1
        try clear c15
        try clear c15b0
        try clear c15b1
        try clear c16
        try clear c16b0
        try clear c16b1
        try clear c20
        try clear c22
        try clear c22b0
        try clear c22b1
        try clear c23
        try clear c23b0
        try clear c23b1
        try clear p24
        try clear q24
        try clear hx24
        try clear qi24
        try clear hcz12_0
        try clear hcz12_1
        try clear hcz14_0
        try clear hcz14_1
        try clear hcz17_0
        try clear hcz17_1
        try clear hcz18_0
        try clear hcz18_1
        try clear hcz19_0
        try clear hcz19_1
        try clear hcz25_0
        try clear hcz25_1
        try clear hcz26_0
        try clear hcz26_1
        try clear hcz5_0
        try clear hcz5_1
        try clear hfz12_0
        try clear hfz12_1
        try clear hfz14_0
        try clear hfz14_1
        try clear hfz17_0
        try clear hfz17_1
        try clear hfz18_0
        try clear hfz18_1
        try clear hfz19_0
        try clear hfz19_1
        try clear hfz25_0
        try clear hfz25_1
        try clear hfz26_0
        try clear hfz26_1
        try clear hfz5_0
        try clear hfz5_1
        try clear hx355_0
        try clear hx355_1
        try clear p2
        try clear p24
        try clear p3
        try clear p355
        try clear q24
        try clear q3
        try clear q355
        obtain ⟨kq,x32_20,rfl,HA,HJ20,BK353,HB⟩:=hcut
        cases kq with
        | zero=>exact absurd HA.out (by simp [spec_l7Tidy.j1])
        | succ kj20 =>
         have H:=HA.out
         clear HA
         simp only [spec_l7Tidy.j1] at H
         by_cases c27:x32_20=true
         ·subst c27
          have H1:(some t356)=some r:=by rw [if_pos rfl] at H;exact H
          clear H
          have H:=H1
          clear H1
          obtain rfl:=Option.some.inj H
          go_wp2
          go_ret
          exact ⟨by first|rfl|(simp [errW_none,errW_some]<;>rfl)|(simp [*,errW_none,errW_some]<;>rfl)|(simp [errW_none,errW_some];exact ⟨rfl,rfl⟩),by repeat (first|(with_reducible first|exact HB.out|apply yA|apply yB|apply yC|refine yD ?_ GE353.out)|exact HB.out)⟩
         ·replace c27:=Bool.eq_false_iff.mpr c27
          subst c27
          have H1:(if a0_0=42 then ((some (([a0_0]:List Int):List Int)).bind fun y357=>(if (strOfNums y357).size+t356.size≤9223372036854775807 then (some ((strOfNums y357)++t356)) else (none))) else (if t356.toList=([48]:List UInt8) then (some t356) else (if t356.toList=([49]:List UInt8) then (some t356) else ((some (([a0_0]:List Int):List Int)).bind fun y360=>(if (strOfNums y360).size+t356.size≤9223372036854775807 then (some ((strOfNums y360)++t356)) else (none))))))=some r:=by rw [if_neg (show ¬ (false=true) by decide)] at H;exact H
          clear H
          have H:=H1
          clear H1
          by_cases c28:a0_0=42
          ·rw [if_pos c28] at H
           have c28b0:(a0_0 == 42)=true:=beq_iff_eq.mpr c28
           have c28b1:(a0_0 != 42)=false:=bne_eq_false_iff_eq.mpr c28
           clear c28
           obtain ⟨y357,hy357⟩:∃ y_:List Int,y_=(([a0_0]:List Int)):=⟨_,rfl⟩
           replace H:(if (strOfNums y357).size+t356.size≤9223372036854775807 then (some ((strOfNums y357)++t356)) else (none))=some r:=by first|(rw [hy357];with_reducible exact H)|(have H2_:=(Option.bind_some _ _).symm.trans H;rw [hy357];with_reducible exact H2_)|(have H2_:=(Option.bind_some _ _).symm.trans H;with_reducible exact H2_)|with_reducible exact H|(rw [hy357];exact H)|exact H
           have Ny357:=Aside0.mk hy357
           clear hy357
           by_cases c29:(strOfNums y357).size+t356.size≤9223372036854775807
           ·rw [if_pos c29] at H
            have c29b0:=eq_true c29
            have c29b1:decide ((strOfNums y357).size+t356.size≤9223372036854775807)=true:=decide_eq_true c29
            try have c29b2:(9223372036854775807<(strOfNums y357).size+t356.size)=False:=eq_false (Nat.not_lt.2 c29)
            obtain rfl:=Option.some.inj H
            have hcz30_0:wc.cell? ⟨gb353,0,none⟩=some (.int .u8 a0_0):=(blk_cell BK353.out 0).trans rfl
            have hcz30_1:wc.cell? ⟨gb353,1,none⟩=some (.slice (some ad355) l0_1.length c0_1):=(blk_cell BK353.out 1).trans rfl
            have hfz30_0:=blk_frozen BK353.out 0
            have hfz30_1:=blk_frozen BK353.out 1
            go_wp2_with (first|((with_reducible refine gate_dst (N:=57) rfl ?_);refine Kd.R_lit (Kd.int .u8) _ 5 ?hg (N:=57) ?hd (xs:=([a0_0]:List Int)) (inner:=[.int .u8 a0_0]) (ok:=fun _=>True) (okp:=fun _=>True) ?hr ?hp (fun _ hk=>hk) trivial (Below.refl _ _) (Nat.le_refl _) (by simp) ?_;(case hd=>rfl);(case hg=>rfl);(case hr=>first|(go_simp;done)|(go_simp;rfl));(case hp=>exact (Reps.one (show Kd.M (Kd.int .u8) _ _ _ a0_0 [.int .u8 a0_0] from rfl) (Reps.none _ _)));intro v358 w31 ho32 hb hg_ hnew_;clear hg_ hnew_;(first|rw [← Ny357.out] at ho32|(simp only [Int.reduceToNat] at ho32;rw [← Ny357.out] at ho32));have n0_:=Aside0.mk (Kd.R_lower ho32 (yQ (by repeat (first|(with_reducible first|exact HB.out|apply yA|apply yB|apply yC|refine yD ?_ GE353.out)|exact HB.out))));have n1_:=Aside0.mk (blk_below (g:=gb353) (o:=.cells #[.int .u8 a0_0,.slice (some ad355) l0_1.length c0_1] 44 (0,0)) (by (with_reducible repeat (first|refine yE ?_ _|refine yF ?_|refine yG ?_ _));exact BK353.out) hb);have n2_:=Aside0.mk (yP (by repeat (first|(with_reducible first|exact HB.out|apply yA|apply yB|apply yC|refine yD ?_ GE353.out)|exact HB.out)) hb);clear BK353;clear HB;have HO359:=n0_;have BK353:=n1_;have HB:=n2_;clear n0_ n1_ n2_;clear hb ho32;have hcv33:=own_string (P:=Try.prog) Try.underlying22 Try.underlying5 Try.underlying9 (Kd.own_of_R HO359.out)))
            go_ret
            exact ⟨by first|rfl|(simp [errW_none,errW_some]<;>rfl)|(simp [*,errW_none,errW_some]<;>rfl)|(simp [errW_none,errW_some];exact ⟨rfl,rfl⟩),by repeat (first|(with_reducible first|exact HB.out|apply yA|apply yB|apply yC|refine yD ?_ GE353.out)|exact HB.out)⟩
           ·rw [if_neg c29] at H
            exact absurd H (by simp)
          ·rw [if_neg c28] at H
           have c28b0:(a0_0 == 42)=false:=beq_eq_false_iff_ne.mpr c28
           have c28b1:(a0_0 != 42)=true:=bne_iff_ne.mpr c28
           by_cases c34:t356.toList=([48]:List UInt8)
           ·rw [if_pos c34] at H
            have c34b0:(t356.toList == ([48]:List UInt8))=true:=beq_iff_eq.mpr c34
            have c34b1:(t356.toList != ([48]:List UInt8))=false:=bne_eq_false_iff_eq.mpr c34
            clear c34
            obtain rfl:=Option.some.inj H
            have hcz35_0:wc.cell? ⟨gb353,0,none⟩=some (.int .u8 a0_0):=(blk_cell BK353.out 0).trans rfl
            have hcz35_1:wc.cell? ⟨gb353,1,none⟩=some (.slice (some ad355) l0_1.length c0_1):=(blk_cell BK353.out 1).trans rfl
            have hfz35_0:=blk_frozen BK353.out 0
            have hfz35_1:=blk_frozen BK353.out 1
            go_wp2
            go_ret
            exact ⟨by first|rfl|(simp [errW_none,errW_some]<;>rfl)|(simp [*,errW_none,errW_some]<;>rfl)|(simp [errW_none,errW_some];exact ⟨rfl,rfl⟩),by repeat (first|(with_reducible first|exact HB.out|apply yA|apply yB|apply yC|refine yD ?_ GE353.out)|exact HB.out)⟩
           ·rw [if_neg c34] at H
            have c34b0:(t356.toList == ([48]:List UInt8))=false:=beq_eq_false_iff_ne.mpr c34
            have c34b1:(t356.toList != ([48]:List UInt8))=true:=bne_iff_ne.mpr c34
            by_cases c36:t356.toList=([49]:List UInt8)
            ·rw [if_pos c36] at H
             have c36b0:(t356.toList == ([49]:List UInt8))=true:=beq_iff_eq.mpr c36
             have c36b1:(t356.toList != ([49]:List UInt8))=false:=bne_eq_false_iff_eq.mpr c36
             clear c36
             obtain rfl:=Option.some.inj H
             have hcz37_0:wc.cell? ⟨gb353,0,none⟩=some (.int .u8 a0_0):=(blk_cell BK353.out 0).trans rfl
             have hcz37_1:wc.cell? ⟨gb353,1,none⟩=some (.slice (some ad355) l0_1.length c0_1):=(blk_cell BK353.out 1).trans rfl
             have hfz37_0:=blk_frozen BK353.out 0
             have hfz37_1:=blk_frozen BK353.out 1
             go_wp2
             go_ret
             exact ⟨by first|rfl|(simp [errW_none,errW_some]<;>rfl)|(simp [*,errW_none,errW_some]<;>rfl)|(simp [errW_none,errW_some];exact ⟨rfl,rfl⟩),by repeat (first|(with_reducible first|exact HB.out|apply yA|apply yB|apply yC|refine yD ?_ GE353.out)|exact HB.out)⟩
            ·rw [if_neg c36] at H
             have c36b0:(t356.toList == ([49]:List UInt8))=false:=beq_eq_false_iff_ne.mpr c36
             have c36b1:(t356.toList != ([49]:List UInt8))=true:=bne_iff_ne.mpr c36
             obtain ⟨y360,hy360⟩:∃ y_:List Int,y_=(([a0_0]:List Int)):=⟨_,rfl⟩
             replace H:(if (strOfNums y360).size+t356.size≤9223372036854775807 then (some ((strOfNums y360)++t356)) else (none))=some r:=by first|(rw [hy360];with_reducible exact H)|(have H2_:=(Option.bind_some _ _).symm.trans H;rw [hy360];with_reducible exact H2_)|(have H2_:=(Option.bind_some _ _).symm.trans H;with_reducible exact H2_)|with_reducible exact H|(rw [hy360];exact H)|exact H
             have Ny360:=Aside0.mk hy360
             clear hy360
             by_cases c38:(strOfNums y360).size+t356.size≤9223372036854775807
             ·rw [if_pos c38] at H
              have c38b0:=eq_true c38
              have c38b1:decide ((strOfNums y360).size+t356.size≤9223372036854775807)=true:=decide_eq_true c38
              try have c38b2:(9223372036854775807<(strOfNums y360).size+t356.size)=False:=eq_false (Nat.not_lt.2 c38)
              obtain rfl:=Option.some.inj H
              have hcz39_0:wc.cell? ⟨gb353,0,none⟩=some (.int .u8 a0_0):=(blk_cell BK353.out 0).trans rfl
              have hcz39_1:wc.cell? ⟨gb353,1,none⟩=some (.slice (some ad355) l0_1.length c0_1):=(blk_cell BK353.out 1).trans rfl
              have hfz39_0:=blk_frozen BK353.out 0
              have hfz39_1:=blk_frozen BK353.out 1
              go_wp2_with (first|((with_reducible refine gate_dst (N:=57) rfl ?_);refine Kd.R_lit (Kd.int .u8) _ 5 ?hg (N:=57) ?hd (xs:=([a0_0]:List Int)) (inner:=[.int .u8 a0_0]) (ok:=fun _=>True) (okp:=fun _=>True) ?hr ?hp (fun _ hk=>hk) trivial (Below.refl _ _) (Nat.le_refl _) (by simp) ?_;(case hd=>rfl);(case hg=>rfl);(case hr=>first|(go_simp;done)|(go_simp;rfl));(case hp=>exact (Reps.one (show Kd.M (Kd.int .u8) _ _ _ a0_0 [.int .u8 a0_0] from rfl) (Reps.none _ _)));intro v361 w40 ho41 hb hg_ hnew_;clear hg_ hnew_;(first|rw [← Ny360.out] at ho41|(simp only [Int.reduceToNat] at ho41;rw [← Ny360.out] at ho41));have n0_:=Aside0.mk (Kd.R_lower ho41 (yQ (by repeat (first|(with_reducible first|exact HB.out|apply yA|apply yB|apply yC|refine yD ?_ GE353.out)|exact HB.out))));have n1_:=Aside0.mk (blk_below (g:=gb353) (o:=.cells #[.int .u8 a0_0,.slice (some ad355) l0_1.length c0_1] 44 (0,0)) (by (with_reducible repeat (first|refine yE ?_ _|refine yF ?_|refine yG ?_ _));exact BK353.out) hb);have n2_:=Aside0.mk (yP (by repeat (first|(with_reducible first|exact HB.out|apply yA|apply yB|apply yC|refine yD ?_ GE353.out)|exact HB.out)) hb);clear BK353;clear HB;have HO362:=n0_;have BK353:=n1_;have HB:=n2_;clear n0_ n1_ n2_;clear hb ho41;have hcv42:=own_string (P:=Try.prog) Try.underlying22 Try.underlying5 Try.underlying9 (Kd.own_of_R HO362.out)))
              go_ret
              exact ⟨by first|rfl|(simp [errW_none,errW_some]<;>rfl)|(simp [*,errW_none,errW_some]<;>rfl)|(simp [errW_none,errW_some];exact ⟨rfl,rfl⟩),by repeat (first|(with_reducible first|exact HB.out|apply yA|apply yB|apply yC|refine yD ?_ GE353.out)|exact HB.out)⟩
             ·rw [if_neg c38] at H
              exact absurd H (by simp)
   ·rw [if_neg c9] at H
    have c9b0:((l0_1.length:Int) == 1)=false:=beq_eq_false_iff_ne.mpr c9
    have c9b1:((l0_1.length:Int) != 1)=true:=bne_iff_ne.mpr c9
    by_cases c43:1<(l0_1.length:Int)
    ·rw [if_pos c43] at H
     have c43b0:decide (1<(l0_1.length:Int))=true:=decide_eq_true c43
     have c43b1:decide (1<l0_1.length)=true:=decide_eq_true (by omega)
     clear c43
     replace H:=Option.bind_eq_some_iff.mp H
     obtain ⟨t364,A440,H⟩:=H
     replace H:(if a0_0=43 then (spec_l7Tidy.j2 k t356 t364 (t356.toList == ([48]:List UInt8)) a0_0 l0_1) else (spec_l7Tidy.j2 k t356 t364 false a0_0 l0_1))=some r:=H
     have A44:=Aside0.mk A440
     clear A440
     have HC45:=Aside0.mk H
     clear H
     go_enter Try.func36,Try.ntmps36
     go_upto_region 13 with (first|((with_reducible refine gate_dst (N:=1) rfl ?_);refine box_event ?hg (N:=1) ?hd (cs:=#[.int .u8 a0_0,.slice A0_1 l0_1.length c0_1]) (t:=44) ?hr ?_;(case hd=>rfl);(case hg=>rfl);(case hr=>first|(go_simp;done)|(go_simp;rfl));intro gb353 hg w46 hbox hb;have n0_:=Aside0.mk (yP (by repeat (first|(with_reducible first|exact HB.out|apply yA|apply yB|apply yC)|exact HB.out)) hb);have n1_:=Aside0.mk (hbox);have n2_:=Aside0.mk ((by rw [hg];exact (yQ (by repeat (first|(with_reducible first|exact HB.out|apply yA|apply yB|apply yC)|exact HB.out))):w.heap.size≤gb353));have n3_:=Aside0.mk ((by rw [hg];exact (yQ (by repeat (first|(with_reducible first|exact HB.out|apply yA|apply yB|apply yC)|exact HB.out))):w.heap.size≤gb353));clear HB;have HB:=n0_;have BK353:=n1_;have GW353:=n2_;have GE353:=n3_;clear n0_ n1_ n2_ n3_;clear hb hbox hg;have hcz47_0:w46.cell? ⟨gb353,0,none⟩=some (.int .u8 a0_0):=(blk_cell BK353.out 0).trans rfl;have hcz47_1:w46.cell? ⟨gb353,1,none⟩=some (.slice A0_1 l0_1.length c0_1):=(blk_cell BK353.out 1).trans rfl;have hfz47_0:=blk_frozen BK353.out 0;have hfz47_1:=blk_frozen BK353.out 1;have p355:0≤(0:Int):=(by omega);have q355:0<(l0_1.length:Int):=of_decide_eq_true (by first|(with_reducible assumption)|assumption);obtain ⟨ad355,A355_1,c355_1,e355,hx355_0,hx355_1,hl355_1,hi355_1⟩:=at_T44 HR0_1.out 0 p355 q355;cases e355;have qi355:(0<l0_1.length)=True:=eq_true (by omega);(try rw [show ((0:Int)).toNat=0 from rfl] at hx355_0);(try rw [show 0 * 2=0 from rfl] at hx355_0);(try rw [Addr.add_zero'] at hx355_0);(try rw [show ((0:Int)).toNat=0 from rfl] at hx355_1);(try rw [show 0 * 2=0 from rfl] at hx355_1);(try rw [Addr.add_zero'] at hx355_1);replace hx355_0:=(HB.out.cell (World.block_lt_of_cell? w _ hx355_0)).trans hx355_0;replace hx355_1:=(HB.out.cell (World.block_lt_of_cell? w _ hx355_1)).trans hx355_1;have HR355_1:=Aside0.mk hi355_1;have HC355_1:=Aside0.mk hl355_1;clear hi355_1 hl355_1;replace p355:=eq_true p355;replace q355:=eq_true q355)|((with_reducible refine gate_callee (f:=36) rfl ?_);refine goesL_ (some 15) rfl rfl Try.func36 (by kernel_rfl) rfl #[.agg #[.int .u8 ((rd_T44 l0_1 0).f0),.slice A355_1 ((rd_T44 l0_1 0).f1).length c355_1]] rfl (by (try simp only [List.map_toArray,List.map_cons,List.map_nil]);first|done|rfl|(simp only [List.length_drop,List.length_take];rfl)) ?_;(with_reducible refine (ih k (by omega) ((rd_T44 l0_1 0).f0) _ _ ((rd_T44 l0_1 0).f1) t356 _ ?side1 ?side2 A8.out).mono ?_);(case side1=>repeat (first|exact (Kd.C_below HR355_1.out HB.out)|(with_reducible refine Kd.C_alloc ?_ _)|(with_reducible refine Kd.C_drewN ?_ _)|(with_reducible refine Kd.C_drew ?_)));(case side2=>exact HC355_1.out);rintro e w48 ⟨rfl,hb⟩;refine ⟨_,rfl,?_⟩;have n0_:=Aside0.mk (blk_below (g:=gb353) (o:=.cells #[.int .u8 a0_0,.slice (some ad355) l0_1.length c0_1] 44 (0,0)) (by (with_reducible repeat (first|refine yE ?_ _|refine yF ?_|refine yG ?_ _));exact BK353.out) hb);have n1_:=Aside0.mk (yP (by repeat (first|(with_reducible first|exact HB.out|apply yA|apply yB|apply yC|refine yD ?_ GE353.out)|exact HB.out)) hb);clear BK353;clear HB;have BK353:=n0_;have HB:=n1_;clear n0_ n1_;(try clear hb);(try clear hb2);(try clear hk);(try clear hi);have hcz49_0:w48.cell? ⟨gb353,0,none⟩=some (.int .u8 a0_0):=(blk_cell BK353.out 0).trans rfl;have hcz49_1:w48.cell? ⟨gb353,1,none⟩=some (.slice (some ad355) l0_1.length c0_1):=(blk_cell BK353.out 1).trans rfl;have hfz49_0:=blk_frozen BK353.out 0;have hfz49_1:=blk_frozen BK353.out 1;have p363:0≤(1:Int):=(by omega);have q363:1<(l0_1.length:Int):=of_decide_eq_true (by first|(with_reducible assumption)|assumption);obtain ⟨ad363,A363_1,c363_1,e363,hx363_0,hx363_1,hl363_1,hi363_1⟩:=at_T44 HR0_1.out 1 p363 q363;obtain rfl:ad355=ad363:=(by injection e363);(try simp only [show (1:Int).toNat=1 from rfl,Nat.reduceMul,Nat.reduceEqDiff,Go.Addr.add,↓reduceIte] at hx363_0);(try simp only [show (1:Int).toNat=1 from rfl,Nat.reduceMul,Nat.reduceEqDiff,Go.Addr.add,↓reduceIte] at hx363_1);have qi363:(1<l0_1.length)=True:=eq_true (by omega);(try rw [show ((1:Int)).toNat=1 from rfl] at hx363_0);(try rw [show 1 * 2=2 from rfl] at hx363_0);(try rw [show ((1:Int)).toNat=1 from rfl] at hx363_1);(try rw [show 1 * 2=2 from rfl] at hx363_1);replace hx363_0:=(HB.out.cell (World.block_lt_of_cell? w _ hx363_0)).trans hx363_0;replace hx363_1:=(HB.out.cell (World.block_lt_of_cell? w _ hx363_1)).trans hx363_1;have HR363_1:=Aside0.mk hi363_1;have HC363_1:=Aside0.mk hl363_1;clear hi363_1 hl363_1;replace p363:=eq_true p363;replace q363:=eq_true q363)|((with_reducible refine gate_callee (f:=36) rfl ?_);refine goesL_ (some 65) rfl rfl Try.func36 (by kernel_rfl) rfl #[.agg #[.int .u8 ((rd_T44 l0_1 1).f0),.slice A363_1 ((rd_T44 l0_1 1).f1).length c363_1]] rfl (by (try simp only [List.map_toArray,List.map_cons,List.map_nil]);first|done|rfl|(simp only [List.length_drop,List.length_take];rfl)) ?_;(with_reducible refine (ih k (by omega) ((rd_T44 l0_1 1).f0) _ _ ((rd_T44 l0_1 1).f1) t364 _ ?side1 ?side2 A44.out).mono ?_);(case side1=>repeat (first|exact (Kd.C_below HR363_1.out HB.out)|(with_reducible refine Kd.C_alloc ?_ _)|(with_reducible refine Kd.C_drewN ?_ _)|(with_reducible refine Kd.C_drew ?_)));(case side2=>exact HC363_1.out);rintro e w50 ⟨rfl,hb⟩;refine ⟨_,rfl,?_⟩;have n0_:=Aside0.mk (blk_below (g:=gb353) (o:=.cells #[.int .u8 a0_0,.slice (some ad355) l0_1.length c0_1] 44 (0,0)) (by (with_reducible repeat (first|refine yE ?_ _|refine yF ?_|refine yG ?_ _));exact BK353.out) hb);have n1_:=Aside0.mk (yP (by repeat (first|(with_reducible first|exact HB.out|apply yA|apply yB|apply yC|refine yD ?_ GE353.out)|exact HB.out)) hb);clear BK353;clear HB;have BK353:=n0_;have HB:=n1_;clear n0_ n1_;(try clear hb);(try clear hb2);(try clear hk);(try clear hi)))
     (try simp only [Act.put,yK,yL,yM])
     go_cut [66] (fun v66 wc=>∃ (kq:Nat) (x66_44:Bool),v66=.bool x66_44∧Aside0 (spec_l7Tidy.j2 kq t356 t364 x66_44 a0_0 l0_1=some r)∧Aside0 (kq≤k)∧Aside0 (wc.heap[gb353]?=some (.cells #[.int .u8 a0_0,(.slice (some ad355) l0_1.length c0_1)] 44 (0,0)))∧Aside0 (Below w.heap.size w wc))
     case first =>
      have H:=HC45.out
      clear HC45
      by_cases c51:a0_0=43
      ·rw [if_pos c51] at H
       have c51b0:(a0_0 == 43)=true:=beq_iff_eq.mpr c51
       have c51b1:(a0_0 != 43)=false:=bne_eq_false_iff_eq.mpr c51
       clear c51
       (first|rw [c51b0]|(simp only [i64_w,i32_w];rw [c51b0])|skip)
       have H':=Aside0.mk H
       clear H
       have hcz52_0:w50.cell? ⟨gb353,0,none⟩=some (.int .u8 a0_0):=(blk_cell BK353.out 0).trans rfl
       have hcz52_1:w50.cell? ⟨gb353,1,none⟩=some (.slice (some ad355) l0_1.length c0_1):=(blk_cell BK353.out 1).trans rfl
       have hfz52_0:=blk_frozen BK353.out 0
       have hfz52_1:=blk_frozen BK353.out 1
       go_wp2
       go_meet
       case rel=>exact ⟨_,((t356.toList == ([48]:List UInt8))),(by first|rfl|(simp;done)|(simp [*];done)|(simp [Int.tmod_eq_emod_of_nonneg];done)),H',⟨by first|omega|exact Nat.le_refl _⟩,⟨by (with_reducible repeat (first|refine yE ?_ _|refine yF ?_|refine yG ?_ _));exact BK353.out⟩,⟨by repeat (first|(with_reducible first|exact HB.out|apply yA|apply yB|apply yC|refine yD ?_ GE353.out)|exact HB.out)⟩⟩
      ·rw [if_neg c51] at H
       have c51b0:(a0_0 == 43)=false:=beq_eq_false_iff_ne.mpr c51
       have c51b1:(a0_0 != 43)=true:=bne_iff_ne.mpr c51
       (first|rw [c51b0]|(simp only [i64_w,i32_w];rw [c51b0])|skip)
       have H':=Aside0.mk H
       clear H
       have hcz53_0:w50.cell? ⟨gb353,0,none⟩=some (.int .u8 a0_0):=(blk_cell BK353.out 0).trans rfl
       have hcz53_1:w50.cell? ⟨gb353,1,none⟩=some (.slice (some ad355) l0_1.length c0_1):=(blk_cell BK353.out 1).trans rfl
       have hfz53_0:=blk_frozen BK353.out 0
       have hfz53_1:=blk_frozen BK353.out 1
       go_wp2
       go_meet
       case rel=>exact ⟨_,(false),(by first|rfl|(simp;done)|(simp [*];done)|(simp [Int.tmod_eq_emod_of_nonneg];done)),H',⟨by first|omega|exact Nat.le_refl _⟩,⟨by (with_reducible repeat (first|refine yE ?_ _|refine yF ?_|refine yG ?_ _));exact BK353.out⟩,⟨by repeat (first|(with_reducible first|exact HB.out|apply yA|apply yB|apply yC|refine yD ?_ GE353.out)|exact HB.out)⟩⟩
     case rest =>
      clear HC45
      try clear c1
      try clear c2
      try clear c2b0
      try clear c2b1
      try clear c2b2
      try clear p2
      try clear q2
      try clear hx2
      try clear qi2
      try clear c3
      try clear p3
      try clear q3
      try clear hx3
      try clear hcv3
      try clear qi3
      try clear c4
      try clear hcv4
      try clear c5
      try clear c7
      try clear c7b0
      try clear c7b1
      try clear c9
      try clear c9b0
      try clear c9b1
      try clear c15
      try clear c15b0
      try clear c15b1
      try clear c16
      try clear c16b0
      try clear c16b1
      try clear c20
      try clear c22
      try clear c22b0
      try clear c22b1
      try clear c23
      try clear c23b0
      try clear c23b1
      try clear p24
      try clear q24
      try clear hx24
      try clear qi24
      try clear c27
      try clear c28
      try clear c28b0
      try clear c28b1
      try clear c29
      try clear c29b0
      try clear c29b1
      try clear c29b2
      try clear hcv33
      try clear c34
      try clear c34b0
      try clear c34b1
      try clear c35
      try clear p35
      try clear q35
      try clear hx35
      try clear qi35
      try clear c36
      try clear c36b0
      try clear c36b1
      try clear p36
      try clear q36
      try clear hx36
      try clear qi36
      try clear c38
      try clear c38b0
      try clear c38b1
      try clear c38b2
      try clear hcv42
      try clear c43
      try clear c43b0
      try clear c43b1
      try clear c49
      try clear c51
      try clear c51b0
      try clear c51b1
      try clear hcz12_0
      try clear hcz12_1
      try clear hcz14_0
      try clear hcz14_1
      try clear hcz17_0
      try clear hcz17_1
      try clear hcz18_0
      try clear hcz18_1
      try clear hcz19_0
      try clear hcz19_1
      try clear hcz25_0
      try clear hcz25_1
      try clear hcz26_0
      try clear hcz26_1
      try clear hcz30_0
      try clear hcz30_1
      try clear hcz35_0
      try clear hcz35_1
      try clear hcz37_0
      try clear hcz37_1
      try clear hcz39_0
      try clear hcz39_1
      try clear hcz47_0
      try clear hcz47_1
      try clear hcz49_0
      try clear hcz49_1
      try clear hcz52_0
      try clear hcz52_1
      try clear hcz53_0
      try clear hcz53_1
      try clear hcz5_0
      try clear hcz5_1
      try clear hfz12_0
      try clear hfz12_1
      try clear hfz14_0
      try clear hfz14_1
      try clear hfz17_0
      try clear hfz17_1
      try clear hfz18_0
      try clear hfz18_1
      try clear hfz19_0
      try clear hfz19_1
      try clear hfz25_0
      try clear hfz25_1
      try clear hfz26_0
      try clear hfz26_1
      try clear hfz30_0
      try clear hfz30_1
      try clear hfz35_0
      try clear hfz35_1
      try clear hfz37_0
      try clear hfz37_1
      try clear hfz39_0
      try clear hfz39_1
      try clear hfz47_0
      try clear hfz47_1
      try clear hfz49_0
      try clear hfz49_1
      try clear hfz52_0
      try clear hfz52_1
      try clear hfz53_0
      try clear hfz53_1
      try clear hfz5_0
      try clear hfz5_1
      try clear hx355_0
      try clear hx355_1
      try clear hx363_0
      try clear hx363_1
      try clear p2
      try clear p24
      try clear p3
      try clear p355
      try clear p363
      try clear q2
      try clear q24
      try clear q3
      try clear q355
      try clear q363
      obtain ⟨kq,x66_44,rfl,HA,HJ44,BK353,HB⟩:=hcut
      cases kq with
      | zero=>exact absurd HA.out (by simp [spec_l7Tidy.j2])
      | succ kj44 =>
       have H:=HA.out
       clear HA
       simp only [spec_l7Tidy.j2] at H
       by_cases c54:x66_44=true
       ·subst c54
        have H1:(some t364)=some r:=by rw [if_pos rfl] at H;exact H
        clear H
        have H:=H1
        clear H1
        obtain rfl:=Option.some.inj H
        go_wp2
        go_ret
        exact ⟨by first|rfl|(simp [errW_none,errW_some]<;>rfl)|(simp [*,errW_none,errW_some]<;>rfl)|(simp [errW_none,errW_some];exact ⟨rfl,rfl⟩),by repeat (first|(with_reducible first|exact HB.out|apply yA|apply yB|apply yC|refine yD ?_ GE353.out)|exact HB.out)⟩
       ·replace c54:=Bool.eq_false_iff.mpr c54
        subst c54
        have H1:(if a0_0=43 then (spec_l7Tidy.j3 kj44 t356 t364 (t364.toList == ([48]:List UInt8)) a0_0 l0_1) else (spec_l7Tidy.j3 kj44 t356 t364 false a0_0 l0_1))=some r:=by rw [if_neg (show ¬ (false=true) by decide)] at H;exact H
        clear H
        have H:=H1
        clear H1
        have HC55:=Aside0.mk H
        clear H
        go_upto_region 15 with (fail)
        go_cut [75] (fun v75 wc=>∃ (kq:Nat) (x75_54:Bool),v75=.bool x75_54∧Aside0 (spec_l7Tidy.j3 kq t356 t364 x75_54 a0_0 l0_1=some r)∧Aside0 (kq≤kj44)∧Aside0 (wc.heap[gb353]?=some (.cells #[.int .u8 a0_0,(.slice (some ad355) l0_1.length c0_1)] 44 (0,0)))∧Aside0 (Below w.heap.size w wc))
        case first =>
         have H:=HC55.out
         clear HC55
         by_cases c56:a0_0=43
         ·rw [if_pos c56] at H
          have c56b0:(a0_0 == 43)=true:=beq_iff_eq.mpr c56
          have c56b1:(a0_0 != 43)=false:=bne_eq_false_iff_eq.mpr c56
          clear c56
          (first|rw [c56b0]|(simp only [i64_w,i32_w];rw [c56b0])|skip)
          have H':=Aside0.mk H
          clear H
          have hcz57_0:wc.cell? ⟨gb353,0,none⟩=some (.int .u8 a0_0):=(blk_cell BK353.out 0).trans rfl
          have hcz57_1:wc.cell? ⟨gb353,1,none⟩=some (.slice (some ad355) l0_1.length c0_1):=(blk_cell BK353.out 1).trans rfl
          have hfz57_0:=blk_frozen BK353.out 0
          have hfz57_1:=blk_frozen BK353.out 1
          go_wp2
          go_meet
          case rel=>exact ⟨_,((t364.toList == ([48]:List UInt8))),(by first|rfl|(simp;done)|(simp [*];done)|(simp [Int.tmod_eq_emod_of_nonneg];done)),H',⟨by have:=HJ44.out;first|omega|exact Nat.le_refl _⟩,⟨by (with_reducible repeat (first|refine yE ?_ _|refine yF ?_|refine yG ?_ _));exact BK353.out⟩,⟨by repeat (first|(with_reducible first|exact HB.out|apply yA|apply yB|apply yC|refine yD ?_ GE353.out)|exact HB.out)⟩⟩
         ·rw [if_neg c56] at H
          have c56b0:(a0_0 == 43)=false:=beq_eq_false_iff_ne.mpr c56
          have c56b1:(a0_0 != 43)=true:=bne_iff_ne.mpr c56
          (first|rw [c56b0]|(simp only [i64_w,i32_w];rw [c56b0])|skip)
          have H':=Aside0.mk H
          clear H
          have hcz58_0:wc.cell? ⟨gb353,0,none⟩=some (.int .u8 a0_0):=(blk_cell BK353.out 0).trans rfl
          have hcz58_1:wc.cell? ⟨gb353,1,none⟩=some (.slice (some ad355) l0_1.length c0_1):=(blk_cell BK353.out 1).trans rfl
          have hfz58_0:=blk_frozen BK353.out 0
          have hfz58_1:=blk_frozen BK353.out 1
          go_wp2
          go_meet
          case rel=>exact ⟨_,(false),(by first|rfl|(simp;done)|(simp [*];done)|(simp [Int.tmod_eq_emod_of_nonneg];done)),H',⟨by have:=HJ44.out;first|omega|exact Nat.le_refl _⟩,⟨by (with_reducible repeat (first|refine yE ?_ _|refine yF ?_|refine yG ?_ _));exact BK353.out⟩,⟨by repeat (first|(with_reducible first|exact HB.out|apply yA|apply yB|apply yC|refine yD ?_ GE353.out)|exact HB.out)⟩⟩
        case rest =>
         clear HC55
         try clear c1
         try clear c2
         try clear c2b0
         try clear c2b1
         try clear c2b2
         try clear p2
         try clear q2
         try clear hx2
         try clear qi2
         try clear c3
         try clear p3
         try clear q3
         try clear hx3
         try clear hcv3
         try clear qi3
         try clear c4
         try clear hcv4
         try clear c5
         try clear c7
         try clear c7b0
         try clear c7b1
         try clear c9
         try clear c9b0
         try clear c9b1
         try clear c15
         try clear c15b0
         try clear c15b1
         try clear c16
         try clear c16b0
         try clear c16b1
         try clear c20
         try clear c22
         try clear c22b0
         try clear c22b1
         try clear c23
         try clear c23b0
         try clear c23b1
         try clear p24
         try clear q24
         try clear hx24
         try clear qi24
         try clear c27
         try clear c28
         try clear c28b0
         try clear c28b1
         try clear c29
         try clear c29b0
         try clear c29b1
         try clear c29b2
         try clear hcv33
         try clear c34
         try clear c34b0
         try clear c34b1
         try clear c35
         try clear p35
         try clear q35
         try clear hx35
         try clear qi35
         try clear c36
         try clear c36b0
         try clear c36b1
         try clear p36
         try clear q36
         try clear hx36
         try clear qi36
         try clear c38
         try clear c38b0
         try clear c38b1
         try clear c38b2
         try clear hcv42
         try clear c43
         try clear c43b0
         try clear c43b1
         try clear c49
         try clear c51
         try clear c51b0
         try clear c51b1
         try clear c54
         try clear c56
         try clear c56b0
         try clear c56b1
         try clear hcz12_0
         try clear hcz12_1
         try clear hcz14_0
         try clear hcz14_1
         try clear hcz17_0
         try clear hcz17_1
         try clear hcz18_0
         try clear hcz18_1
         try clear hcz19_0
         try clear hcz19_1
         try clear hcz25_0
         try clear hcz25_1
         try clear hcz26_0
         try clear hcz26_1
         try clear hcz30_0
         try clear hcz30_1
         try clear hcz35_0
         try clear hcz35_1
         try clear hcz37_0
         try clear hcz37_1
         try clear hcz39_0
         try clear hcz39_1
         try clear hcz47_0
         try clear hcz47_1
         try clear hcz49_0
         try clear hcz49_1
         try clear hcz52_0
         try clear hcz52_1
         try clear hcz53_0
         try clear hcz53_1
         try clear hcz57_0
         try clear hcz57_1
         try clear hcz58_0
         try clear hcz58_1
         try clear hcz5_0
         try clear hcz5_1
         try clear hfz12_0
         try clear hfz12_1
         try clear hfz14_0
         try clear hfz14_1
         try clear hfz17_0
         try clear hfz17_1
         try clear hfz18_0
         try clear hfz18_1
         try clear hfz19_0
         try clear hfz19_1
         try clear hfz25_0
         try clear hfz25_1
         try clear hfz26_0
         try clear hfz26_1
         try clear hfz30_0
         try clear hfz30_1
         try clear hfz35_0
         try clear hfz35_1
         try clear hfz37_0
         try clear hfz37_1
         try clear hfz39_0
         try clear hfz39_1
         try clear hfz47_0
         try clear hfz47_1
         try clear hfz49_0
         try clear hfz49_1
         try clear hfz52_0
         try clear hfz52_1
         try clear hfz53_0
         try clear hfz53_1
         try clear hfz57_0
         try clear hfz57_1
         try clear hfz58_0
         try clear hfz58_1
         try clear hfz5_0
         try clear hfz5_1
         try clear hx355_0
         try clear hx355_1
         try clear hx363_0
         try clear hx363_1
         try clear p2
         try clear p24
         try clear p3
         try clear p35
         try clear p355
         try clear p36
         try clear p363
         try clear q2
         try clear q24
         try clear q3
         try clear q35
         try clear q355
         try clear q36
         try clear q363
         obtain ⟨kq,x75_54,rfl,HA,HJ54,BK353,HB⟩:=hcut
         cases kq with
         | zero=>exact absurd HA.out (by simp [spec_l7Tidy.j3])
         | succ kj54 =>
          have H:=HA.out
          clear HA
          simp only [spec_l7Tidy.j3] at H
          by_cases c59:x75_54=true
          ·subst c59
           have H1:(some t356)=some r:=by rw [if_pos rfl] at H;exact H
           clear H
           have H:=H1
           clear H1
           obtain rfl:=Option.some.inj H
           go_wp2
           go_ret
           exact ⟨by first|rfl|(simp [errW_none,errW_some]<;>rfl)|(simp [*,errW_none,errW_some]<;>rfl)|(simp [errW_none,errW_some];exact ⟨rfl,rfl⟩),by repeat (first|(with_reducible first|exact HB.out|apply yA|apply yB|apply yC|refine yD ?_ GE353.out)|exact HB.out)⟩
          ·replace c59:=Bool.eq_false_iff.mpr c59
           subst c59
           have H1:(if a0_0=43 then (spec_l7Tidy.j4 kj54 t356 t364 false a0_0 l0_1) else (if t356.toList=([48]:List UInt8) then (spec_l7Tidy.j4 kj54 t356 t364 true a0_0 l0_1) else (spec_l7Tidy.j4 kj54 t356 t364 (t364.toList == ([48]:List UInt8)) a0_0 l0_1)))=some r:=by rw [if_neg (show ¬ (false=true) by decide)] at H;exact H
           clear H
           have H:=H1
           clear H1
           have HC60:=Aside0.mk H
           clear H
           go_upto_region 17 with (fail)
           go_cut [84] (fun v84 wc=>∃ (kq:Nat) (x84_59:Bool),v84=.bool x84_59∧Aside0 (spec_l7Tidy.j4 kq t356 t364 x84_59 a0_0 l0_1=some r)∧Aside0 (kq≤kj54)∧Aside0 (wc.heap[gb353]?=some (.cells #[.int .u8 a0_0,(.slice (some ad355) l0_1.length c0_1)] 44 (0,0)))∧Aside0 (Below w.heap.size w wc))
           case first =>
            have H:=HC60.out
            clear HC60
            by_cases c61:a0_0=43
            ·rw [if_pos c61] at H
             have c61b0:(a0_0 == 43)=true:=beq_iff_eq.mpr c61
             have c61b1:(a0_0 != 43)=false:=bne_eq_false_iff_eq.mpr c61
             clear c61
             (first|rw [c61b0]|(simp only [i64_w,i32_w];rw [c61b0])|skip)
             have H':=Aside0.mk H
             clear H
             have hcz62_0:wc.cell? ⟨gb353,0,none⟩=some (.int .u8 a0_0):=(blk_cell BK353.out 0).trans rfl
             have hcz62_1:wc.cell? ⟨gb353,1,none⟩=some (.slice (some ad355) l0_1.length c0_1):=(blk_cell BK353.out 1).trans rfl
             have hfz62_0:=blk_frozen BK353.out 0
             have hfz62_1:=blk_frozen BK353.out 1
             go_wp2
             go_meet
             case rel=>exact ⟨_,(false),(by first|rfl|(simp;done)|(simp [*];done)|(simp [Int.tmod_eq_emod_of_nonneg];done)),H',⟨by have:=HJ44.out;have:=HJ54.out;first|omega|exact Nat.le_refl _⟩,⟨by (with_reducible repeat (first|refine yE ?_ _|refine yF ?_|refine yG ?_ _));exact BK353.out⟩,⟨by repeat (first|(with_reducible first|exact HB.out|apply yA|apply yB|apply yC|refine yD ?_ GE353.out)|exact HB.out)⟩⟩
            ·rw [if_neg c61] at H
             have c61b0:(a0_0 == 43)=false:=beq_eq_false_iff_ne.mpr c61
             have c61b1:(a0_0 != 43)=true:=bne_iff_ne.mpr c61
             (first|rw [c61b0]|(simp only [i64_w,i32_w];rw [c61b0])|skip)
             by_cases c63:t356.toList=([48]:List UInt8)
             ·rw [if_pos c63] at H
              have c63b0:(t356.toList == ([48]:List UInt8))=true:=beq_iff_eq.mpr c63
              have c63b1:(t356.toList != ([48]:List UInt8))=false:=bne_eq_false_iff_eq.mpr c63
              clear c63
              have H':=Aside0.mk H
              clear H
              have hcz64_0:wc.cell? ⟨gb353,0,none⟩=some (.int .u8 a0_0):=(blk_cell BK353.out 0).trans rfl
              have hcz64_1:wc.cell? ⟨gb353,1,none⟩=some (.slice (some ad355) l0_1.length c0_1):=(blk_cell BK353.out 1).trans rfl
              have hfz64_0:=blk_frozen BK353.out 0
              have hfz64_1:=blk_frozen BK353.out 1
              go_wp2
              go_meet
              case rel=>exact ⟨_,(true),(by first|rfl|(simp;done)|(simp [*];done)|(simp [Int.tmod_eq_emod_of_nonneg];done)),H',⟨by have:=HJ44.out;have:=HJ54.out;first|omega|exact Nat.le_refl _⟩,⟨by (with_reducible repeat (first|refine yE ?_ _|refine yF ?_|refine yG ?_ _));exact BK353.out⟩,⟨by repeat (first|(with_reducible first|exact HB.out|apply yA|apply yB|apply yC|refine yD ?_ GE353.out)|exact HB.out)⟩⟩
             ·rw [if_neg c63] at H
              have c63b0:(t356.toList == ([48]:List UInt8))=false:=beq_eq_false_iff_ne.mpr c63
              have c63b1:(t356.toList != ([48]:List UInt8))=true:=bne_iff_ne.mpr c63
              have H':=Aside0.mk H
              clear H
              have hcz65_0:wc.cell? ⟨gb353,0,none⟩=some (.int .u8 a0_0):=(blk_cell BK353.out 0).trans rfl
              have hcz65_1:wc.cell? ⟨gb353,1,none⟩=some (.slice (some ad355) l0_1.length c0_1):=(blk_cell BK353.out 1).trans rfl
              have hfz65_0:=blk_frozen BK353.out 0
              have hfz65_1:=blk_frozen BK353.out 1
              go_wp2
              go_meet
              case rel=>exact ⟨_,((t364.toList == ([48]:List UInt8))),(by first|rfl|(simp;done)|(simp [*];done)|(simp [Int.tmod_eq_emod_of_nonneg];done)),H',⟨by have:=HJ44.out;have:=HJ54.out;first|omega|exact Nat.le_refl _⟩,⟨by (with_reducible repeat (first|refine yE ?_ _|refine yF ?_|refine yG ?_ _));exact BK353.out⟩,⟨by repeat (first|(with_reducible first|exact HB.out|apply yA|apply yB|apply yC|refine yD ?_ GE353.out)|exact HB.out)⟩⟩
           case rest =>
            clear HC60
            try clear c1
            try clear c2
            try clear c2b0
            try clear c2b1
            try clear c2b2
            try clear p2
            try clear q2
            try clear hx2
            try clear qi2
            try clear c3
            try clear p3
            try clear q3
            try clear hx3
            try clear hcv3
            try clear qi3
            try clear c4
            try clear hcv4
            try clear c5
            try clear c6
            try clear c7
            try clear c7b0
            try clear c7b1
            try clear c9
            try clear c9b0
            try clear c9b1
            try clear c15
            try clear c15b0
            try clear c15b1
            try clear c16
            try clear c16b0
            try clear c16b1
            try clear c20
            try clear c22
            try clear c22b0
            try clear c22b1
            try clear c23
            try clear c23b0
            try clear c23b1
            try clear p24
            try clear q24
            try clear hx24
            try clear qi24
            try clear c27
            try clear c28
            try clear c28b0
            try clear c28b1
            try clear c29
            try clear c29b0
            try clear c29b1
            try clear c29b2
            try clear hcv33
            try clear c34
            try clear c34b0
            try clear c34b1
            try clear c35
            try clear p35
            try clear q35
            try clear hx35
            try clear qi35
            try clear c36
            try clear c36b0
            try clear c36b1
            try clear p36
            try clear q36
            try clear hx36
            try clear qi36
            try clear c38
            try clear c38b0
            try clear c38b1
            try clear c38b2
            try clear hcv42
            try clear c43
            try clear c43b0
            try clear c43b1
            try clear c49
            try clear c51
            try clear c51b0
            try clear c51b1
            try clear c54
            try clear c56
            try clear c56b0
            try clear c56b1
            try clear c59
            try clear c61
            try clear c61b0
            try clear c61b1
            try clear c63
            try clear c63b0
            try clear c63b1
            try clear hcz12_0
            try clear hcz12_1
            try clear hcz14_0
            try clear hcz14_1
            try clear hcz17_0
            try clear hcz17_1
            try clear hcz18_0
            try clear hcz18_1
            try clear hcz19_0
            try clear hcz19_1
            try clear hcz25_0
            try clear hcz25_1
            try clear hcz26_0
            try clear hcz26_1
            try clear hcz30_0
            try clear hcz30_1
            try clear hcz35_0
            try clear hcz35_1
            try clear hcz37_0
            try clear hcz37_1
            try clear hcz39_0
            try clear hcz39_1
            try clear hcz47_0
            try clear hcz47_1
            try clear hcz49_0
            try clear hcz49_1
            try clear hcz52_0
            try clear hcz52_1
            try clear hcz53_0
            try clear hcz53_1
            try clear hcz57_0
            try clear hcz57_1
            try clear hcz58_0
            try clear hcz58_1
            try clear hcz5_0
            try clear hcz5_1
            try clear hcz62_0
            try clear hcz62_1
            try clear hcz64_0
            try clear hcz64_1
            try clear hcz65_0
            try clear hcz65_1
            try clear hfz12_0
            try clear hfz12_1
            try clear hfz14_0
            try clear hfz14_1
            try clear hfz17_0
            try clear hfz17_1
            try clear hfz18_0
            try clear hfz18_1
            try clear hfz19_0
            try clear hfz19_1
            try clear hfz25_0
            try clear hfz25_1
            try clear hfz26_0
            try clear hfz26_1
            try clear hfz30_0
            try clear hfz30_1
            try clear hfz35_0
            try clear hfz35_1
            try clear hfz37_0
            try clear hfz37_1
            try clear hfz39_0
            try clear hfz39_1
            try clear hfz47_0
            try clear hfz47_1
            try clear hfz49_0
            try clear hfz49_1
            try clear hfz52_0
            try clear hfz52_1
            try clear hfz53_0
            try clear hfz53_1
            try clear hfz57_0
            try clear hfz57_1
            try clear hfz58_0
            try clear hfz58_1
            try clear hfz5_0
            try clear hfz5_1
            try clear hfz62_0
            try clear hfz62_1
            try clear hfz64_0
            try clear hfz64_1
            try clear hfz65_0
            try clear hfz65_1
            try clear hx355_0
            try clear hx355_1
            try clear hx363_0
            try clear hx363_1
            try clear p2
            try clear p24
            try clear p3
            try clear p35
            try clear p355
            try clear p36
            try clear p363
            try clear q2
            try clear q24
            try clear q3
            try clear q35
            try clear q355
            try clear q36
            try clear q363
            obtain ⟨kq,x84_59,rfl,HA,HJ59,BK353,HB⟩:=hcut
            cases kq with
            | zero=>exact absurd HA.out (by simp [spec_l7Tidy.j4])
            | succ kj59 =>
             have H:=HA.out
             clear HA
             simp only [spec_l7Tidy.j4] at H
             by_cases c66:x84_59=true
             ·subst c66
              have H1:(some (⟨#[48]⟩:ByteArray))=some r:=by rw [if_pos rfl] at H;exact H
              clear H
              have H:=H1
              clear H1
              obtain rfl:=Option.some.inj H
              go_wp2
              go_ret
              exact ⟨by first|rfl|(simp [errW_none,errW_some]<;>rfl)|(simp [*,errW_none,errW_some]<;>rfl)|(simp [errW_none,errW_some];exact ⟨rfl,rfl⟩),by repeat (first|(with_reducible first|exact HB.out|apply yA|apply yB|apply yC|refine yD ?_ GE353.out)|exact HB.out)⟩
             ·replace c66:=Bool.eq_false_iff.mpr c66
              subst c66
              have H1:(if a0_0=46 then (spec_l7Tidy.j5 kj59 t356 t364 (t356.toList == ([49]:List UInt8)) a0_0 l0_1) else (spec_l7Tidy.j5 kj59 t356 t364 false a0_0 l0_1))=some r:=by rw [if_neg (show ¬ (false=true) by decide)] at H;exact H
              clear H
              have H:=H1
              clear H1
              have HC67:=Aside0.mk H
              clear H
              go_upto_region 19 with (fail)
              go_cut [96] (fun v96 wc=>∃ (kq:Nat) (x96_66:Bool),v96=.bool x96_66∧Aside0 (spec_l7Tidy.j5 kq t356 t364 x96_66 a0_0 l0_1=some r)∧Aside0 (kq≤kj59)∧Aside0 (wc.heap[gb353]?=some (.cells #[.int .u8 a0_0,(.slice (some ad355) l0_1.length c0_1)] 44 (0,0)))∧Aside0 (Below w.heap.size w wc))
              case first =>
               have H:=HC67.out
               clear HC67
               by_cases c68:a0_0=46
               ·rw [if_pos c68] at H
                have c68b0:(a0_0 == 46)=true:=beq_iff_eq.mpr c68
                have c68b1:(a0_0 != 46)=false:=bne_eq_false_iff_eq.mpr c68
                clear c68
                (first|rw [c68b0]|(simp only [i64_w,i32_w];rw [c68b0])|skip)
                have H':=Aside0.mk H
                clear H
                have hcz69_0:wc.cell? ⟨gb353,0,none⟩=some (.int .u8 a0_0):=(blk_cell BK353.out 0).trans rfl
                have hcz69_1:wc.cell? ⟨gb353,1,none⟩=some (.slice (some ad355) l0_1.length c0_1):=(blk_cell BK353.out 1).trans rfl
                have hfz69_0:=blk_frozen BK353.out 0
                have hfz69_1:=blk_frozen BK353.out 1
                go_wp2
                go_meet
                case rel=>exact ⟨_,((t356.toList == ([49]:List UInt8))),(by first|rfl|(simp;done)|(simp [*];done)|(simp [Int.tmod_eq_emod_of_nonneg];done)),H',⟨by have:=HJ44.out;have:=HJ54.out;have:=HJ59.out;first|omega|exact Nat.le_refl _⟩,⟨by (with_reducible repeat (first|refine yE ?_ _|refine yF ?_|refine yG ?_ _));exact BK353.out⟩,⟨by repeat (first|(with_reducible first|exact HB.out|apply yA|apply yB|apply yC|refine yD ?_ GE353.out)|exact HB.out)⟩⟩
               ·rw [if_neg c68] at H
                have c68b0:(a0_0 == 46)=false:=beq_eq_false_iff_ne.mpr c68
                have c68b1:(a0_0 != 46)=true:=bne_iff_ne.mpr c68
                (first|rw [c68b0]|(simp only [i64_w,i32_w];rw [c68b0])|skip)
                have H':=Aside0.mk H
                clear H
                have hcz70_0:wc.cell? ⟨gb353,0,none⟩=some (.int .u8 a0_0):=(blk_cell BK353.out 0).trans rfl
                have hcz70_1:wc.cell? ⟨gb353,1,none⟩=some (.slice (some ad355) l0_1.length c0_1):=(blk_cell BK353.out 1).trans rfl
                have hfz70_0:=blk_frozen BK353.out 0
                have hfz70_1:=blk_frozen BK353.out 1
                go_wp2
                go_meet
                case rel=>exact ⟨_,(false),(by first|rfl|(simp;done)|(simp [*];done)|(simp [Int.tmod_eq_emod_of_nonneg];done)),H',⟨by have:=HJ44.out;have:=HJ54.out;have:=HJ59.out;first|omega|exact Nat.le_refl _⟩,⟨by (with_reducible repeat (first|refine yE ?_ _|refine yF ?_|refine yG ?_ _));exact BK353.out⟩,⟨by repeat (first|(with_reducible first|exact HB.out|apply yA|apply yB|apply yC|refine yD ?_ GE353.out)|exact HB.out)⟩⟩
              case rest =>
               clear HC67
               try clear c1
               try clear c2
               try clear c2b0
               try clear c2b1
               try clear c2b2
               try clear p2
               try clear q2
               try clear hx2
               try clear qi2
               try clear c3
               try clear p3
               try clear q3
               try clear hx3
               try clear hcv3
               try clear qi3
               try clear c4
               try clear hcv4
               try clear c5
               try clear c6
               try clear c7
               try clear c7b0
               try clear c7b1
               try clear c9
               try clear c9b0
               try clear c9b1
               try clear c15
               try clear c15b0
               try clear c15b1
               try clear c16
               try clear c16b0
               try clear c16b1
               try clear c20
               try clear c22
               try clear c22b0
               try clear c22b1
               try clear c23
               try clear c23b0
               try clear c23b1
               try clear p24
               try clear q24
               try clear hx24
               try clear qi24
               try clear c27
               try clear c28
               try clear c28b0
               try clear c28b1
               try clear c29
               try clear c29b0
               try clear c29b1
               try clear c29b2
               try clear hcv33
               try clear c34
               try clear c34b0
               try clear c34b1
               try clear c35
               try clear p35
               try clear q35
               try clear hx35
               try clear qi35
               try clear c36
               try clear c36b0
               try clear c36b1
               try clear p36
               try clear q36
               try clear hx36
               try clear qi36
               try clear c38
               try clear c38b0
               try clear c38b1
               try clear c38b2
               try clear hcv42
               try clear c43
               try clear c43b0
               try clear c43b1
               try clear c49
               try clear c51
               try clear c51b0
               try clear c51b1
               try clear c54
               try clear c56
               try clear c56b0
               try clear c56b1
               try clear c59
               try clear c61
               try clear c61b0
               try clear c61b1
               try clear c63
               try clear c63b0
               try clear c63b1
               try clear c66
               try clear c68
               try clear c68b0
               try clear c68b1
               try clear hcz12_0
               try clear hcz12_1
               try clear hcz14_0
               try clear hcz14_1
               try clear hcz17_0
               try clear hcz17_1
               try clear hcz18_0
               try clear hcz18_1
               try clear hcz19_0
               try clear hcz19_1
               try clear hcz25_0
               try clear hcz25_1
               try clear hcz26_0
               try clear hcz26_1
               try clear hcz30_0
               try clear hcz30_1
               try clear hcz35_0
               try clear hcz35_1
               try clear hcz37_0
               try clear hcz37_1
               try clear hcz39_0
               try clear hcz39_1
               try clear hcz47_0
               try clear hcz47_1
               try clear hcz49_0
               try clear hcz49_1
               try clear hcz52_0
               try clear hcz52_1
               try clear hcz53_0
               try clear hcz53_1
               try clear hcz57_0
               try clear hcz57_1
               try clear hcz58_0
               try clear hcz58_1
               try clear hcz5_0
               try clear hcz5_1
               try clear hcz62_0
               try clear hcz62_1
               try clear hcz64_0
               try clear hcz64_1
               try clear hcz65_0
               try clear hcz65_1
               try clear hcz69_0
               try clear hcz69_1
               try clear hcz70_0
               try clear hcz70_1
               try clear hfz12_0
               try clear hfz12_1
               try clear hfz14_0
               try clear hfz14_1
               try clear hfz17_0
               try clear hfz17_1
               try clear hfz18_0
               try clear hfz18_1
               try clear hfz19_0
               try clear hfz19_1
               try clear hfz25_0
               try clear hfz25_1
               try clear hfz26_0
               try clear hfz26_1
               try clear hfz30_0
               try clear hfz30_1
               try clear hfz35_0
               try clear hfz35_1
               try clear hfz37_0
               try clear hfz37_1
               try clear hfz39_0
               try clear hfz39_1
               try clear hfz47_0
               try clear hfz47_1
               try clear hfz49_0
               try clear hfz49_1
               try clear hfz52_0
               try clear hfz52_1
               try clear hfz53_0
               try clear hfz53_1
               try clear hfz57_0
               try clear hfz57_1
               try clear hfz58_0
               try clear hfz58_1
               try clear hfz5_0
               try clear hfz5_1
               try clear hfz62_0
               try clear hfz62_1
               try clear hfz64_0
               try clear hfz64_1
               try clear hfz65_0
               try clear hfz65_1
               try clear hfz69_0
               try clear hfz69_1
               try clear hfz70_0
               try clear hfz70_1
               try clear hx355_0
               try clear hx355_1
               try clear hx363_0
               try clear hx363_1
               try clear p2
               try clear p24
               try clear p3
               try clear p35
               try clear p355
               try clear p36
               try clear p363
               try clear q2
               try clear q24
               try clear q3
               try clear q35
               try clear q355
               try clear q36
               try clear q363
               obtain ⟨kq,x96_66,rfl,HA,HJ66,BK353,HB⟩:=hcut
               cases kq with
               | zero=>exact absurd HA.out (by simp [spec_l7Tidy.j5])
               | succ kj66 =>
                have H:=HA.out
                clear HA
                simp only [spec_l7Tidy.j5] at H
                by_cases c71:x96_66=true
                ·subst c71
                 have H1:(some t364)=some r:=by rw [if_pos rfl] at H;exact H
                 clear H
                 have H:=H1
                 clear H1
                 obtain rfl:=Option.some.inj H
                 go_wp2
                 go_ret
                 exact ⟨by first|rfl|(simp [errW_none,errW_some]<;>rfl)|(simp [*,errW_none,errW_some]<;>rfl)|(simp [errW_none,errW_some];exact ⟨rfl,rfl⟩),by repeat (first|(with_reducible first|exact HB.out|apply yA|apply yB|apply yC|refine yD ?_ GE353.out)|exact HB.out)⟩
                ·replace c71:=Bool.eq_false_iff.mpr c71
                 subst c71
                 have H1:(if a0_0=46 then (spec_l7Tidy.j6 kj66 t356 t364 (t364.toList == ([49]:List UInt8)) a0_0 l0_1) else (spec_l7Tidy.j6 kj66 t356 t364 false a0_0 l0_1))=some r:=by rw [if_neg (show ¬ (false=true) by decide)] at H;exact H
                 clear H
                 have H:=H1
                 clear H1
                 have HC72:=Aside0.mk H
                 clear H
                 go_upto_region 21 with (fail)
                 go_cut [105] (fun v105 wc=>∃ (kq:Nat) (x105_71:Bool),v105=.bool x105_71∧Aside0 (spec_l7Tidy.j6 kq t356 t364 x105_71 a0_0 l0_1=some r)∧Aside0 (kq≤kj66)∧Aside0 (wc.heap[gb353]?=some (.cells #[.int .u8 a0_0,(.slice (some ad355) l0_1.length c0_1)] 44 (0,0)))∧Aside0 (Below w.heap.size w wc))
                 case first =>
                  have H:=HC72.out
                  clear HC72
                  by_cases c73:a0_0=46
                  ·rw [if_pos c73] at H
                   have c73b0:(a0_0 == 46)=true:=beq_iff_eq.mpr c73
                   have c73b1:(a0_0 != 46)=false:=bne_eq_false_iff_eq.mpr c73
                   clear c73
                   (first|rw [c73b0]|(simp only [i64_w,i32_w];rw [c73b0])|skip)
                   have H':=Aside0.mk H
                   clear H
                   have hcz74_0:wc.cell? ⟨gb353,0,none⟩=some (.int .u8 a0_0):=(blk_cell BK353.out 0).trans rfl
                   have hcz74_1:wc.cell? ⟨gb353,1,none⟩=some (.slice (some ad355) l0_1.length c0_1):=(blk_cell BK353.out 1).trans rfl
                   have hfz74_0:=blk_frozen BK353.out 0
                   have hfz74_1:=blk_frozen BK353.out 1
                   go_wp2
                   go_meet
                   case rel=>exact ⟨_,((t364.toList == ([49]:List UInt8))),(by first|rfl|(simp;done)|(simp [*];done)|(simp [Int.tmod_eq_emod_of_nonneg];done)),H',⟨by have:=HJ44.out;have:=HJ54.out;have:=HJ59.out;have:=HJ66.out;first|omega|exact Nat.le_refl _⟩,⟨by (with_reducible repeat (first|refine yE ?_ _|refine yF ?_|refine yG ?_ _));exact BK353.out⟩,⟨by repeat (first|(with_reducible first|exact HB.out|apply yA|apply yB|apply yC|refine yD ?_ GE353.out)|exact HB.out)⟩⟩
                  ·rw [if_neg c73] at H
                   have c73b0:(a0_0 == 46)=false:=beq_eq_false_iff_ne.mpr c73
                   have c73b1:(a0_0 != 46)=true:=bne_iff_ne.mpr c73
                   (first|rw [c73b0]|(simp only [i64_w,i32_w];rw [c73b0])|skip)
                   have H':=Aside0.mk H
                   clear H
                   have hcz75_0:wc.cell? ⟨gb353,0,none⟩=some (.int .u8 a0_0):=(blk_cell BK353.out 0).trans rfl
                   have hcz75_1:wc.cell? ⟨gb353,1,none⟩=some (.slice (some ad355) l0_1.length c0_1):=(blk_cell BK353.out 1).trans rfl
                   have hfz75_0:=blk_frozen BK353.out 0
                   have hfz75_1:=blk_frozen BK353.out 1
                   go_wp2
                   go_meet
                   case rel=>exact ⟨_,(false),(by first|rfl|(simp;done)|(simp [*];done)|(simp [Int.tmod_eq_emod_of_nonneg];done)),H',⟨by have:=HJ44.out;have:=HJ54.out;have:=HJ59.out;have:=HJ66.out;first|omega|exact Nat.le_refl _⟩,⟨by (with_reducible repeat (first|refine yE ?_ _|refine yF ?_|refine yG ?_ _));exact BK353.out⟩,⟨by repeat (first|(with_reducible first|exact HB.out|apply yA|apply yB|apply yC|refine yD ?_ GE353.out)|exact HB.out)⟩⟩
                 case rest =>
                  clear HC72
                  try clear c1
                  try clear c2
                  try clear c2b0
                  try clear c2b1
                  try clear c2b2
                  try clear p2
                  try clear q2
                  try clear hx2
                  try clear qi2
                  try clear c3
                  try clear p3
                  try clear q3
                  try clear hx3
                  try clear hcv3
                  try clear qi3
                  try clear c4
                  try clear hcv4
                  try clear c5
                  try clear c6
                  try clear c7
                  try clear c7b0
                  try clear c7b1
                  try clear c9
                  try clear c9b0
                  try clear c9b1
                  try clear c15
                  try clear c15b0
                  try clear c15b1
                  try clear c16
                  try clear c16b0
                  try clear c16b1
                  try clear c20
                  try clear c22
                  try clear c22b0
                  try clear c22b1
                  try clear c23
                  try clear c23b0
                  try clear c23b1
                  try clear p24
                  try clear q24
                  try clear hx24
                  try clear qi24
                  try clear c27
                  try clear c28
                  try clear c28b0
                  try clear c28b1
                  try clear c29
                  try clear c29b0
                  try clear c29b1
                  try clear c29b2
                  try clear hcv33
                  try clear c34
                  try clear c34b0
                  try clear c34b1
                  try clear c35
                  try clear p35
                  try clear q35
                  try clear hx35
                  try clear qi35
                  try clear c36
                  try clear c36b0
                  try clear c36b1
                  try clear p36
                  try clear q36
                  try clear hx36
                  try clear qi36
                  try clear c38
                  try clear c38b0
                  try clear c38b1
                  try clear c38b2
                  try clear hcv42
                  try clear c43
                  try clear c43b0
                  try clear c43b1
                  try clear c49
                  try clear c51
                  try clear c51b0
                  try clear c51b1
                  try clear c54
                  try clear c56
                  try clear c56b0
                  try clear c56b1
                  try clear c59
                  try clear c61
                  try clear c61b0
                  try clear c61b1
                  try clear c63
                  try clear c63b0
                  try clear c63b1
                  try clear c66
                  try clear c68
                  try clear c68b0
                  try clear c68b1
                  try clear c71
                  try clear c73
                  try clear c73b0
                  try clear c73b1
                  try clear hcz12_0
                  try clear hcz12_1
                  try clear hcz14_0
                  try clear hcz14_1
                  try clear hcz17_0
                  try clear hcz17_1
                  try clear hcz18_0
                  try clear hcz18_1
                  try clear hcz19_0
                  try clear hcz19_1
                  try clear hcz25_0
                  try clear hcz25_1
                  try clear hcz26_0
                  try clear hcz26_1
                  try clear hcz30_0
                  try clear hcz30_1
                  try clear hcz35_0
                  try clear hcz35_1
                  try clear hcz37_0
                  try clear hcz37_1
                  try clear hcz39_0
                  try clear hcz39_1
                  try clear hcz47_0
                  try clear hcz47_1
                  try clear hcz49_0
                  try clear hcz49_1
                  try clear hcz52_0
                  try clear hcz52_1
                  try clear hcz53_0
                  try clear hcz53_1
                  try clear hcz57_0
                  try clear hcz57_1
                  try clear hcz58_0
                  try clear hcz58_1
                  try clear hcz5_0
                  try clear hcz5_1
                  try clear hcz62_0
                  try clear hcz62_1
                  try clear hcz64_0
                  try clear hcz64_1
                  try clear hcz65_0
                  try clear hcz65_1
                  try clear hcz69_0
                  try clear hcz69_1
                  try clear hcz70_0
                  try clear hcz70_1
                  try clear hcz74_0
                  try clear hcz74_1
                  try clear hcz75_0
                  try clear hcz75_1
                  try clear hfz12_0
                  try clear hfz12_1
                  try clear hfz14_0
                  try clear hfz14_1
                  try clear hfz17_0
                  try clear hfz17_1
                  try clear hfz18_0
                  try clear hfz18_1
                  try clear hfz19_0
                  try clear hfz19_1
                  try clear hfz25_0
                  try clear hfz25_1
                  try clear hfz26_0
                  try clear hfz26_1
                  try clear hfz30_0
                  try clear hfz30_1
                  try clear hfz35_0
                  try clear hfz35_1
                  try clear hfz37_0
                  try clear hfz37_1
                  try clear hfz39_0
                  try clear hfz39_1
                  try clear hfz47_0
                  try clear hfz47_1
                  try clear hfz49_0
                  try clear hfz49_1
                  try clear hfz52_0
                  try clear hfz52_1
                  try clear hfz53_0
                  try clear hfz53_1
                  try clear hfz57_0
                  try clear hfz57_1
                  try clear hfz58_0
                  try clear hfz58_1
                  try clear hfz5_0
                  try clear hfz5_1
                  try clear hfz62_0
                  try clear hfz62_1
                  try clear hfz64_0
                  try clear hfz64_1
                  try clear hfz65_0
                  try clear hfz65_1
                  try clear hfz69_0
                  try clear hfz69_1
                  try clear hfz70_0
                  try clear hfz70_1
                  try clear hfz74_0
                  try clear hfz74_1
                  try clear hfz75_0
                  try clear hfz75_1
                  try clear hx355_0
                  try clear hx355_1
                  try clear hx363_0
                  try clear hx363_1
                  try clear p2
                  try clear p24
                  try clear p3
                  try clear p35
                  try clear p355
                  try clear p36
                  try clear p363
                  try clear q2
                  try clear q24
                  try clear q3
                  try clear q35
                  try clear q355
                  try clear q36
                  try clear q363
                  obtain ⟨kq,x105_71,rfl,HA,HJ71,BK353,HB⟩:=hcut
                  cases kq with
                  | zero=>exact absurd HA.out (by simp [spec_l7Tidy.j6])
                  | succ kj71 =>
                   have H:=HA.out
                   clear HA
                   simp only [spec_l7Tidy.j6] at H
                   by_cases c76:x105_71=true
                   ·subst c76
                    have H1:(some t356)=some r:=by rw [if_pos rfl] at H;exact H
                    clear H
                    have H:=H1
                    clear H1
                    obtain rfl:=Option.some.inj H
                    go_wp2
                    go_ret
                    exact ⟨by first|rfl|(simp [errW_none,errW_some]<;>rfl)|(simp [*,errW_none,errW_some]<;>rfl)|(simp [errW_none,errW_some];exact ⟨rfl,rfl⟩),by repeat (first|(with_reducible first|exact HB.out|apply yA|apply yB|apply yC|refine yD ?_ GE353.out)|exact HB.out)⟩
                   ·replace c76:=Bool.eq_false_iff.mpr c76
                    subst c76
                    have H1:(if a0_0=46 then (if 1+t356.size≤9223372036854775807 then ((some (([a0_0]:List Int):List Int)).bind fun y365=>(if 1+t356.size+(strOfNums y365).size≤9223372036854775807 then (if 1+t356.size+(strOfNums y365).size+t364.size≤9223372036854775807 then (if 1+t356.size+(strOfNums y365).size+t364.size+1≤9223372036854775807 then (some (((((⟨#[40]⟩:ByteArray)++t356)++(strOfNums y365))++t364)++(⟨#[41]⟩:ByteArray))) else (none)) else (none)) else (none))) else (none)) else (if t356.toList=t364.toList then (some t356) else (if 1+t356.size≤9223372036854775807 then ((some (([a0_0]:List Int):List Int)).bind fun y368=>(if 1+t356.size+(strOfNums y368).size≤9223372036854775807 then (if 1+t356.size+(strOfNums y368).size+t364.size≤9223372036854775807 then (if 1+t356.size+(strOfNums y368).size+t364.size+1≤9223372036854775807 then (some (((((⟨#[40]⟩:ByteArray)++t356)++(strOfNums y368))++t364)++(⟨#[41]⟩:ByteArray))) else (none)) else (none)) else (none))) else (none))))=some r:=by rw [if_neg (show ¬ (false=true) by decide)] at H;exact H
                    clear H
                    have H:=H1
                    clear H1
                    by_cases c77:a0_0=46
                    ·rw [if_pos c77] at H
                     have c77b0:(a0_0 == 46)=true:=beq_iff_eq.mpr c77
                     have c77b1:(a0_0 != 46)=false:=bne_eq_false_iff_eq.mpr c77
                     clear c77
                     by_cases c78:1+t356.size≤9223372036854775807
                     ·rw [if_pos c78] at H
                      have c78b0:=eq_true c78
                      have c78b1:decide (1+t356.size≤9223372036854775807)=true:=decide_eq_true c78
                      try have c78b2:(9223372036854775807<1+t356.size)=False:=eq_false (Nat.not_lt.2 c78)
                      obtain ⟨y365,hy365⟩:∃ y_:List Int,y_=(([a0_0]:List Int)):=⟨_,rfl⟩
                      replace H:(if 1+t356.size+(strOfNums y365).size≤9223372036854775807 then (if 1+t356.size+(strOfNums y365).size+t364.size≤9223372036854775807 then (if 1+t356.size+(strOfNums y365).size+t364.size+1≤9223372036854775807 then (some (((((⟨#[40]⟩:ByteArray)++t356)++(strOfNums y365))++t364)++(⟨#[41]⟩:ByteArray))) else (none)) else (none)) else (none))=some r:=by first|(rw [hy365];with_reducible exact H)|(have H2_:=(Option.bind_some _ _).symm.trans H;rw [hy365];with_reducible exact H2_)|(have H2_:=(Option.bind_some _ _).symm.trans H;with_reducible exact H2_)|with_reducible exact H|(rw [hy365];exact H)|exact H
                      have Ny365:=Aside0.mk hy365
                      clear hy365
                      by_cases c79:1+t356.size+(strOfNums y365).size≤9223372036854775807
                      ·rw [if_pos c79] at H
                       have c79b0:=eq_true c79
                       have c79b1:decide (1+t356.size+(strOfNums y365).size≤9223372036854775807)=true:=decide_eq_true c79
                       try have c79b2:(9223372036854775807<1+t356.size+(strOfNums y365).size)=False:=eq_false (Nat.not_lt.2 c79)
                       by_cases c80:1+t356.size+(strOfNums y365).size+t364.size≤9223372036854775807
                       ·rw [if_pos c80] at H
                        have c80b0:=eq_true c80
                        have c80b1:decide (1+t356.size+(strOfNums y365).size+t364.size≤9223372036854775807)=true:=decide_eq_true c80
                        try have c80b2:(9223372036854775807<1+t356.size+(strOfNums y365).size+t364.size)=False:=eq_false (Nat.not_lt.2 c80)
                        by_cases c81:1+t356.size+(strOfNums y365).size+t364.size+1≤9223372036854775807
                        ·rw [if_pos c81] at H
                         have c81b0:=eq_true c81
                         have c81b1:decide (1+t356.size+(strOfNums y365).size+t364.size+1≤9223372036854775807)=true:=decide_eq_true c81
                         try have c81b2:(9223372036854775807<1+t356.size+(strOfNums y365).size+t364.size+1)=False:=eq_false (Nat.not_lt.2 c81)
                         obtain rfl:=Option.some.inj H
                         have hcz82_0:wc.cell? ⟨gb353,0,none⟩=some (.int .u8 a0_0):=(blk_cell BK353.out 0).trans rfl
                         have hcz82_1:wc.cell? ⟨gb353,1,none⟩=some (.slice (some ad355) l0_1.length c0_1):=(blk_cell BK353.out 1).trans rfl
                         have hfz82_0:=blk_frozen BK353.out 0
                         have hfz82_1:=blk_frozen BK353.out 1
                         go_wp2_with (first|((with_reducible refine gate_dst (N:=128) rfl ?_);refine Kd.R_lit (Kd.int .u8) _ 5 ?hg (N:=128) ?hd (xs:=([a0_0]:List Int)) (inner:=[.int .u8 a0_0]) (ok:=fun _=>True) (okp:=fun _=>True) ?hr ?hp (fun _ hk=>hk) trivial (Below.refl _ _) (Nat.le_refl _) (by simp) ?_;(case hd=>rfl);(case hg=>rfl);(case hr=>first|(go_simp;done)|(go_simp;rfl));(case hp=>exact (Reps.one (show Kd.M (Kd.int .u8) _ _ _ a0_0 [.int .u8 a0_0] from rfl) (Reps.none _ _)));intro v366 w83 ho84 hb hg_ hnew_;clear hg_ hnew_;(first|rw [← Ny365.out] at ho84|(simp only [Int.reduceToNat] at ho84;rw [← Ny365.out] at ho84));have n0_:=Aside0.mk (Kd.R_lower ho84 (yQ (by repeat (first|(with_reducible first|exact HB.out|apply yA|apply yB|apply yC|refine yD ?_ GE353.out)|exact HB.out))));have n1_:=Aside0.mk (blk_below (g:=gb353) (o:=.cells #[.int .u8 a0_0,.slice (some ad355) l0_1.length c0_1] 44 (0,0)) (by (with_reducible repeat (first|refine yE ?_ _|refine yF ?_|refine yG ?_ _));exact BK353.out) hb);have n2_:=Aside0.mk (yP (by repeat (first|(with_reducible first|exact HB.out|apply yA|apply yB|apply yC|refine yD ?_ GE353.out)|exact HB.out)) hb);clear BK353;clear HB;have HO367:=n0_;have BK353:=n1_;have HB:=n2_;clear n0_ n1_ n2_;clear hb ho84;have hcv85:=own_string (P:=Try.prog) Try.underlying22 Try.underlying5 Try.underlying9 (Kd.own_of_R HO367.out)))
                         go_ret
                         exact ⟨by first|rfl|(simp [errW_none,errW_some]<;>rfl)|(simp [*,errW_none,errW_some]<;>rfl)|(simp [errW_none,errW_some];exact ⟨rfl,rfl⟩),by repeat (first|(with_reducible first|exact HB.out|apply yA|apply yB|apply yC|refine yD ?_ GE353.out)|exact HB.out)⟩
                        ·rw [if_neg c81] at H
                         exact absurd H (by simp)
                       ·rw [if_neg c80] at H
                        exact absurd H (by simp)
                      ·rw [if_neg c79] at H
                       exact absurd H (by simp)
                     ·rw [if_neg c78] at H
                      exact absurd H (by simp)
                    ·rw [if_neg c77] at H
                     have c77b0:(a0_0 == 46)=false:=beq_eq_false_iff_ne.mpr c77
                     have c77b1:(a0_0 != 46)=true:=bne_iff_ne.mpr c77
                     by_cases c86:t356.toList=t364.toList
                     ·rw [if_pos c86] at H
                      have c86b0:(t356.toList == t364.toList)=true:=beq_iff_eq.mpr c86
                      have c86b1:(t356.toList != t364.toList)=false:=bne_eq_false_iff_eq.mpr c86
                      clear c86
                      obtain rfl:=Option.some.inj H
                      have hcz87_0:wc.cell? ⟨gb353,0,none⟩=some (.int .u8 a0_0):=(blk_cell BK353.out 0).trans rfl
                      have hcz87_1:wc.cell? ⟨gb353,1,none⟩=some (.slice (some ad355) l0_1.length c0_1):=(blk_cell BK353.out 1).trans rfl
                      have hfz87_0:=blk_frozen BK353.out 0
                      have hfz87_1:=blk_frozen BK353.out 1
                      go_wp2
                      go_ret
                      exact ⟨by first|rfl|(simp [errW_none,errW_some]<;>rfl)|(simp [*,errW_none,errW_some]<;>rfl)|(simp [errW_none,errW_some];exact ⟨rfl,rfl⟩),by repeat (first|(with_reducible first|exact HB.out|apply yA|apply yB|apply yC|refine yD ?_ GE353.out)|exact HB.out)⟩
                     ·rw [if_neg c86] at H
                      have c86b0:(t356.toList == t364.toList)=false:=beq_eq_false_iff_ne.mpr c86
                      have c86b1:(t356.toList != t364.toList)=true:=bne_iff_ne.mpr c86
                      by_cases c88:1+t356.size≤9223372036854775807
                      ·rw [if_pos c88] at H
                       have c88b0:=eq_true c88
                       have c88b1:decide (1+t356.size≤9223372036854775807)=true:=decide_eq_true c88
                       try have c88b2:(9223372036854775807<1+t356.size)=False:=eq_false (Nat.not_lt.2 c88)
                       obtain ⟨y368,hy368⟩:∃ y_:List Int,y_=(([a0_0]:List Int)):=⟨_,rfl⟩
                       replace H:(if 1+t356.size+(strOfNums y368).size≤9223372036854775807 then (if 1+t356.size+(strOfNums y368).size+t364.size≤9223372036854775807 then (if 1+t356.size+(strOfNums y368).size+t364.size+1≤9223372036854775807 then (some (((((⟨#[40]⟩:ByteArray)++t356)++(strOfNums y368))++t364)++(⟨#[41]⟩:ByteArray))) else (none)) else (none)) else (none))=some r:=by first|(rw [hy368];with_reducible exact H)|(have H2_:=(Option.bind_some _ _).symm.trans H;rw [hy368];with_reducible exact H2_)|(have H2_:=(Option.bind_some _ _).symm.trans H;with_reducible exact H2_)|with_reducible exact H|(rw [hy368];exact H)|exact H
                       have Ny368:=Aside0.mk hy368
                       clear hy368
                       by_cases c89:1+t356.size+(strOfNums y368).size≤9223372036854775807
                       ·rw [if_pos c89] at H
                        have c89b0:=eq_true c89
                        have c89b1:decide (1+t356.size+(strOfNums y368).size≤9223372036854775807)=true:=decide_eq_true c89
                        try have c89b2:(9223372036854775807<1+t356.size+(strOfNums y368).size)=False:=eq_false (Nat.not_lt.2 c89)
                        by_cases c90:1+t356.size+(strOfNums y368).size+t364.size≤9223372036854775807
                        ·rw [if_pos c90] at H
                         have c90b0:=eq_true c90
                         have c90b1:decide (1+t356.size+(strOfNums y368).size+t364.size≤9223372036854775807)=true:=decide_eq_true c90
                         try have c90b2:(9223372036854775807<1+t356.size+(strOfNums y368).size+t364.size)=False:=eq_false (Nat.not_lt.2 c90)
                         by_cases c91:1+t356.size+(strOfNums y368).size+t364.size+1≤9223372036854775807
                         ·rw [if_pos c91] at H
                          have c91b0:=eq_true c91
                          have c91b1:decide (1+t356.size+(strOfNums y368).size+t364.size+1≤9223372036854775807)=true:=decide_eq_true c91
                          try have c91b2:(9223372036854775807<1+t356.size+(strOfNums y368).size+t364.size+1)=False:=eq_false (Nat.not_lt.2 c91)
                          obtain rfl:=Option.some.inj H
                          have hcz92_0:wc.cell? ⟨gb353,0,none⟩=some (.int .u8 a0_0):=(blk_cell BK353.out 0).trans rfl
                          have hcz92_1:wc.cell? ⟨gb353,1,none⟩=some (.slice (some ad355) l0_1.length c0_1):=(blk_cell BK353.out 1).trans rfl
                          have hfz92_0:=blk_frozen BK353.out 0
                          have hfz92_1:=blk_frozen BK353.out 1
                          go_wp2_with (first|((with_reducible refine gate_dst (N:=128) rfl ?_);refine Kd.R_lit (Kd.int .u8) _ 5 ?hg (N:=128) ?hd (xs:=([a0_0]:List Int)) (inner:=[.int .u8 a0_0]) (ok:=fun _=>True) (okp:=fun _=>True) ?hr ?hp (fun _ hk=>hk) trivial (Below.refl _ _) (Nat.le_refl _) (by simp) ?_;(case hd=>rfl);(case hg=>rfl);(case hr=>first|(go_simp;done)|(go_simp;rfl));(case hp=>exact (Reps.one (show Kd.M (Kd.int .u8) _ _ _ a0_0 [.int .u8 a0_0] from rfl) (Reps.none _ _)));intro v369 w93 ho94 hb hg_ hnew_;clear hg_ hnew_;(first|rw [← Ny368.out] at ho94|(simp only [Int.reduceToNat] at ho94;rw [← Ny368.out] at ho94));have n0_:=Aside0.mk (Kd.R_lower ho94 (yQ (by repeat (first|(with_reducible first|exact HB.out|apply yA|apply yB|apply yC|refine yD ?_ GE353.out)|exact HB.out))));have n1_:=Aside0.mk (blk_below (g:=gb353) (o:=.cells #[.int .u8 a0_0,.slice (some ad355) l0_1.length c0_1] 44 (0,0)) (by (with_reducible repeat (first|refine yE ?_ _|refine yF ?_|refine yG ?_ _));exact BK353.out) hb);have n2_:=Aside0.mk (yP (by repeat (first|(with_reducible first|exact HB.out|apply yA|apply yB|apply yC|refine yD ?_ GE353.out)|exact HB.out)) hb);clear BK353;clear HB;have HO370:=n0_;have BK353:=n1_;have HB:=n2_;clear n0_ n1_ n2_;clear hb ho94;have hcv95:=own_string (P:=Try.prog) Try.underlying22 Try.underlying5 Try.underlying9 (Kd.own_of_R HO370.out)))
                          go_ret
                          exact ⟨by first|rfl|(simp [errW_none,errW_some]<;>rfl)|(simp [*,errW_none,errW_some]<;>rfl)|(simp [errW_none,errW_some];exact ⟨rfl,rfl⟩),by repeat (first|(with_reducible first|exact HB.out|apply yA|apply yB|apply yC|refine yD ?_ GE353.out)|exact HB.out)⟩
                         ·rw [if_neg c91] at H
                          exact absurd H (by simp)
                        ·rw [if_neg c90] at H
                         exact absurd H (by simp)
                       ·rw [if_neg c89] at H
                        exact absurd H (by simp)
                      ·rw [if_neg c88] at H
                       exact absurd H (by simp)
    ·rw [if_neg c43] at H
     exact absurd H (by simp)
  ·rw [if_neg c7] at H
   exact absurd H (by simp)

end Go.Proofs.Ytjjnckgdpdelkaa.P
