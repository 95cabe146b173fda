/- What these laws reach, joined by a program of this session: contracts (written by that program over the kit's print, or by hand) and plain lemmas. -/
import Derived.Lib.Bytealg
import Derived.Laws.Externs
import Derived.Lib.Walk
import Derived.BigCall
import Derived.BigGuard
import Derived.Test.YtjjnckgdpdelkaaK1
open Go.Proofs.YtjjnckgdpdelkaaW.PrintWords renaming below_alloc → yA, pw_below_drewN → yB, below_drew1 → yC, below_set → yD, blk_drewN → yE, blk_drew → yF, blk_alloc → yG, below_step → yP, below_size → yQ
open Go.Proofs.YtjjnckgdpdelkaaW.PrintWords.Kd renaming R_alloc → yH, R_drewN → yI, R_drew → yJ
open List renaming setIfInBounds_toArray → yK, set_cons_zero → yL, set_cons_succ → yM
namespace Go.Proofs.Ytjjnckgdpdelkaa.P
open Go.RowKit Go.Proofs.YtjjnckgdpdelkaaW.PrintWords Go.Proofs.YtjjnckgdpdelkaaW.PrintLast Go.Proofs.YtjjnckgdpdelkaaW.PrintMore
attribute [local go_sem] max2_int min2_int max_two min_two max_three min_three max_four min_four   -- for this text's walks alone
set_option linter.unusedVariables false
set_option linter.unusedSimpArgs false

/-! ### spec_l91Term: function 39 -/
mutual
def spec_l91Term.j0:Nat→Int→Bool→List Int→Int→Option (ByteArray × Int)
 | 0,_,_,_,_=>none
 | k+1,x1,x11,x1000,x1001=>if x11=true then ((some (([(⟨#[48]⟩:ByteArray),(⟨#[49]⟩:ByteArray),(⟨#[97]⟩:ByteArray),(⟨#[97]⟩:ByteArray)]:List ByteArray):List ByteArray)).bind fun y109=>((spec_l6Rd_pick.f k x1000 x1001 4).bind fun bt112=>(if 0≤bt112.1 then (if bt112.1<(y109.length:Int) then (some (rdOf ByteArray.empty y109 bt112.1,bt112.2)) else (none)) else (none)))) else ((spec_l6Rd_pick.f k x1000 x1001 6).bind fun bt115=>(if bt115.1=0 then ((spec_l91Term.f k x1000 bt115.2 (wrap64 (x1 - 1))).bind fun bt117=>(if 1+bt117.1.size≤9223372036854775807 then (some ((⟨#[42]⟩:ByteArray)++bt117.1,bt117.2)) else (none))) else (if bt115.1=1 then ((some (([(⟨#[50]⟩:ByteArray),(⟨#[51]⟩:ByteArray),(⟨#[52]⟩:ByteArray),(⟨#[53]⟩:ByteArray)]:List ByteArray):List ByteArray)).bind fun y119=>((spec_l6Rd_pick.f k x1000 bt115.2 4).bind fun bt122=>(if 0≤bt122.1 then (if bt122.1<(y119.length:Int) then ((spec_l91Term.f k x1000 bt122.2 (wrap64 (x1 - 1))).bind fun bt125=>(if (rdOf ByteArray.empty y119 bt122.1).size+bt125.1.size≤9223372036854775807 then (some ((rdOf ByteArray.empty y119 bt122.1)++bt125.1,bt125.2)) else (none))) else (none)) else (none)))) else ((spec_l91Term.f k x1000 bt115.2 (wrap64 (x1 - 1))).bind fun bt127=>(if 1+bt127.1.size≤9223372036854775807 then ((some (([(⟨#[43]⟩:ByteArray),(⟨#[43]⟩:ByteArray),(⟨#[46]⟩:ByteArray),(⟨#[38]⟩:ByteArray)]:List ByteArray):List ByteArray)).bind fun y129=>((spec_l6Rd_pick.f k x1000 bt127.2 4).bind fun bt132=>(if 0≤bt132.1 then (if bt132.1<(y129.length:Int) then (if 1+bt127.1.size+(rdOf ByteArray.empty y129 bt132.1).size≤9223372036854775807 then ((spec_l91Term.f k x1000 bt132.2 (wrap64 (x1 - 1))).bind fun bt135=>(if 1+bt127.1.size+(rdOf ByteArray.empty y129 bt132.1).size+bt135.1.size≤9223372036854775807 then (if 1+bt127.1.size+(rdOf ByteArray.empty y129 bt132.1).size+bt135.1.size+1≤9223372036854775807 then (some (((((⟨#[40]⟩:ByteArray)++bt127.1)++(rdOf ByteArray.empty y129 bt132.1))++bt135.1)++(⟨#[41]⟩:ByteArray),bt135.2)) else (none)) else (none))) else (none)) else (none)) else (none)))) else (none))))))
def spec_l91Term.f:Nat→List Int→Int→Int→Option (ByteArray × Int)
 | 0,_,_,_=>none
 | k+1,s0_0,s0_1,a1=>if a1=0 then (spec_l91Term.j0 k a1 true s0_0 s0_1) else ((spec_l6Rd_pick.f k s0_0 s0_1 5).bind fun bt107=>(spec_l91Term.j0 k a1 (bt107.1 == 0) s0_0 bt107.2))
end
theorem spec_l91Term.mono_l:∀ k,(∀ y0 y1 y2,LeO (spec_l91Term.f k y0 y1 y2) (spec_l91Term.f (k+1) y0 y1 y2))∧(∀ y0 y1 y2 y3,LeO (spec_l91Term.j0 k y0 y1 y2 y3) (spec_l91Term.j0 (k+1) y0 y1 y2 y3))
 | 0=>⟨fun _ _ _ r h=>by simp [spec_l91Term.f] at h,fun _ _ _ _ r h=>by simp [spec_l91Term.j0] at h⟩
 | k+1=>by
  obtain ⟨ih0,ih1⟩:=spec_l91Term.mono_l k
  refine ⟨?_,?_⟩
  ·intro y0 y1 y2
   unfold spec_l91Term.f
   repeat' first
   | (with_reducible exact ih0 _ _ _)
   | (with_reducible exact ih1 _ _ _ _)
   | (with_reducible exact spec_l6Rd_pick.mono _ _ _ _)
   | (with_reducible exact LeO.refl _)
   | (with_reducible exact LeO.none _)
   | (with_reducible refine LeO.ite ?_ ?_)
   | (with_reducible refine LeO.bind ?_ (fun _=>?_))
   | exact ih0 _ _ _
   | exact ih1 _ _ _ _
   | exact spec_l6Rd_pick.mono _ _ _ _
   | exact LeO.none _
   | refine LeO.ite ?_ ?_
   | refine LeO.bind ?_ (fun _=>?_)
  ·intro y0 y1 y2 y3
   unfold spec_l91Term.j0
   repeat' first
   | (with_reducible exact ih0 _ _ _)
   | (with_reducible exact ih1 _ _ _ _)
   | (with_reducible exact spec_l6Rd_pick.mono _ _ _ _)
   | (with_reducible exact LeO.refl _)
   | (with_reducible exact LeO.none _)
   | (with_reducible refine LeO.ite ?_ ?_)
   | (with_reducible refine LeO.bind ?_ (fun _=>?_))
   | exact ih0 _ _ _
   | exact ih1 _ _ _ _
   | exact spec_l6Rd_pick.mono _ _ _ _
   | exact LeO.none _
   | refine LeO.ite ?_ ?_
   | refine LeO.bind ?_ (fun _=>?_)
theorem spec_l91Term.mono:∀ a0 a1 a2 k,LeO (spec_l91Term.f k a0 a1 a2) (spec_l91Term.f (k+1) a0 a1 a2):=by
 intro a0 a1 a2 k
 obtain ⟨ih0,ih1⟩:=spec_l91Term.mono_l k
 exact ih0 a0 a1 a2
def spec_l91Term.T7:Bool × List (List Nat × List Nat):=(true,[([],[]),([],[]),([1],[1]),([0,2],[0,2]),([3],[3]),([],[]),([],[]),([6],[6]),([5,7,2],[5,7]),([4,8],[4,8]),([9,8,0,1,2,3,4,5,6,7,8,9],[9])])
def spec_l91Term.B7:List Nat:=[0,0,2,7,15,0,0,64,230,511,1023]
theorem spec_l91Term.tab7:rtab .any (opsOf Try.f39 7)=spec_l91Term.T7:=by kernel_rfl
theorem spec_l91Term.bits7:waitsOk spec_l91Term.T7.2 spec_l91Term.B7=true:=by kernel_rfl
def spec_l91Term.T8:Bool × List (List Nat × List Nat):=(true,[([],[]),([],[]),([1],[1]),([0,2],[0,2]),([3],[3]),([],[]),([],[]),([6,3],[6]),([5,7],[5,7]),([8],[8]),([4,9],[4,9]),([],[]),([],[]),([12],[12]),([11,13,7],[11,13]),([10,14],[10,14]),([15],[15]),([16,14,0,1,2,3,4,5,6,7,8,9,10,11,12,13,14,15,16],[16])])
def spec_l91Term.B8:List Nat:=[0,0,2,7,15,0,0,79,239,495,1023,0,0,4096,14543,32767,65535,131071]
theorem spec_l91Term.tab8:rtab .any (opsOf Try.f39 8)=spec_l91Term.T8:=by kernel_rfl
theorem spec_l91Term.bits8:waitsOk spec_l91Term.T8.2 spec_l91Term.B8=true:=by kernel_rfl
set_option maxHeartbeats 8000000 in
set_option maxRecDepth 100000 in
theorem spec_l91Term.calls (k:Nat):∀ (g:Nat) (s0_0:List Int) (s0_1:Int) (a1:Int) (r1:ByteArray) (r2:Int) (w0 w:World) (hI:IsS60 w0 w g s0_0 s0_1) (hB:Below w0.heap.size w0 w) (h:spec_l91Term.f k s0_0 s0_1 a1=some (r1,r2)),
  Calls Try.prog 39 #[.pointer (some ⟨g,0,none⟩),.int .i64 a1] w fun e w'=>e=.returned (.string r1)∧IsS60 w0 w' g s0_0 r2∧Below w0.heap.size w0 w'∧KeepBut w w' g none:=by
 induction k using Nat.strongRecOn with
 | _ k ih =>
 intro g s0_0 s0_1 a1 r1 r2 w0 w hI hB h
 cases k with
 | zero=>exact absurd h (by simp [spec_l91Term.f])
 | succ k =>
 simp only [spec_l91Term.f] at h
 have HI0:=Aside0.mk hI
 have HK:=Aside0.mk (KeepBut.refl w g none)
 have HL:=Aside0.mk hB.size
 clear hI
 have HW0:=Aside0.mk hB.size
 have HB:=Aside0.mk hB
 clear hB
 have H:(if a1=0 then (spec_l91Term.j0 k a1 true s0_0 s0_1) else ((spec_l6Rd_pick.f k s0_0 s0_1 5).bind fun bt107=>(spec_l91Term.j0 k a1 (bt107.1 == 0) s0_0 bt107.2)))=some (r1,r2):=h
 clear h
 have HC3:=Aside0.mk H
 clear H
 go_enter Try.func39,Try.ntmps39
 go_upto_region 1 with (fail)
 go_cut [11] (fun v11 wc=>∃ (kq:Nat) (x11_2:Bool) (x1001_2:Int),v11=.bool x11_2∧Aside0 (spec_l91Term.j0 kq a1 x11_2 s0_0 x1001_2=some (r1,r2))∧Aside0 (kq≤k)∧Aside0 (IsS60 w0 wc g s0_0 x1001_2)∧Aside0 (KeepBut w wc g none)∧Aside0 (Below w0.heap.size w0 wc))
 case first =>
  have H:=HC3.out
  clear HC3
  by_cases c4:a1=0
  ·rw [if_pos c4] at H
   have c4b0:(a1 == 0)=true:=beq_iff_eq.mpr c4
   have c4b1:(a1 != 0)=false:=bne_eq_false_iff_eq.mpr c4
   clear c4
   (first|rw [c4b0]|(simp only [i64_w,i32_w];rw [c4b0])|skip)
   have H':=Aside0.mk H
   clear H
   go_wp2
   go_meet
   case rel=>exact ⟨_,(true),(s0_1),(by first|rfl|(simp;done)|(simp [*];done)|(simp [Int.tmod_eq_emod_of_nonneg];done)),H',⟨by first|omega|exact Nat.le_refl _⟩,⟨by repeat (first|(with_reducible first|exact HI0.out|apply IsS60.alloc|apply IsS60.drewN|apply IsS60.drew|apply IsS60.set_1)|exact HI0.out)⟩,⟨by repeat (first|(with_reducible first|exact HK.out|apply KeepBut.set_|apply keep_drewN|apply keep_drew|apply keep_alloc)|exact HK.out)⟩,⟨by repeat (first|(with_reducible first|exact HB.out|apply yA|apply yB|apply yC|refine yD ?_ (IsS60.ge HI0.out))|exact HB.out)⟩⟩
  ·rw [if_neg c4] at H
   have c4b0:(a1 == 0)=false:=beq_eq_false_iff_ne.mpr c4
   have c4b1:(a1 != 0)=true:=bne_iff_ne.mpr c4
   (first|rw [c4b0]|(simp only [i64_w,i32_w];rw [c4b0])|skip)
   replace H:=Option.bind_eq_some_iff.mp H
   obtain ⟨⟨t107,t108⟩,A50,H⟩:=H
   replace H:(spec_l91Term.j0 k a1 (t107 == 0) s0_0 t108)=some (r1,r2):=H
   have A5:=Aside0.mk A50
   clear A50
   have H':=Aside0.mk H
   clear H
   go_wp2_with (first|(go_at_call 32;(with_reducible refine (spec_l6Rd_pick.calls k g s0_0 s0_1 5 t107 t108 w0 _ ?side1 ?side2 A5.out).mono ?_);(case side1=>repeat (first|(with_reducible first|exact HI0.out|apply IsS60.alloc|apply IsS60.drewN|apply IsS60.drew|apply IsS60.set_1)|exact HI0.out));(case side2=>repeat (first|(with_reducible first|exact HB.out|apply yA|apply yB|apply yC|refine yD ?_ (IsS60.ge HI0.out))|exact HB.out));rintro e w6 ⟨rfl,hi,hb,hk⟩;have n0_:=Aside0.mk (KeepBut.trans (by repeat (first|(with_reducible first|exact HK.out|apply KeepBut.set_|apply keep_drewN|apply keep_drew|apply keep_alloc)|exact HK.out)) hk (.inl rfl));have n1_:=Aside0.mk (hb);have n2_:=Aside0.mk (hi);clear HK;clear HB;clear HI0;have HK:=n0_;have HB:=n1_;have HI0:=n2_;clear n0_ n1_ n2_;(try clear hb);(try clear hb2);(try clear hk);(try clear hi)))
   go_meet
   case rel=>exact ⟨_,((t107 == 0)),(t108),(by first|rfl|(simp;done)|(simp [*];done)|(simp [Int.tmod_eq_emod_of_nonneg];done)),H',⟨by first|omega|exact Nat.le_refl _⟩,⟨by repeat (first|(with_reducible first|exact HI0.out|apply IsS60.alloc|apply IsS60.drewN|apply IsS60.drew|apply IsS60.set_1)|exact HI0.out)⟩,⟨by repeat (first|(with_reducible first|exact HK.out|apply KeepBut.set_|apply keep_drewN|apply keep_drew|apply keep_alloc)|exact HK.out)⟩,⟨by repeat (first|(with_reducible first|exact HB.out|apply yA|apply yB|apply yC|refine yD ?_ (IsS60.ge HI0.out))|exact HB.out)⟩⟩
 case rest =>
  clear HC3
  try clear p2
  try clear c3
  try clear c4
  try clear c4b0
  try clear c4b1
  obtain ⟨kq,x11_2,x1001_2,rfl,HA,HJ2,HI0,HK,HB⟩:=hcut
  cases kq with
  | zero=>exact absurd HA.out (by simp [spec_l91Term.j0])
  | succ kj2 =>
   have H:=HA.out
   clear HA
   simp only [spec_l91Term.j0] at H
   by_cases c7:x11_2=true
   ·subst c7
    have H1:((some (([(⟨#[48]⟩:ByteArray),(⟨#[49]⟩:ByteArray),(⟨#[97]⟩:ByteArray),(⟨#[97]⟩:ByteArray)]:List ByteArray):List ByteArray)).bind fun y109=>((spec_l6Rd_pick.f kj2 s0_0 x1001_2 4).bind fun bt112=>(if 0≤bt112.1 then (if bt112.1<(y109.length:Int) then (some (rdOf ByteArray.empty y109 bt112.1,bt112.2)) else (none)) else (none))))=some (r1,r2):=by rw [if_pos rfl] at H;exact H
    clear H
    have H:=H1
    clear H1
    obtain ⟨y109,hy109⟩:∃ y_:List ByteArray,y_=(([(⟨#[48]⟩:ByteArray),(⟨#[49]⟩:ByteArray),(⟨#[97]⟩:ByteArray),(⟨#[97]⟩:ByteArray)]:List ByteArray)):=⟨_,rfl⟩
    replace H:((spec_l6Rd_pick.f kj2 s0_0 x1001_2 4).bind fun bt112=>(if 0≤bt112.1 then (if bt112.1<(y109.length:Int) then (some (rdOf ByteArray.empty y109 bt112.1,bt112.2)) else (none)) else (none)))=some (r1,r2):=by first|(rw [hy109];with_reducible exact H)|(have H2_:=(Option.bind_some _ _).symm.trans H;rw [hy109];with_reducible exact H2_)|(have H2_:=(Option.bind_some _ _).symm.trans H;with_reducible exact H2_)|with_reducible exact H|(rw [hy109];exact H)|exact H
    have Ny109:=Aside0.mk hy109
    clear hy109
    replace H:=Option.bind_eq_some_iff.mp H
    obtain ⟨⟨t112,t113⟩,A80,H⟩:=H
    replace H:(if 0≤t112 then (if t112<(y109.length:Int) then (some (rdOf ByteArray.empty y109 t112,t113)) else (none)) else (none))=some (r1,r2):=H
    have A8:=Aside0.mk A80
    clear A80
    by_cases c9:0≤t112
    ·rw [if_pos c9] at H
     have c9b0:decide (0≤t112)=true:=decide_eq_true c9
     clear c9
     by_cases c10:t112<(y109.length:Int)
     ·rw [if_pos c10] at H
      have c10b0:decide (t112<(y109.length:Int))=true:=decide_eq_true c10
      clear c10
      simp only [Option.some.injEq,Prod.mk.injEq] at H
      obtain ⟨rfl,rfl⟩:=H
      go_wp2_with (first|((with_reducible refine gate_dst (N:=12) rfl ?_);refine Kd.R_lit Kd.string _ 9 ?hg (N:=12) ?hd (xs:=([(⟨#[48]⟩:ByteArray),(⟨#[49]⟩:ByteArray),(⟨#[97]⟩:ByteArray),(⟨#[97]⟩:ByteArray)]:List ByteArray)) (inner:=[.string (⟨#[48]⟩:ByteArray),.string (⟨#[49]⟩:ByteArray),.string (⟨#[97]⟩:ByteArray),.string (⟨#[97]⟩:ByteArray)]) (ok:=fun _=>True) (okp:=fun _=>True) ?hr ?hp (fun _ hk=>hk) trivial (Below.refl _ _) (Nat.le_refl _) (by simp) ?_;(case hd=>rfl);(case hg=>rfl);(case hr=>first|(go_simp;done)|(go_simp;rfl));(case hp=>exact (Reps.one (show Kd.M Kd.string _ _ _ (⟨#[48]⟩:ByteArray) [.string (⟨#[48]⟩:ByteArray)] from rfl) (Reps.one (show Kd.M Kd.string _ _ _ (⟨#[49]⟩:ByteArray) [.string (⟨#[49]⟩:ByteArray)] from rfl) (Reps.one (show Kd.M Kd.string _ _ _ (⟨#[97]⟩:ByteArray) [.string (⟨#[97]⟩:ByteArray)] from rfl) (Reps.one (show Kd.M Kd.string _ _ _ (⟨#[97]⟩:ByteArray) [.string (⟨#[97]⟩:ByteArray)] from rfl) (Reps.none _ _))))));intro v110 w11 ho12 hb hg_ hnew_;clear hg_ hnew_;(first|rw [← Ny109.out] at ho12|(simp only [Int.reduceToNat] at ho12;rw [← Ny109.out] at ho12));have n0_:=Aside0.mk (Kd.R_lower ho12 (keep_size (w:=w) (g:=g) (row:=none) (by repeat (first|(with_reducible first|exact HK.out|apply KeepBut.set_|apply keep_drewN|apply keep_drew|apply keep_alloc)|exact HK.out))));have n1_:=Aside0.mk (IsS60.below (by repeat (first|(with_reducible first|exact HI0.out|apply IsS60.alloc|apply IsS60.drewN|apply IsS60.drew|apply IsS60.set_1)|exact HI0.out)) hb);have n2_:=Aside0.mk (KeepBut.trans (by repeat (first|(with_reducible first|exact HK.out|apply KeepBut.set_|apply keep_drewN|apply keep_drew|apply keep_alloc)|exact HK.out)) (KeepBut.of_below hb g none) (.inl rfl));have n3_:=Aside0.mk (yP (by repeat (first|(with_reducible first|exact HB.out|apply yA|apply yB|apply yC|refine yD ?_ (IsS60.ge HI0.out))|exact HB.out)) hb);clear HI0;clear HK;clear HB;have HO111:=n0_;have HI0:=n1_;have HK:=n2_;have HB:=n3_;clear n0_ n1_ n2_ n3_;clear hb ho12)|((with_reducible refine gate_callee (f:=32) rfl ?_);refine goesL_ (some 14) rfl rfl Try.func32 (by kernel_rfl) rfl #[.pointer (some ⟨g,0,none⟩),.int .i64 4] rfl (by (try simp only [List.map_toArray,List.map_cons,List.map_nil]);first|done|rfl|(simp only [List.length_drop,List.length_take];rfl)) ?_;(with_reducible refine (spec_l6Rd_pick.calls kj2 g s0_0 x1001_2 4 t112 t113 w0 _ ?side1 ?side2 A8.out).mono ?_);(case side1=>repeat (first|(with_reducible first|exact HI0.out|apply IsS60.alloc|apply IsS60.drewN|apply IsS60.drew|apply IsS60.set_1)|exact HI0.out));(case side2=>repeat (first|(with_reducible first|exact HB.out|apply yA|apply yB|apply yC|refine yD ?_ (IsS60.ge HI0.out))|exact HB.out));rintro e w13 ⟨rfl,hi,hb,hk⟩;refine ⟨_,rfl,?_⟩;have n0_:=Aside0.mk (Kd.R_mono (Kd.R_keep (IsS60.apart (show IsS60 w0 _ g s0_0 x1001_2 from by repeat (first|(with_reducible first|exact HI0.out|apply IsS60.alloc|apply IsS60.drewN|apply IsS60.drew|apply IsS60.set_1)|exact HI0.out)) (by (with_reducible repeat (first|apply yH|apply yI|apply yJ));exact HO111.out) (by decide)) hk (fun _ h=>h.2)) (fun _ h=>h.1));have n1_:=Aside0.mk (KeepBut.trans (by repeat (first|(with_reducible first|exact HK.out|apply KeepBut.set_|apply keep_drewN|apply keep_drew|apply keep_alloc)|exact HK.out)) hk (.inl rfl));have n2_:=Aside0.mk (hb);have n3_:=Aside0.mk (hi);clear HO111;clear HK;clear HB;clear HI0;have HO111:=n0_;have HK:=n1_;have HB:=n2_;have HI0:=n3_;clear n0_ n1_ n2_ n3_;(try clear hb);(try clear hb2);(try clear hk);(try clear hi);obtain ⟨Ao14,co14,eo14⟩:=Kd.R_slice HO111.out;subst eo14;have p114:0≤(t112:Int):=of_decide_eq_true (by first|(with_reducible assumption)|assumption);have q114:t112<(y109.length:Int):=of_decide_eq_true (by first|(with_reducible assumption)|assumption);obtain ⟨ad114,e114,hx114_0⟩:=Kd.at_string (Kd.R_reads' HO111.out).2.2 t112 p114 q114;cases e114;replace p114:=eq_true p114;replace q114:=eq_true q114))
      go_ret
      exact ⟨by first|rfl|(simp [errW_none,errW_some]<;>rfl)|(simp [*,errW_none,errW_some]<;>rfl)|(simp [errW_none,errW_some];exact ⟨rfl,rfl⟩),by repeat (first|(with_reducible first|exact HI0.out|apply IsS60.alloc|apply IsS60.drewN|apply IsS60.drew|apply IsS60.set_1)|exact HI0.out),by repeat (first|(with_reducible first|exact HB.out|apply yA|apply yB|apply yC|refine yD ?_ (IsS60.ge HI0.out))|exact HB.out),by repeat (first|(with_reducible first|exact HK.out|apply KeepBut.set_|apply keep_drewN|apply keep_drew|apply keep_alloc)|exact HK.out)⟩
     ·rw [if_neg c10] at H
      exact absurd H (by simp)
    ·rw [if_neg c9] at H
     exact absurd H (by simp)
   ·replace c7:=Bool.eq_false_iff.mpr c7
    subst c7
    have H1:((spec_l6Rd_pick.f kj2 s0_0 x1001_2 6).bind fun bt115=>(if bt115.1=0 then ((spec_l91Term.f kj2 s0_0 bt115.2 (wrap64 (a1 - 1))).bind fun bt117=>(if 1+bt117.1.size≤9223372036854775807 then (some ((⟨#[42]⟩:ByteArray)++bt117.1,bt117.2)) else (none))) else (if bt115.1=1 then ((some (([(⟨#[50]⟩:ByteArray),(⟨#[51]⟩:ByteArray),(⟨#[52]⟩:ByteArray),(⟨#[53]⟩:ByteArray)]:List ByteArray):List ByteArray)).bind fun y119=>((spec_l6Rd_pick.f kj2 s0_0 bt115.2 4).bind fun bt122=>(if 0≤bt122.1 then (if bt122.1<(y119.length:Int) then ((spec_l91Term.f kj2 s0_0 bt122.2 (wrap64 (a1 - 1))).bind fun bt125=>(if (rdOf ByteArray.empty y119 bt122.1).size+bt125.1.size≤9223372036854775807 then (some ((rdOf ByteArray.empty y119 bt122.1)++bt125.1,bt125.2)) else (none))) else (none)) else (none)))) else ((spec_l91Term.f kj2 s0_0 bt115.2 (wrap64 (a1 - 1))).bind fun bt127=>(if 1+bt127.1.size≤9223372036854775807 then ((some (([(⟨#[43]⟩:ByteArray),(⟨#[43]⟩:ByteArray),(⟨#[46]⟩:ByteArray),(⟨#[38]⟩:ByteArray)]:List ByteArray):List ByteArray)).bind fun y129=>((spec_l6Rd_pick.f kj2 s0_0 bt127.2 4).bind fun bt132=>(if 0≤bt132.1 then (if bt132.1<(y129.length:Int) then (if 1+bt127.1.size+(rdOf ByteArray.empty y129 bt132.1).size≤9223372036854775807 then ((spec_l91Term.f kj2 s0_0 bt132.2 (wrap64 (a1 - 1))).bind fun bt135=>(if 1+bt127.1.size+(rdOf ByteArray.empty y129 bt132.1).size+bt135.1.size≤9223372036854775807 then (if 1+bt127.1.size+(rdOf ByteArray.empty y129 bt132.1).size+bt135.1.size+1≤9223372036854775807 then (some (((((⟨#[40]⟩:ByteArray)++bt127.1)++(rdOf ByteArray.empty y129 bt132.1))++bt135.1)++(⟨#[41]⟩:ByteArray),bt135.2)) else (none)) else (none))) else (none)) else (none)) else (none)))) else (none))))))=some (r1,r2):=by rw [if_neg (show ¬ (false=true) by decide)] at H;exact H
    clear H
    have H:=H1
    clear H1
    replace H:=Option.bind_eq_some_iff.mp H
    obtain ⟨⟨t115,t116⟩,A150,H⟩:=H
    replace H:(if t115=0 then ((spec_l91Term.f kj2 s0_0 t116 (wrap64 (a1 - 1))).bind fun bt117=>(if 1+bt117.1.size≤9223372036854775807 then (some ((⟨#[42]⟩:ByteArray)++bt117.1,bt117.2)) else (none))) else (if t115=1 then ((some (([(⟨#[50]⟩:ByteArray),(⟨#[51]⟩:ByteArray),(⟨#[52]⟩:ByteArray),(⟨#[53]⟩:ByteArray)]:List ByteArray):List ByteArray)).bind fun y119=>((spec_l6Rd_pick.f kj2 s0_0 t116 4).bind fun bt122=>(if 0≤bt122.1 then (if bt122.1<(y119.length:Int) then ((spec_l91Term.f kj2 s0_0 bt122.2 (wrap64 (a1 - 1))).bind fun bt125=>(if (rdOf ByteArray.empty y119 bt122.1).size+bt125.1.size≤9223372036854775807 then (some ((rdOf ByteArray.empty y119 bt122.1)++bt125.1,bt125.2)) else (none))) else (none)) else (none)))) else ((spec_l91Term.f kj2 s0_0 t116 (wrap64 (a1 - 1))).bind fun bt127=>(if 1+bt127.1.size≤9223372036854775807 then ((some (([(⟨#[43]⟩:ByteArray),(⟨#[43]⟩:ByteArray),(⟨#[46]⟩:ByteArray),(⟨#[38]⟩:ByteArray)]:List ByteArray):List ByteArray)).bind fun y129=>((spec_l6Rd_pick.f kj2 s0_0 bt127.2 4).bind fun bt132=>(if 0≤bt132.1 then (if bt132.1<(y129.length:Int) then (if 1+bt127.1.size+(rdOf ByteArray.empty y129 bt132.1).size≤9223372036854775807 then ((spec_l91Term.f kj2 s0_0 bt132.2 (wrap64 (a1 - 1))).bind fun bt135=>(if 1+bt127.1.size+(rdOf ByteArray.empty y129 bt132.1).size+bt135.1.size≤9223372036854775807 then (if 1+bt127.1.size+(rdOf ByteArray.empty y129 bt132.1).size+bt135.1.size+1≤9223372036854775807 then (some (((((⟨#[40]⟩:ByteArray)++bt127.1)++(rdOf ByteArray.empty y129 bt132.1))++bt135.1)++(⟨#[41]⟩:ByteArray),bt135.2)) else (none)) else (none))) else (none)) else (none)) else (none)))) else (none)))))=some (r1,r2):=H
    have A15:=Aside0.mk A150
    clear A150
    by_cases c16:t115=0
    ·rw [if_pos c16] at H
     have c16b0:(t115 == 0)=true:=beq_iff_eq.mpr c16
     have c16b1:(t115 != 0)=false:=bne_eq_false_iff_eq.mpr c16
     clear c16
     replace H:=Option.bind_eq_some_iff.mp H
     obtain ⟨⟨t117,t118⟩,A170,H⟩:=H
     replace H:(if 1+t117.size≤9223372036854775807 then (some ((⟨#[42]⟩:ByteArray)++t117,t118)) else (none))=some (r1,r2):=H
     have A17:=Aside0.mk A170
     clear A170
     by_cases c18:1+t117.size≤9223372036854775807
     ·rw [if_pos c18] at H
      have c18b0:=eq_true c18
      have c18b1:decide (1+t117.size≤9223372036854775807)=true:=decide_eq_true c18
      try have c18b2:(9223372036854775807<1+t117.size)=False:=eq_false (Nat.not_lt.2 c18)
      simp only [Option.some.injEq,Prod.mk.injEq] at H
      obtain ⟨rfl,rfl⟩:=H
      go_wp2_with (first|((with_reducible refine gate_callee (f:=32) rfl ?_);refine goesL_ (some 18) rfl rfl Try.func32 (by kernel_rfl) rfl #[.pointer (some ⟨g,0,none⟩),.int .i64 6] rfl (by (try simp only [List.map_toArray,List.map_cons,List.map_nil]);first|done|rfl|(simp only [List.length_drop,List.length_take];rfl)) ?_;(with_reducible refine (spec_l6Rd_pick.calls kj2 g s0_0 x1001_2 6 t115 t116 w0 _ ?side1 ?side2 A15.out).mono ?_);(case side1=>repeat (first|(with_reducible first|exact HI0.out|apply IsS60.alloc|apply IsS60.drewN|apply IsS60.drew|apply IsS60.set_1)|exact HI0.out));(case side2=>repeat (first|(with_reducible first|exact HB.out|apply yA|apply yB|apply yC|refine yD ?_ (IsS60.ge HI0.out))|exact HB.out));rintro e w19 ⟨rfl,hi,hb,hk⟩;refine ⟨_,rfl,?_⟩;have n0_:=Aside0.mk (KeepBut.trans (by repeat (first|(with_reducible first|exact HK.out|apply KeepBut.set_|apply keep_drewN|apply keep_drew|apply keep_alloc)|exact HK.out)) hk (.inl rfl));have n1_:=Aside0.mk (hb);have n2_:=Aside0.mk (hi);clear HK;clear HB;clear HI0;have HK:=n0_;have HB:=n1_;have HI0:=n2_;clear n0_ n1_ n2_;(try clear hb);(try clear hb2);(try clear hk);(try clear hi))|((with_reducible refine gate_callee (f:=39) rfl ?_);refine goesL_ (some 24) rfl rfl Try.func39 (by kernel_rfl) rfl #[.pointer (some ⟨g,0,none⟩),.int .i64 (wrap64 (a1 - 1))] rfl (by (try simp only [List.map_toArray,List.map_cons,List.map_nil]);first|done|rfl|(simp only [List.length_drop,List.length_take];rfl)) ?_;(with_reducible refine (ih kj2 (by have:=HJ2.out;omega) g s0_0 t116 (wrap64 (a1 - 1)) t117 t118 w0 _ ?side1 ?side2 A17.out).mono ?_);(case side1=>repeat (first|(with_reducible first|exact HI0.out|apply IsS60.alloc|apply IsS60.drewN|apply IsS60.drew|apply IsS60.set_1)|exact HI0.out));(case side2=>repeat (first|(with_reducible first|exact HB.out|apply yA|apply yB|apply yC|refine yD ?_ (IsS60.ge HI0.out))|exact HB.out));rintro e w20 ⟨rfl,hi,hb,hk⟩;refine ⟨_,rfl,?_⟩;have n0_:=Aside0.mk (KeepBut.trans (by repeat (first|(with_reducible first|exact HK.out|apply KeepBut.set_|apply keep_drewN|apply keep_drew|apply keep_alloc)|exact HK.out)) hk (.inl rfl));have n1_:=Aside0.mk (hb);have n2_:=Aside0.mk (hi);clear HK;clear HB;clear HI0;have HK:=n0_;have HB:=n1_;have HI0:=n2_;clear n0_ n1_ n2_;(try clear hb);(try clear hb2);(try clear hk);(try clear hi)))
      go_ret
      exact ⟨by first|rfl|(simp [errW_none,errW_some]<;>rfl)|(simp [*,errW_none,errW_some]<;>rfl)|(simp [errW_none,errW_some];exact ⟨rfl,rfl⟩),by repeat (first|(with_reducible first|exact HI0.out|apply IsS60.alloc|apply IsS60.drewN|apply IsS60.drew|apply IsS60.set_1)|exact HI0.out),by repeat (first|(with_reducible first|exact HB.out|apply yA|apply yB|apply yC|refine yD ?_ (IsS60.ge HI0.out))|exact HB.out),by repeat (first|(with_reducible first|exact HK.out|apply KeepBut.set_|apply keep_drewN|apply keep_drew|apply keep_alloc)|exact HK.out)⟩
     ·rw [if_neg c18] at H
      exact absurd H (by simp)
    ·rw [if_neg c16] at H
     have c16b0:(t115 == 0)=false:=beq_eq_false_iff_ne.mpr c16
     have c16b1:(t115 != 0)=true:=bne_iff_ne.mpr c16
     by_cases c21:t115=1
     ·rw [if_pos c21] at H
      have c21b0:(t115 == 1)=true:=beq_iff_eq.mpr c21
      have c21b1:(t115 != 1)=false:=bne_eq_false_iff_eq.mpr c21
      clear c21
      obtain ⟨y119,hy119⟩:∃ y_:List ByteArray,y_=(([(⟨#[50]⟩:ByteArray),(⟨#[51]⟩:ByteArray),(⟨#[52]⟩:ByteArray),(⟨#[53]⟩:ByteArray)]:List ByteArray)):=⟨_,rfl⟩
      replace H:((spec_l6Rd_pick.f kj2 s0_0 t116 4).bind fun bt122=>(if 0≤bt122.1 then (if bt122.1<(y119.length:Int) then ((spec_l91Term.f kj2 s0_0 bt122.2 (wrap64 (a1 - 1))).bind fun bt125=>(if (rdOf ByteArray.empty y119 bt122.1).size+bt125.1.size≤9223372036854775807 then (some ((rdOf ByteArray.empty y119 bt122.1)++bt125.1,bt125.2)) else (none))) else (none)) else (none)))=some (r1,r2):=by first|(rw [hy119];with_reducible exact H)|(have H2_:=(Option.bind_some _ _).symm.trans H;rw [hy119];with_reducible exact H2_)|(have H2_:=(Option.bind_some _ _).symm.trans H;with_reducible exact H2_)|with_reducible exact H|(rw [hy119];exact H)|exact H
      have Ny119:=Aside0.mk hy119
      clear hy119
      replace H:=Option.bind_eq_some_iff.mp H
      obtain ⟨⟨t122,t123⟩,A220,H⟩:=H
      replace H:(if 0≤t122 then (if t122<(y119.length:Int) then ((spec_l91Term.f kj2 s0_0 t123 (wrap64 (a1 - 1))).bind fun bt125=>(if (rdOf ByteArray.empty y119 t122).size+bt125.1.size≤9223372036854775807 then (some ((rdOf ByteArray.empty y119 t122)++bt125.1,bt125.2)) else (none))) else (none)) else (none))=some (r1,r2):=H
      have A22:=Aside0.mk A220
      clear A220
      by_cases c23:0≤t122
      ·rw [if_pos c23] at H
       have c23b0:decide (0≤t122)=true:=decide_eq_true c23
       clear c23
       by_cases c24:t122<(y119.length:Int)
       ·rw [if_pos c24] at H
        have c24b0:decide (t122<(y119.length:Int))=true:=decide_eq_true c24
        clear c24
        replace H:=Option.bind_eq_some_iff.mp H
        obtain ⟨⟨t125,t126⟩,A250,H⟩:=H
        replace H:(if (rdOf ByteArray.empty y119 t122).size+t125.size≤9223372036854775807 then (some ((rdOf ByteArray.empty y119 t122)++t125,t126)) else (none))=some (r1,r2):=H
        have A25:=Aside0.mk A250
        clear A250
        by_cases c26:(rdOf ByteArray.empty y119 t122).size+t125.size≤9223372036854775807
        ·rw [if_pos c26] at H
         have c26b0:=eq_true c26
         have c26b1:decide ((rdOf ByteArray.empty y119 t122).size+t125.size≤9223372036854775807)=true:=decide_eq_true c26
         try have c26b2:(9223372036854775807<(rdOf ByteArray.empty y119 t122).size+t125.size)=False:=eq_false (Nat.not_lt.2 c26)
         simp only [Option.some.injEq,Prod.mk.injEq] at H
         obtain ⟨rfl,rfl⟩:=H
         try go_wp2_with (first|((with_reducible refine gate_callee (f:=32) rfl ?_);refine goesL_ (some 18) rfl rfl Try.func32 (by kernel_rfl) rfl #[.pointer (some ⟨g,0,none⟩),.int .i64 6] rfl (by (try simp only [List.map_toArray,List.map_cons,List.map_nil]);first|done|rfl|(simp only [List.length_drop,List.length_take];rfl)) ?_;(with_reducible refine (spec_l6Rd_pick.calls kj2 g s0_0 x1001_2 6 t115 t116 w0 _ ?side1 ?side2 A15.out).mono ?_);(case side1=>repeat (first|(with_reducible first|exact HI0.out|apply IsS60.alloc|apply IsS60.drewN|apply IsS60.drew|apply IsS60.set_1)|exact HI0.out));(case side2=>repeat (first|(with_reducible first|exact HB.out|apply yA|apply yB|apply yC|refine yD ?_ (IsS60.ge HI0.out))|exact HB.out));rintro e w27 ⟨rfl,hi,hb,hk⟩;refine ⟨_,rfl,?_⟩;have n0_:=Aside0.mk (KeepBut.trans (by repeat (first|(with_reducible first|exact HK.out|apply KeepBut.set_|apply keep_drewN|apply keep_drew|apply keep_alloc)|exact HK.out)) hk (.inl rfl));have n1_:=Aside0.mk (hb);have n2_:=Aside0.mk (hi);clear HK;clear HB;clear HI0;have HK:=n0_;have HB:=n1_;have HI0:=n2_;clear n0_ n1_ n2_;(try clear hb);(try clear hb2);(try clear hk);(try clear hi)))
         have pi124:(0≤(t122:Int))=True:=eq_true (of_decide_eq_true (by first|(with_reducible assumption)|assumption))
         have qi124:(t122<(y119.length:Int))=True:=eq_true (of_decide_eq_true (by first|(with_reducible assumption)|assumption))
         have n0_:=Aside0.mk (IsS60.drew HI0.out)
         have n1_:=Aside0.mk (keep_drew HK.out)
         have n2_:=Aside0.mk (yC HB.out)
         clear HI0
         clear HK
         clear HB
         have HI0:=n0_
         have HK:=n1_
         have HB:=n2_
         clear n0_ n1_ n2_
         refine start_ (n:=11) (S:=fun w'=>True) (ds:=[]) #[false,false,false,false,false,false,false,false,false,false,false] (by kernel_rfl) rfl rfl trivial (fun hHeld=>?_);refine with_tabW spec_l91Term.tab7 spec_l91Term.bits7 (fun HT_ HW_=>?_)
         generalize w27.drew=w28 at HI0 HK HB hHeld ⊢
         refine pure_ (i:=1) (N:=some 29) (v:=?_) (a':=?_) #[false,true,false,false,false,false,false,false,false,false,false] rfl rfl (any_of HT_.out (by kernel_rfl)) (fun _ _ _ h=>h) (Or.inl ⟨by rfl,?_⟩) ?_ ?_
         rotate_left
         ·intro w'
          go_simp
          with_reducible rfl
         rotate_left
         ·simp only [Act.put,yK,yL,yM,i64_w,i32_w]
          rfl
         refine pure_ (i:=5) (N:=some 33) (v:=?_) (a':=?_) #[false,true,false,false,false,true,false,false,false,false,false] rfl rfl (any_of HT_.out (by kernel_rfl)) (fun _ _ _ h=>h) (Or.inl ⟨by rfl,?_⟩) ?_ ?_
         rotate_left
         ·intro w'
          go_simp
          with_reducible rfl
         rotate_left
         ·simp only [Act.put,yK,yL,yM,i64_w,i32_w]
          rfl
         refine pure_ (i:=6) (N:=some 34) (v:=?_) (a':=?_) #[false,true,false,false,false,true,true,false,false,false,false] rfl rfl (any_of HT_.out (by kernel_rfl)) (fun _ _ _ h=>h) (Or.inl ⟨by rfl,?_⟩) ?_ ?_
         rotate_left
         ·intro w'
          go_simp
          with_reducible rfl
         rotate_left
         ·simp only [Act.put,yK,yL,yM,i64_w,i32_w]
          rfl
         refine inv_at [0,2,3,4,7,8,9,10] (fun a0_ b a w'=>∃ (v120:Value) (adz_v120:Addr) (m3_:Value),a=putSel a0_ b [(0,28,v120),(2,30,.int .i64 t122),(3,31,m3_),(4,32,.string (rdOf ByteArray.empty y119 t122)),(7,35,.int .i64 (wrap64 (a1 - 1))),(8,36,.string t125),(9,37,.string ((rdOf ByteArray.empty y119 t122)++t125)),(10,4,.string ((rdOf ByteArray.empty y119 t122)++t125))]∧(b 2=false→IsS60 w0 w' g s0_0 t116)∧(KeepBut w w' g none)∧(Below w0.heap.size w0 w')∧(b 0=true→Kd.R Kd.string 9 w' w.heap.size (fun _=>True) v120 y119)∧(b 0=true→∃ c_,(v120:Value)=.slice (some adz_v120) y119.length c_)∧(b 2=true→b 8=false→IsS60 w0 w' g s0_0 t123)∧(b 8=true→IsS60 w0 w' g s0_0 t126)∧(b 3=true→(m3_:Value)=.pointer (some (adz_v120.add (t122).toNat)))) HT_.out HW_.out (by kernel_rfl) (by kernel_rfl) ?_ ?_ ?_
         ·exact ⟨.bool false,⟨0,0,none⟩,.bool false,by simp only [putSel,Bool.false_eq_true,if_false],fun _=>HI0.out,HK.out,HB.out,fun h_=>absurd h_ (by decide),fun h_=>absurd h_ (by decide),fun h_=>absurd h_ (by decide),fun h_=>absurd h_ (by decide),fun h_=>absurd h_ (by decide)⟩
         ·skip
          clear HB HI0 HK
          refine steps_cons ?_ ?_
          ·rintro b a w' ⟨v120,adz_v120,m3_,ha,Q_HI0,Q_HK,Q_HB,Q_HO121,Q_HA_HO121,Q_HI0_e2,Q_HI0_e8,Q_X3_⟩ hb_ hon hoff
           refine ⟨_,rfl,fun K hK=>?_⟩
           replace ha:=Aside0.mk ha
           have HK:=Aside0.mk Q_HK
           have HB:=Aside0.mk Q_HB
           refine Kd.R_lit_step Kd.string _ 9 ?hg (N:=28) ?hd (xs:=([(⟨#[50]⟩:ByteArray),(⟨#[51]⟩:ByteArray),(⟨#[52]⟩:ByteArray),(⟨#[53]⟩:ByteArray)]:List ByteArray)) (inner:=[.string (⟨#[50]⟩:ByteArray),.string (⟨#[51]⟩:ByteArray),.string (⟨#[52]⟩:ByteArray),.string (⟨#[53]⟩:ByteArray)]) (ok:=fun _=>True) (okp:=fun _=>True) ?hr ?hp (fun _ hk=>hk) trivial (Below.refl _ _) (Nat.le_refl _) (by simp) ?_;(case hd=>rfl);(case hg=>rfl);(case hr=>first|(go_simp;done)|(go_simp;rfl));(case hp=>exact (Reps.one (show Kd.M Kd.string _ _ _ (⟨#[50]⟩:ByteArray) [.string (⟨#[50]⟩:ByteArray)] from rfl) (Reps.one (show Kd.M Kd.string _ _ _ (⟨#[51]⟩:ByteArray) [.string (⟨#[51]⟩:ByteArray)] from rfl) (Reps.one (show Kd.M Kd.string _ _ _ (⟨#[52]⟩:ByteArray) [.string (⟨#[52]⟩:ByteArray)] from rfl) (Reps.one (show Kd.M Kd.string _ _ _ (⟨#[53]⟩:ByteArray) [.string (⟨#[53]⟩:ByteArray)] from rfl) (Reps.none _ _))))))
           intro v120 w29 ho30 hb hg_ hnew_
           clear hg_ hnew_
           (first|rw [← Ny119.out] at ho30|(simp only [Int.reduceToNat] at ho30;rw [← Ny119.out] at ho30))
           have n0_:=Aside0.mk (Kd.R_lower ho30 (keep_size (w:=w) (g:=g) (row:=none) (by repeat (first|(with_reducible first|exact HK.out|apply KeepBut.set_|apply keep_drewN|apply keep_drew|apply keep_alloc)|exact HK.out))))
           have n2_:=Aside0.mk (KeepBut.trans (by repeat (first|(with_reducible first|exact HK.out|apply KeepBut.set_|apply keep_drewN|apply keep_drew|apply keep_alloc)|exact HK.out)) (KeepBut.of_below hb g none) (.inl rfl))
           have n3_:=Aside0.mk (yP (by repeat (first|(with_reducible first|exact HB.out|apply yA|apply yB|apply yC)|exact HB.out)) hb)
           have z_HI0:=fun (h0_:b 2=false)=>(show IsS60 w0 w29 g s0_0 t116 from by first|exact (IsS60.below (by repeat (first|(with_reducible first|exact (Q_HI0 h0_)|apply IsS60.alloc|apply IsS60.drewN|apply IsS60.drew|apply IsS60.set_1)|exact (Q_HI0 h0_))) hb))
           have z_HI0_e2:=fun (h0_:b 2=true) (h1_:b 8=false)=>(show IsS60 w0 w29 g s0_0 t123 from by first|exact (IsS60.below (by repeat (first|(with_reducible first|exact (Q_HI0_e2 h0_ h1_)|apply IsS60.alloc|apply IsS60.drewN|apply IsS60.drew|apply IsS60.set_1)|exact (Q_HI0_e2 h0_ h1_))) hb))
           have z_HI0_e8:=fun (h0_:b 8=true)=>(show IsS60 w0 w29 g s0_0 t126 from by first|exact (IsS60.below (by repeat (first|(with_reducible first|exact (Q_HI0_e8 h0_)|apply IsS60.alloc|apply IsS60.drewN|apply IsS60.drew|apply IsS60.set_1)|exact (Q_HI0_e8 h0_))) hb))
           clear HK
           clear HB
           have HO121:=n0_
           have HK:=n2_
           have HB:=n3_
           clear n0_ n2_ n3_
           clear hb ho30
           obtain ⟨Ao31,co31,eo31⟩:=Kd.R_slice HO121.out
           subst eo31
           obtain ⟨ado31,fo31,_⟩:=Kd.at_string (Kd.R_reads' HO121.out).2.2 0 (by decide) (by rw [Ny119.out];simp)
           cases fo31
           refine hK.out _ _ ⟨.slice (some ado31) y119.length co31,ado31,m3_,(by rw [ha.out];exact putSel_upk 0 hb_ rfl rfl rfl),z_HI0,(by repeat (first|(with_reducible first|exact HK.out|apply KeepBut.set_|apply keep_drewN|apply keep_drew|apply keep_alloc)|exact HK.out)),(by repeat (first|(with_reducible first|exact HB.out|apply yA|apply yB|apply yC)|exact HB.out)),fun _=>(by (with_reducible repeat (first|apply yH|apply yI|apply yJ));exact HO121.out),fun _=>⟨_,rfl⟩,z_HI0_e2,z_HI0_e8,fun h0_=>absurd ((hoff 3 (by kernel_rfl)).symm.trans h0_) (by decide)⟩
          refine steps_cons ?_ ?_
          ·rintro b a w' ⟨v120,adz_v120,m3_,ha,Q_HI0,Q_HK,Q_HB,Q_HO121,Q_HA_HO121,Q_HI0_e2,Q_HI0_e8,Q_X3_⟩ hb_ hon hoff
           refine ⟨_,rfl,fun K hK=>?_⟩
           have e29:a.tmps[29]?=some (.pointer (some ⟨g,0,none⟩)):=by rw [ha];exact (putSel_off rfl).trans rfl
           replace ha:=Aside0.mk ha
           have HI0:=Aside0.mk (Q_HI0 hb_)
           have HK:=Aside0.mk Q_HK
           have HB:=Aside0.mk Q_HB
           refine goes_ Try.func32 (by kernel_rfl) rfl #[.pointer (some ⟨g,0,none⟩),.int .i64 4] (by rfl) rfl rfl (by first|(simp only [List.map_toArray,List.map_cons,List.map_nil,Act.eval,Array.getD_eq_getD_getElem?,Option.getD_some,e29];done)|(simp only [List.map_toArray,List.map_cons,List.map_nil,Act.eval,Array.getD_eq_getD_getElem?,Option.getD_some,e29];rfl)) ?_
           with_reducible refine (spec_l6Rd_pick.calls kj2 g s0_0 t116 4 t122 t123 w0 _ ?side1 ?side2 A22.out).mono ?_
           (case side1=>repeat (first|(with_reducible first|exact HI0.out|apply IsS60.alloc|apply IsS60.drewN|apply IsS60.drew|apply IsS60.set_1)|exact HI0.out))
           (case side2=>repeat (first|(with_reducible first|exact HB.out|apply yA|apply yB|apply yC|refine yD ?_ (IsS60.ge HI0.out))|exact HB.out))
           rintro e w29 ⟨rfl,hi,hb,hk⟩
           refine ⟨_,rfl,?_⟩
           have n0_:=Aside0.mk (KeepBut.trans (by repeat (first|(with_reducible first|exact HK.out|apply KeepBut.set_|apply keep_drewN|apply keep_drew|apply keep_alloc)|exact HK.out)) hk (.inl rfl))
           have n1_:=Aside0.mk (hb)
           have n2_:=Aside0.mk (hi)
           have z_HO121:=fun (h0_:b 0=true)=>(show Kd.R Kd.string 9 w29 w.heap.size (fun _=>True) v120 y119 from by first|exact (Kd.R_mono (Kd.R_keep (IsS60.apart (show IsS60 w0 _ g s0_0 t116 from by repeat (first|(with_reducible first|exact HI0.out|apply IsS60.alloc|apply IsS60.drewN|apply IsS60.drew|apply IsS60.set_1)|exact HI0.out)) (by (with_reducible repeat (first|apply yH|apply yI|apply yJ));exact (Q_HO121 h0_)) (by decide)) hk (fun _ h=>h.2)) (fun _ h=>h.1))|exact Kd.R_mono (Kd.R_mono (Kd.R_keep (IsS60.apart (show IsS60 w0 _ g s0_0 t116 from by repeat (first|(with_reducible first|exact HI0.out|apply IsS60.alloc|apply IsS60.drewN|apply IsS60.drew|apply IsS60.set_1)|exact HI0.out)) (by (with_reducible repeat (first|apply yH|apply yI|apply yJ));exact (Q_HO121 h0_)) (by decide)) hk (fun _ h=>h.2)) (fun _ h=>h.1)) (fun _ h_=>by first|trivial|exact h_|exact h_.1))
           clear HK
           clear HB
           clear HI0
           have HK:=n0_
           have HB:=n1_
           have HI0:=n2_
           clear n0_ n1_ n2_
           (try clear hb)
           (try clear hb2)
           (try clear hk)
           (try clear hi)
           refine hK.out _ _ ⟨v120,adz_v120,m3_,(by rw [ha.out];exact putSel_upk 1 hb_ rfl rfl rfl),fun h0_=>absurd ((up_self b 2).symm.trans h0_) (by decide),(by repeat (first|(with_reducible first|exact HK.out|apply KeepBut.set_|apply keep_drewN|apply keep_drew|apply keep_alloc)|exact HK.out)),(by repeat (first|(with_reducible first|exact HB.out|apply yA|apply yB|apply yC|refine yD ?_ (IsS60.ge HI0.out))|exact HB.out)),z_HO121,Q_HA_HO121,fun _ _=>(by repeat (first|(with_reducible first|exact HI0.out|apply IsS60.alloc|apply IsS60.drewN|apply IsS60.drew|apply IsS60.set_1)|exact HI0.out)),fun h0_=>absurd ((hoff 8 (by kernel_rfl)).symm.trans h0_) (by decide),fun h0_=>absurd ((hoff 3 (by kernel_rfl)).symm.trans h0_) (by decide)⟩
          refine steps_cons ?_ ?_
          ·rintro b a w' ⟨v120,adz_v120,m3_,ha,Q_HI0,Q_HK,Q_HB,Q_HO121,Q_HA_HO121,Q_HI0_e2,Q_HI0_e8,Q_X3_⟩ hb_ hon hoff
           refine ⟨_,rfl,fun K hK=>?_⟩
           have e28:a.tmps[28]?=some (v120):=by rw [ha];exact putSel_on (e:=(0,28,v120)) 0 rfl rfl (hon 0 (by kernel_rfl)) rfl
           have e30:a.tmps[30]?=some (.int .i64 t122):=by rw [ha];exact putSel_on (e:=(2,30,.int .i64 t122)) 1 rfl rfl (hon 2 (by kernel_rfl)) rfl
           replace ha:=Aside0.mk ha
           have HK:=Aside0.mk Q_HK
           have HB:=Aside0.mk Q_HB
           have HO121:=Aside0.mk (Q_HO121 (hon 0 (by kernel_rfl)))
           have HA_HO121:=Aside0.mk (Q_HA_HO121 (hon 0 (by kernel_rfl)))
           obtain ⟨c_,hv_⟩:=HA_HO121.out
           rw [hv_] at e28
           refine value_ (w1:=w') (v:=.pointer (some (adz_v120.add (t122).toNat))) (by rfl) rfl ?_ ?_
           ·go_simp
            (try simp only [i64_w])
            try rfl
           refine hK.out _ _ ⟨v120,adz_v120,(.pointer (some (adz_v120.add (t122).toNat))),(by rw [ha.out];exact putSel_upk 2 hb_ rfl rfl rfl),fun h0_=>absurd ((hon 2 (by kernel_rfl)).symm.trans h0_) (by decide),Q_HK,Q_HB,Q_HO121,Q_HA_HO121,Q_HI0_e2,Q_HI0_e8,fun _=>rfl⟩
          refine steps_cons ?_ ?_
          ·rintro b a w' ⟨v120,adz_v120,m3_,ha,Q_HI0,Q_HK,Q_HB,Q_HO121,Q_HA_HO121,Q_HI0_e2,Q_HI0_e8,Q_X3_⟩ hb_ hon hoff
           refine ⟨_,rfl,fun K hK=>?_⟩
           have e31:a.tmps[31]?=some (m3_):=by rw [ha];exact putSel_on (e:=(3,31,m3_)) 2 rfl rfl (hon 3 (by kernel_rfl)) rfl
           rw [Q_X3_ (hon 3 (by kernel_rfl))] at e31
           replace ha:=Aside0.mk ha
           have HK:=Aside0.mk Q_HK
           have HB:=Aside0.mk Q_HB
           have HO121:=Aside0.mk (Q_HO121 (hon 0 (by kernel_rfl)))
           have HA_HO121:=Aside0.mk (Q_HA_HO121 (hon 0 (by kernel_rfl)))
           obtain ⟨c_,hv_⟩:=HA_HO121.out
           have hF_:=HO121.out
           rw [hv_] at hF_
           obtain ⟨ad_,ea_,hx_⟩:=Kd.at_string (Kd.R_reads' hF_).2.2 t122 (of_eq_true pi124) (of_eq_true qi124)
           cases ea_
           refine value_ (w1:=w') (v:=.string (rdOf ByteArray.empty y119 t122)) (by rfl) rfl ?_ ?_
           ·go_simp
            (try simp only [i64_w])
            try rfl
           refine hK.out _ _ ⟨v120,adz_v120,m3_,(by rw [ha.out];exact putSel_upk 3 hb_ rfl rfl rfl),fun h0_=>absurd ((hon 2 (by kernel_rfl)).symm.trans h0_) (by decide),Q_HK,Q_HB,Q_HO121,Q_HA_HO121,Q_HI0_e2,Q_HI0_e8,Q_X3_⟩
          refine steps_cons ?_ ?_
          ·rintro b a w' ⟨v120,adz_v120,m3_,ha,Q_HI0,Q_HK,Q_HB,Q_HO121,Q_HA_HO121,Q_HI0_e2,Q_HI0_e8,Q_X3_⟩ hb_ hon hoff
           refine ⟨_,rfl,fun K hK=>?_⟩
           have e34:a.tmps[34]?=some (.int .i64 a1):=by rw [ha];exact (putSel_off rfl).trans rfl
           replace ha:=Aside0.mk ha
           have HK:=Aside0.mk Q_HK
           have HB:=Aside0.mk Q_HB
           refine value_ (w1:=w') (v:=.int .i64 (wrap64 (a1 - 1))) (by rfl) rfl ?_ ?_
           ·go_simp
            (try simp only [i64_w])
            try rfl
           refine hK.out _ _ ⟨v120,adz_v120,m3_,(by rw [ha.out];exact putSel_upk 4 hb_ rfl rfl rfl),Q_HI0,Q_HK,Q_HB,Q_HO121,Q_HA_HO121,Q_HI0_e2,fun h0_=>absurd ((hoff 8 (by kernel_rfl)).symm.trans h0_) (by decide),Q_X3_⟩
          refine steps_cons ?_ ?_
          ·rintro b a w' ⟨v120,adz_v120,m3_,ha,Q_HI0,Q_HK,Q_HB,Q_HO121,Q_HA_HO121,Q_HI0_e2,Q_HI0_e8,Q_X3_⟩ hb_ hon hoff
           refine ⟨_,rfl,fun K hK=>?_⟩
           have e33:a.tmps[33]?=some (.pointer (some ⟨g,0,none⟩)):=by rw [ha];exact (putSel_off rfl).trans rfl
           have e35:a.tmps[35]?=some (.int .i64 (wrap64 (a1 - 1))):=by rw [ha];exact putSel_on (e:=(7,35,.int .i64 (wrap64 (a1 - 1)))) 4 rfl rfl (hon 7 (by kernel_rfl)) rfl
           replace ha:=Aside0.mk ha
           have HK:=Aside0.mk Q_HK
           have HB:=Aside0.mk Q_HB
           have HI0:=Aside0.mk (Q_HI0_e2 (hon 2 (by kernel_rfl)) hb_)
           refine goes_ Try.func39 (by kernel_rfl) rfl #[.pointer (some ⟨g,0,none⟩),.int .i64 (wrap64 (a1 - 1))] (by rfl) rfl rfl (by first|(simp only [List.map_toArray,List.map_cons,List.map_nil,Act.eval,Array.getD_eq_getD_getElem?,Option.getD_some,e33,e35];done)|(simp only [List.map_toArray,List.map_cons,List.map_nil,Act.eval,Array.getD_eq_getD_getElem?,Option.getD_some,e33,e35];rfl)) ?_
           with_reducible refine (ih kj2 (by have:=HJ2.out;omega) g s0_0 t123 (wrap64 (a1 - 1)) t125 t126 w0 _ ?side1 ?side2 A25.out).mono ?_
           (case side1=>repeat (first|(with_reducible first|exact HI0.out|apply IsS60.alloc|apply IsS60.drewN|apply IsS60.drew|apply IsS60.set_1)|exact HI0.out))
           (case side2=>repeat (first|(with_reducible first|exact HB.out|apply yA|apply yB|apply yC|refine yD ?_ (IsS60.ge HI0.out))|exact HB.out))
           rintro e w31 ⟨rfl,hi,hb,hk⟩
           refine ⟨_,rfl,?_⟩
           have n0_:=Aside0.mk (KeepBut.trans (by repeat (first|(with_reducible first|exact HK.out|apply KeepBut.set_|apply keep_drewN|apply keep_drew|apply keep_alloc)|exact HK.out)) hk (.inl rfl))
           have n1_:=Aside0.mk (hb)
           have n2_:=Aside0.mk (hi)
           have z_HO121:=fun (h0_:b 0=true)=>(show Kd.R Kd.string 9 w31 w.heap.size (fun _=>True) v120 y119 from by first|exact (Kd.R_mono (Kd.R_keep (IsS60.apart (show IsS60 w0 _ g s0_0 t123 from by repeat (first|(with_reducible first|exact HI0.out|apply IsS60.alloc|apply IsS60.drewN|apply IsS60.drew|apply IsS60.set_1)|exact HI0.out)) (by (with_reducible repeat (first|apply yH|apply yI|apply yJ));exact (Q_HO121 h0_)) (by decide)) hk (fun _ h=>h.2)) (fun _ h=>h.1))|exact Kd.R_mono (Kd.R_mono (Kd.R_keep (IsS60.apart (show IsS60 w0 _ g s0_0 t123 from by repeat (first|(with_reducible first|exact HI0.out|apply IsS60.alloc|apply IsS60.drewN|apply IsS60.drew|apply IsS60.set_1)|exact HI0.out)) (by (with_reducible repeat (first|apply yH|apply yI|apply yJ));exact (Q_HO121 h0_)) (by decide)) hk (fun _ h=>h.2)) (fun _ h=>h.1)) (fun _ h_=>by first|trivial|exact h_|exact h_.1))
           clear HK
           clear HB
           clear HI0
           have HK:=n0_
           have HB:=n1_
           have HI0:=n2_
           clear n0_ n1_ n2_
           (try clear hb)
           (try clear hb2)
           (try clear hk)
           (try clear hi)
           refine hK.out _ _ ⟨v120,adz_v120,m3_,(by rw [ha.out];exact putSel_upk 5 hb_ rfl rfl rfl),fun h0_=>absurd ((hon 2 (by kernel_rfl)).symm.trans h0_) (by decide),(by repeat (first|(with_reducible first|exact HK.out|apply KeepBut.set_|apply keep_drewN|apply keep_drew|apply keep_alloc)|exact HK.out)),(by repeat (first|(with_reducible first|exact HB.out|apply yA|apply yB|apply yC|refine yD ?_ (IsS60.ge HI0.out))|exact HB.out)),z_HO121,Q_HA_HO121,fun _ h1_=>absurd ((up_self b 8).symm.trans h1_) (by decide),fun _=>(by repeat (first|(with_reducible first|exact HI0.out|apply IsS60.alloc|apply IsS60.drewN|apply IsS60.drew|apply IsS60.set_1)|exact HI0.out)),Q_X3_⟩
          refine steps_cons ?_ ?_
          ·rintro b a w' ⟨v120,adz_v120,m3_,ha,Q_HI0,Q_HK,Q_HB,Q_HO121,Q_HA_HO121,Q_HI0_e2,Q_HI0_e8,Q_X3_⟩ hb_ hon hoff
           refine ⟨_,rfl,fun K hK=>?_⟩
           have e32:a.tmps[32]?=some (.string (rdOf ByteArray.empty y119 t122)):=by rw [ha];exact putSel_on (e:=(4,32,.string (rdOf ByteArray.empty y119 t122))) 3 rfl rfl (hon 4 (by kernel_rfl)) rfl
           have e36:a.tmps[36]?=some (.string t125):=by rw [ha];exact putSel_on (e:=(8,36,.string t125)) 5 rfl rfl (hon 8 (by kernel_rfl)) rfl
           replace ha:=Aside0.mk ha
           have HK:=Aside0.mk Q_HK
           have HB:=Aside0.mk Q_HB
           have HO121:=Aside0.mk (Q_HO121 (hon 0 (by kernel_rfl)))
           have HA_HO121:=Aside0.mk (Q_HA_HO121 (hon 0 (by kernel_rfl)))
           have HI0:=Aside0.mk (Q_HI0_e8 (hon 8 (by kernel_rfl)))
           refine value_ (w1:=w') (v:=.string ((rdOf ByteArray.empty y119 t122)++t125)) (by rfl) rfl ?_ ?_
           ·go_simp
            (try simp only [i64_w])
            try rfl
           refine hK.out _ _ ⟨v120,adz_v120,m3_,(by rw [ha.out];exact putSel_upk 6 hb_ rfl rfl rfl),fun h0_=>absurd ((hon 2 (by kernel_rfl)).symm.trans h0_) (by decide),Q_HK,Q_HB,Q_HO121,Q_HA_HO121,fun _ h1_=>absurd ((hon 8 (by kernel_rfl)).symm.trans h1_) (by decide),Q_HI0_e8,Q_X3_⟩
          refine steps_cons ?_ ?_
          ·rintro b a w' ⟨v120,adz_v120,m3_,ha,Q_HI0,Q_HK,Q_HB,Q_HO121,Q_HA_HO121,Q_HI0_e2,Q_HI0_e8,Q_X3_⟩ hb_ hon hoff
           refine ⟨_,rfl,fun K hK=>?_⟩
           have e37:a.tmps[37]?=some (.string ((rdOf ByteArray.empty y119 t122)++t125)):=by rw [ha];exact putSel_on (e:=(9,37,.string ((rdOf ByteArray.empty y119 t122)++t125))) 6 rfl rfl (hon 9 (by kernel_rfl)) rfl
           replace ha:=Aside0.mk ha
           have HK:=Aside0.mk Q_HK
           have HB:=Aside0.mk Q_HB
           have HO121:=Aside0.mk (Q_HO121 (hon 0 (by kernel_rfl)))
           have HA_HO121:=Aside0.mk (Q_HA_HO121 (hon 0 (by kernel_rfl)))
           have HI0:=Aside0.mk (Q_HI0_e8 (hon 8 (by kernel_rfl)))
           refine value_ (w1:=w') (v:=.string ((rdOf ByteArray.empty y119 t122)++t125)) (by rfl) rfl ?_ ?_
           ·go_simp
            (try simp only [i64_w])
            try rfl
           refine hK.out _ _ ⟨v120,adz_v120,m3_,(by rw [ha.out];exact putSel_upk 7 hb_ rfl rfl rfl),fun h0_=>absurd ((hon 2 (by kernel_rfl)).symm.trans h0_) (by decide),Q_HK,Q_HB,Q_HO121,Q_HA_HO121,fun _ h1_=>absurd ((hon 8 (by kernel_rfl)).symm.trans h1_) (by decide),Q_HI0_e8,Q_X3_⟩
          exact steps_nil
         rintro b a w34 hall ⟨v120,adz_v120,m3_,ha,Q_HI0,Q_HK,Q_HB,Q_HO121,Q_HA_HO121,Q_HI0_e2,Q_HI0_e8,Q_X3_⟩
         clear HB HI0 HK
         have hb0_:=hall 0 (by kernel_rfl)
         have hb2_:=hall 2 (by kernel_rfl)
         have hb3_:=hall 3 (by kernel_rfl)
         have hb4_:=hall 4 (by kernel_rfl)
         have hb7_:=hall 7 (by kernel_rfl)
         have hb8_:=hall 8 (by kernel_rfl)
         have hb9_:=hall 9 (by kernel_rfl)
         have hb10_:=hall 10 (by kernel_rfl)
         subst ha
         obtain rfl:=Q_X3_ hb3_
         simp only [putSel,hb0_,hb2_,hb3_,hb4_,hb7_,hb8_,hb9_,hb10_,if_true,Act.put,yK,yL,yM]
         clear Q_HI0
         have HK:=Aside0.mk Q_HK
         clear Q_HK
         have HB:=Aside0.mk Q_HB
         clear Q_HB
         have HO121:=Aside0.mk (Q_HO121 hb0_)
         clear Q_HO121
         have HA_HO121:=Aside0.mk (Q_HA_HO121 hb0_)
         clear Q_HA_HO121
         clear Q_HI0_e2
         have HI0:=Aside0.mk (Q_HI0_e8 hb8_)
         clear Q_HI0_e8
         clear hall hb0_ hb2_ hb3_ hb4_ hb7_ hb8_ hb9_ hb10_
         obtain ⟨co35,eo35⟩:=HA_HO121.out
         clear HA_HO121
         subst eo35
         try go_wp2
         go_ret
         exact ⟨by first|rfl|(simp [errW_none,errW_some]<;>rfl)|(simp [*,errW_none,errW_some]<;>rfl)|(simp [errW_none,errW_some];exact ⟨rfl,rfl⟩),by repeat (first|(with_reducible first|exact HI0.out|apply IsS60.alloc|apply IsS60.drewN|apply IsS60.drew|apply IsS60.set_1)|exact HI0.out),by repeat (first|(with_reducible first|exact HB.out|apply yA|apply yB|apply yC|refine yD ?_ (IsS60.ge HI0.out))|exact HB.out),by repeat (first|(with_reducible first|exact HK.out|apply KeepBut.set_|apply keep_drewN|apply keep_drew|apply keep_alloc)|exact HK.out)⟩
        ·rw [if_neg c26] at H
         exact absurd H (by simp)
       ·rw [if_neg c24] at H
        exact absurd H (by simp)
      ·rw [if_neg c23] at H
       exact absurd H (by simp)
     ·rw [if_neg c21] at H
      have c21b0:(t115 == 1)=false:=beq_eq_false_iff_ne.mpr c21
      have c21b1:(t115 != 1)=true:=bne_iff_ne.mpr c21
      replace H:=Option.bind_eq_some_iff.mp H
      obtain ⟨⟨t127,t128⟩,A360,H⟩:=H
      replace H:(if 1+t127.size≤9223372036854775807 then ((some (([(⟨#[43]⟩:ByteArray),(⟨#[43]⟩:ByteArray),(⟨#[46]⟩:ByteArray),(⟨#[38]⟩:ByteArray)]:List ByteArray):List ByteArray)).bind fun y129=>((spec_l6Rd_pick.f kj2 s0_0 t128 4).bind fun bt132=>(if 0≤bt132.1 then (if bt132.1<(y129.length:Int) then (if 1+t127.size+(rdOf ByteArray.empty y129 bt132.1).size≤9223372036854775807 then ((spec_l91Term.f kj2 s0_0 bt132.2 (wrap64 (a1 - 1))).bind fun bt135=>(if 1+t127.size+(rdOf ByteArray.empty y129 bt132.1).size+bt135.1.size≤9223372036854775807 then (if 1+t127.size+(rdOf ByteArray.empty y129 bt132.1).size+bt135.1.size+1≤9223372036854775807 then (some (((((⟨#[40]⟩:ByteArray)++t127)++(rdOf ByteArray.empty y129 bt132.1))++bt135.1)++(⟨#[41]⟩:ByteArray),bt135.2)) else (none)) else (none))) else (none)) else (none)) else (none)))) else (none))=some (r1,r2):=H
      have A36:=Aside0.mk A360
      clear A360
      by_cases c37:1+t127.size≤9223372036854775807
      ·rw [if_pos c37] at H
       have c37b0:=eq_true c37
       have c37b1:decide (1+t127.size≤9223372036854775807)=true:=decide_eq_true c37
       try have c37b2:(9223372036854775807<1+t127.size)=False:=eq_false (Nat.not_lt.2 c37)
       obtain ⟨y129,hy129⟩:∃ y_:List ByteArray,y_=(([(⟨#[43]⟩:ByteArray),(⟨#[43]⟩:ByteArray),(⟨#[46]⟩:ByteArray),(⟨#[38]⟩:ByteArray)]:List ByteArray)):=⟨_,rfl⟩
       replace H:((spec_l6Rd_pick.f kj2 s0_0 t128 4).bind fun bt132=>(if 0≤bt132.1 then (if bt132.1<(y129.length:Int) then (if 1+t127.size+(rdOf ByteArray.empty y129 bt132.1).size≤9223372036854775807 then ((spec_l91Term.f kj2 s0_0 bt132.2 (wrap64 (a1 - 1))).bind fun bt135=>(if 1+t127.size+(rdOf ByteArray.empty y129 bt132.1).size+bt135.1.size≤9223372036854775807 then (if 1+t127.size+(rdOf ByteArray.empty y129 bt132.1).size+bt135.1.size+1≤9223372036854775807 then (some (((((⟨#[40]⟩:ByteArray)++t127)++(rdOf ByteArray.empty y129 bt132.1))++bt135.1)++(⟨#[41]⟩:ByteArray),bt135.2)) else (none)) else (none))) else (none)) else (none)) else (none)))=some (r1,r2):=by first|(rw [hy129];with_reducible exact H)|(have H2_:=(Option.bind_some _ _).symm.trans H;rw [hy129];with_reducible exact H2_)|(have H2_:=(Option.bind_some _ _).symm.trans H;with_reducible exact H2_)|with_reducible exact H|(rw [hy129];exact H)|exact H
       have Ny129:=Aside0.mk hy129
       clear hy129
       replace H:=Option.bind_eq_some_iff.mp H
       obtain ⟨⟨t132,t133⟩,A380,H⟩:=H
       replace H:(if 0≤t132 then (if t132<(y129.length:Int) then (if 1+t127.size+(rdOf ByteArray.empty y129 t132).size≤9223372036854775807 then ((spec_l91Term.f kj2 s0_0 t133 (wrap64 (a1 - 1))).bind fun bt135=>(if 1+t127.size+(rdOf ByteArray.empty y129 t132).size+bt135.1.size≤9223372036854775807 then (if 1+t127.size+(rdOf ByteArray.empty y129 t132).size+bt135.1.size+1≤9223372036854775807 then (some (((((⟨#[40]⟩:ByteArray)++t127)++(rdOf ByteArray.empty y129 t132))++bt135.1)++(⟨#[41]⟩:ByteArray),bt135.2)) else (none)) else (none))) else (none)) else (none)) else (none))=some (r1,r2):=H
       have A38:=Aside0.mk A380
       clear A380
       by_cases c39:0≤t132
       ·rw [if_pos c39] at H
        have c39b0:decide (0≤t132)=true:=decide_eq_true c39
        clear c39
        by_cases c40:t132<(y129.length:Int)
        ·rw [if_pos c40] at H
         have c40b0:decide (t132<(y129.length:Int))=true:=decide_eq_true c40
         clear c40
         by_cases c41:1+t127.size+(rdOf ByteArray.empty y129 t132).size≤9223372036854775807
         ·rw [if_pos c41] at H
          have c41b0:=eq_true c41
          have c41b1:decide (1+t127.size+(rdOf ByteArray.empty y129 t132).size≤9223372036854775807)=true:=decide_eq_true c41
          try have c41b2:(9223372036854775807<1+t127.size+(rdOf ByteArray.empty y129 t132).size)=False:=eq_false (Nat.not_lt.2 c41)
          replace H:=Option.bind_eq_some_iff.mp H
          obtain ⟨⟨t135,t136⟩,A420,H⟩:=H
          replace H:(if 1+t127.size+(rdOf ByteArray.empty y129 t132).size+t135.size≤9223372036854775807 then (if 1+t127.size+(rdOf ByteArray.empty y129 t132).size+t135.size+1≤9223372036854775807 then (some (((((⟨#[40]⟩:ByteArray)++t127)++(rdOf ByteArray.empty y129 t132))++t135)++(⟨#[41]⟩:ByteArray),t136)) else (none)) else (none))=some (r1,r2):=H
          have A42:=Aside0.mk A420
          clear A420
          by_cases c43:1+t127.size+(rdOf ByteArray.empty y129 t132).size+t135.size≤9223372036854775807
          ·rw [if_pos c43] at H
           have c43b0:=eq_true c43
           have c43b1:decide (1+t127.size+(rdOf ByteArray.empty y129 t132).size+t135.size≤9223372036854775807)=true:=decide_eq_true c43
           try have c43b2:(9223372036854775807<1+t127.size+(rdOf ByteArray.empty y129 t132).size+t135.size)=False:=eq_false (Nat.not_lt.2 c43)
           by_cases c44:1+t127.size+(rdOf ByteArray.empty y129 t132).size+t135.size+1≤9223372036854775807
           ·rw [if_pos c44] at H
            have c44b0:=eq_true c44
            have c44b1:decide (1+t127.size+(rdOf ByteArray.empty y129 t132).size+t135.size+1≤9223372036854775807)=true:=decide_eq_true c44
            try have c44b2:(9223372036854775807<1+t127.size+(rdOf ByteArray.empty y129 t132).size+t135.size+1)=False:=eq_false (Nat.not_lt.2 c44)
            simp only [Option.some.injEq,Prod.mk.injEq] at H
            obtain ⟨rfl,rfl⟩:=H
            try go_wp2_with (first|((with_reducible refine gate_callee (f:=32) rfl ?_);refine goesL_ (some 18) rfl rfl Try.func32 (by kernel_rfl) rfl #[.pointer (some ⟨g,0,none⟩),.int .i64 6] rfl (by (try simp only [List.map_toArray,List.map_cons,List.map_nil]);first|done|rfl|(simp only [List.length_drop,List.length_take];rfl)) ?_;(with_reducible refine (spec_l6Rd_pick.calls kj2 g s0_0 x1001_2 6 t115 t116 w0 _ ?side1 ?side2 A15.out).mono ?_);(case side1=>repeat (first|(with_reducible first|exact HI0.out|apply IsS60.alloc|apply IsS60.drewN|apply IsS60.drew|apply IsS60.set_1)|exact HI0.out));(case side2=>repeat (first|(with_reducible first|exact HB.out|apply yA|apply yB|apply yC|refine yD ?_ (IsS60.ge HI0.out))|exact HB.out));rintro e w45 ⟨rfl,hi,hb,hk⟩;refine ⟨_,rfl,?_⟩;have n0_:=Aside0.mk (KeepBut.trans (by repeat (first|(with_reducible first|exact HK.out|apply KeepBut.set_|apply keep_drewN|apply keep_drew|apply keep_alloc)|exact HK.out)) hk (.inl rfl));have n1_:=Aside0.mk (hb);have n2_:=Aside0.mk (hi);clear HK;clear HB;clear HI0;have HK:=n0_;have HB:=n1_;have HI0:=n2_;clear n0_ n1_ n2_;(try clear hb);(try clear hb2);(try clear hk);(try clear hi)))
            have pi134:(0≤(t132:Int))=True:=eq_true (of_decide_eq_true (by first|(with_reducible assumption)|assumption))
            have qi134:(t132<(y129.length:Int))=True:=eq_true (of_decide_eq_true (by first|(with_reducible assumption)|assumption))
            have n0_:=Aside0.mk (IsS60.drew HI0.out)
            have n1_:=Aside0.mk (keep_drew HK.out)
            have n2_:=Aside0.mk (yC HB.out)
            clear HI0
            clear HK
            clear HB
            have HI0:=n0_
            have HK:=n1_
            have HB:=n2_
            clear n0_ n1_ n2_
            refine start_ (n:=18) (S:=fun w'=>True) (ds:=[]) #[false,false,false,false,false,false,false,false,false,false,false,false,false,false,false,false,false,false] (by kernel_rfl) rfl rfl trivial (fun hHeld=>?_);refine with_tabW spec_l91Term.tab8 spec_l91Term.bits8 (fun HT_ HW_=>?_)
            generalize w45.drew=w46 at HI0 HK HB hHeld ⊢
            refine pure_ (i:=0) (N:=some 38) (v:=?_) (a':=?_) #[true,false,false,false,false,false,false,false,false,false,false,false,false,false,false,false,false,false] rfl rfl (any_of HT_.out (by kernel_rfl)) (fun _ _ _ h=>h) (Or.inl ⟨by rfl,?_⟩) ?_ ?_
            rotate_left
            ·intro w'
             go_simp
             with_reducible rfl
            rotate_left
            ·simp only [Act.put,yK,yL,yM,i64_w,i32_w]
             rfl
            refine pure_ (i:=1) (N:=some 39) (v:=?_) (a':=?_) #[true,true,false,false,false,false,false,false,false,false,false,false,false,false,false,false,false,false] rfl rfl (any_of HT_.out (by kernel_rfl)) (fun _ _ _ h=>h) (Or.inl ⟨by rfl,?_⟩) ?_ ?_
            rotate_left
            ·intro w'
             go_simp
             with_reducible rfl
            rotate_left
            ·simp only [Act.put,yK,yL,yM,i64_w,i32_w]
             rfl
            refine pure_ (i:=6) (N:=some 44) (v:=?_) (a':=?_) #[true,true,false,false,false,false,true,false,false,false,false,false,false,false,false,false,false,false] rfl rfl (any_of HT_.out (by kernel_rfl)) (fun _ _ _ h=>h) (Or.inl ⟨by rfl,?_⟩) ?_ ?_
            rotate_left
            ·intro w'
             go_simp
             with_reducible rfl
            rotate_left
            ·simp only [Act.put,yK,yL,yM,i64_w,i32_w]
             rfl
            refine pure_ (i:=11) (N:=some 49) (v:=?_) (a':=?_) #[true,true,false,false,false,false,true,false,false,false,false,true,false,false,false,false,false,false] rfl rfl (any_of HT_.out (by kernel_rfl)) (fun _ _ _ h=>h) (Or.inl ⟨by rfl,?_⟩) ?_ ?_
            rotate_left
            ·intro w'
             go_simp
             with_reducible rfl
            rotate_left
            ·simp only [Act.put,yK,yL,yM,i64_w,i32_w]
             rfl
            refine pure_ (i:=12) (N:=some 50) (v:=?_) (a':=?_) #[true,true,false,false,false,false,true,false,false,false,false,true,true,false,false,false,false,false] rfl rfl (any_of HT_.out (by kernel_rfl)) (fun _ _ _ h=>h) (Or.inl ⟨by rfl,?_⟩) ?_ ?_
            rotate_left
            ·intro w'
             go_simp
             with_reducible rfl
            rotate_left
            ·simp only [Act.put,yK,yL,yM,i64_w,i32_w]
             rfl
            refine inv_at [2,3,4,5,7,8,9,10,13,14,15,16,17] (fun a0_ b a w'=>∃ (v130:Value) (adz_v130:Addr) (m8_:Value),a=putSel a0_ b [(2,40,.int .i64 (wrap64 (a1 - 1))),(3,41,.string t127),(4,42,.string ((⟨#[40]⟩:ByteArray)++t127)),(5,43,v130),(7,45,.int .i64 t132),(8,46,m8_),(9,47,.string (rdOf ByteArray.empty y129 t132)),(10,48,.string (((⟨#[40]⟩:ByteArray)++t127)++(rdOf ByteArray.empty y129 t132))),(13,51,.int .i64 (wrap64 (a1 - 1))),(14,52,.string t135),(15,53,.string ((((⟨#[40]⟩:ByteArray)++t127)++(rdOf ByteArray.empty y129 t132))++t135)),(16,54,.string (((((⟨#[40]⟩:ByteArray)++t127)++(rdOf ByteArray.empty y129 t132))++t135)++(⟨#[41]⟩:ByteArray))),(17,4,.string (((((⟨#[40]⟩:ByteArray)++t127)++(rdOf ByteArray.empty y129 t132))++t135)++(⟨#[41]⟩:ByteArray)))]∧(b 3=false→IsS60 w0 w' g s0_0 t116)∧(KeepBut w w' g none)∧(Below w0.heap.size w0 w')∧(b 3=true→b 7=false→IsS60 w0 w' g s0_0 t128)∧(b 5=true→Kd.R Kd.string 9 w' w.heap.size (fun _=>True) v130 y129)∧(b 5=true→∃ c_,(v130:Value)=.slice (some adz_v130) y129.length c_)∧(b 7=true→b 14=false→IsS60 w0 w' g s0_0 t133)∧(b 14=true→IsS60 w0 w' g s0_0 t136)∧(b 8=true→(m8_:Value)=.pointer (some (adz_v130.add (t132).toNat)))) HT_.out HW_.out (by kernel_rfl) (by kernel_rfl) ?_ ?_ ?_
            ·exact ⟨.bool false,⟨0,0,none⟩,.bool false,by simp only [putSel,Bool.false_eq_true,if_false],fun _=>HI0.out,HK.out,HB.out,fun h_=>absurd h_ (by decide),fun h_=>absurd h_ (by decide),fun h_=>absurd h_ (by decide),fun h_=>absurd h_ (by decide),fun h_=>absurd h_ (by decide),fun h_=>absurd h_ (by decide)⟩
            ·skip
             clear HB HI0 HK
             refine steps_cons ?_ ?_
             ·rintro b a w' ⟨v130,adz_v130,m8_,ha,Q_HI0,Q_HK,Q_HB,Q_HI0_e3,Q_HO131,Q_HA_HO131,Q_HI0_e7,Q_HI0_e14,Q_X8_⟩ hb_ hon hoff
              refine ⟨_,rfl,fun K hK=>?_⟩
              have e39:a.tmps[39]?=some (.int .i64 a1):=by rw [ha];exact (putSel_off rfl).trans rfl
              replace ha:=Aside0.mk ha
              have HI0:=Aside0.mk (Q_HI0 (hoff 3 (by kernel_rfl)))
              have HK:=Aside0.mk Q_HK
              have HB:=Aside0.mk Q_HB
              refine value_ (w1:=w') (v:=.int .i64 (wrap64 (a1 - 1))) (by rfl) rfl ?_ ?_
              ·go_simp
               (try simp only [i64_w])
               try rfl
              refine hK.out _ _ ⟨v130,adz_v130,m8_,(by rw [ha.out];exact putSel_upk 0 hb_ rfl rfl rfl),Q_HI0,Q_HK,Q_HB,fun h0_ _=>absurd ((hoff 3 (by kernel_rfl)).symm.trans h0_) (by decide),Q_HO131,Q_HA_HO131,fun h0_ _=>absurd ((hoff 7 (by kernel_rfl)).symm.trans h0_) (by decide),fun h0_=>absurd ((hoff 14 (by kernel_rfl)).symm.trans h0_) (by decide),fun h0_=>absurd ((hoff 8 (by kernel_rfl)).symm.trans h0_) (by decide)⟩
             refine steps_cons ?_ ?_
             ·rintro b a w' ⟨v130,adz_v130,m8_,ha,Q_HI0,Q_HK,Q_HB,Q_HI0_e3,Q_HO131,Q_HA_HO131,Q_HI0_e7,Q_HI0_e14,Q_X8_⟩ hb_ hon hoff
              refine ⟨_,rfl,fun K hK=>?_⟩
              have e38:a.tmps[38]?=some (.pointer (some ⟨g,0,none⟩)):=by rw [ha];exact (putSel_off rfl).trans rfl
              have e40:a.tmps[40]?=some (.int .i64 (wrap64 (a1 - 1))):=by rw [ha];exact putSel_on (e:=(2,40,.int .i64 (wrap64 (a1 - 1)))) 0 rfl rfl (hon 2 (by kernel_rfl)) rfl
              replace ha:=Aside0.mk ha
              have HI0:=Aside0.mk (Q_HI0 hb_)
              have HK:=Aside0.mk Q_HK
              have HB:=Aside0.mk Q_HB
              refine goes_ Try.func39 (by kernel_rfl) rfl #[.pointer (some ⟨g,0,none⟩),.int .i64 (wrap64 (a1 - 1))] (by rfl) rfl rfl (by first|(simp only [List.map_toArray,List.map_cons,List.map_nil,Act.eval,Array.getD_eq_getD_getElem?,Option.getD_some,e38,e40];done)|(simp only [List.map_toArray,List.map_cons,List.map_nil,Act.eval,Array.getD_eq_getD_getElem?,Option.getD_some,e38,e40];rfl)) ?_
              with_reducible refine (ih kj2 (by have:=HJ2.out;omega) g s0_0 t116 (wrap64 (a1 - 1)) t127 t128 w0 _ ?side1 ?side2 A36.out).mono ?_
              (case side1=>repeat (first|(with_reducible first|exact HI0.out|apply IsS60.alloc|apply IsS60.drewN|apply IsS60.drew|apply IsS60.set_1)|exact HI0.out))
              (case side2=>repeat (first|(with_reducible first|exact HB.out|apply yA|apply yB|apply yC|refine yD ?_ (IsS60.ge HI0.out))|exact HB.out))
              rintro e w47 ⟨rfl,hi,hb,hk⟩
              refine ⟨_,rfl,?_⟩
              have n0_:=Aside0.mk (KeepBut.trans (by repeat (first|(with_reducible first|exact HK.out|apply KeepBut.set_|apply keep_drewN|apply keep_drew|apply keep_alloc)|exact HK.out)) hk (.inl rfl))
              have n1_:=Aside0.mk (hb)
              have n2_:=Aside0.mk (hi)
              have z_HO131:=fun (h0_:b 5=true)=>(show Kd.R Kd.string 9 w47 w.heap.size (fun _=>True) v130 y129 from by first|exact (Kd.R_mono (Kd.R_keep (IsS60.apart (show IsS60 w0 _ g s0_0 t116 from by repeat (first|(with_reducible first|exact HI0.out|apply IsS60.alloc|apply IsS60.drewN|apply IsS60.drew|apply IsS60.set_1)|exact HI0.out)) (by (with_reducible repeat (first|apply yH|apply yI|apply yJ));exact (Q_HO131 h0_)) (by decide)) hk (fun _ h=>h.2)) (fun _ h=>h.1))|exact Kd.R_mono (Kd.R_mono (Kd.R_keep (IsS60.apart (show IsS60 w0 _ g s0_0 t116 from by repeat (first|(with_reducible first|exact HI0.out|apply IsS60.alloc|apply IsS60.drewN|apply IsS60.drew|apply IsS60.set_1)|exact HI0.out)) (by (with_reducible repeat (first|apply yH|apply yI|apply yJ));exact (Q_HO131 h0_)) (by decide)) hk (fun _ h=>h.2)) (fun _ h=>h.1)) (fun _ h_=>by first|trivial|exact h_|exact h_.1))
              clear HK
              clear HB
              clear HI0
              have HK:=n0_
              have HB:=n1_
              have HI0:=n2_
              clear n0_ n1_ n2_
              (try clear hb)
              (try clear hb2)
              (try clear hk)
              (try clear hi)
              refine hK.out _ _ ⟨v130,adz_v130,m8_,(by rw [ha.out];exact putSel_upk 1 hb_ rfl rfl rfl),fun h0_=>absurd ((up_self b 3).symm.trans h0_) (by decide),(by repeat (first|(with_reducible first|exact HK.out|apply KeepBut.set_|apply keep_drewN|apply keep_drew|apply keep_alloc)|exact HK.out)),(by repeat (first|(with_reducible first|exact HB.out|apply yA|apply yB|apply yC|refine yD ?_ (IsS60.ge HI0.out))|exact HB.out)),fun _ _=>(by repeat (first|(with_reducible first|exact HI0.out|apply IsS60.alloc|apply IsS60.drewN|apply IsS60.drew|apply IsS60.set_1)|exact HI0.out)),z_HO131,Q_HA_HO131,fun h0_ _=>absurd ((hoff 7 (by kernel_rfl)).symm.trans h0_) (by decide),fun h0_=>absurd ((hoff 14 (by kernel_rfl)).symm.trans h0_) (by decide),fun h0_=>absurd ((hoff 8 (by kernel_rfl)).symm.trans h0_) (by decide)⟩
             refine steps_cons ?_ ?_
             ·rintro b a w' ⟨v130,adz_v130,m8_,ha,Q_HI0,Q_HK,Q_HB,Q_HI0_e3,Q_HO131,Q_HA_HO131,Q_HI0_e7,Q_HI0_e14,Q_X8_⟩ hb_ hon hoff
              refine ⟨_,rfl,fun K hK=>?_⟩
              have e41:a.tmps[41]?=some (.string t127):=by rw [ha];exact putSel_on (e:=(3,41,.string t127)) 1 rfl rfl (hon 3 (by kernel_rfl)) rfl
              replace ha:=Aside0.mk ha
              have HK:=Aside0.mk Q_HK
              have HB:=Aside0.mk Q_HB
              refine value_ (w1:=w') (v:=.string ((⟨#[40]⟩:ByteArray)++t127)) (by rfl) rfl ?_ ?_
              ·go_simp
               (try simp only [i64_w])
               try rfl
              refine hK.out _ _ ⟨v130,adz_v130,m8_,(by rw [ha.out];exact putSel_upk 2 hb_ rfl rfl rfl),fun h0_=>absurd ((hon 3 (by kernel_rfl)).symm.trans h0_) (by decide),Q_HK,Q_HB,Q_HI0_e3,Q_HO131,Q_HA_HO131,Q_HI0_e7,Q_HI0_e14,Q_X8_⟩
             refine steps_cons ?_ ?_
             ·rintro b a w' ⟨v130,adz_v130,m8_,ha,Q_HI0,Q_HK,Q_HB,Q_HI0_e3,Q_HO131,Q_HA_HO131,Q_HI0_e7,Q_HI0_e14,Q_X8_⟩ hb_ hon hoff
              refine ⟨_,rfl,fun K hK=>?_⟩
              replace ha:=Aside0.mk ha
              have HK:=Aside0.mk Q_HK
              have HB:=Aside0.mk Q_HB
              refine Kd.R_lit_step Kd.string _ 9 ?hg (N:=43) ?hd (xs:=([(⟨#[43]⟩:ByteArray),(⟨#[43]⟩:ByteArray),(⟨#[46]⟩:ByteArray),(⟨#[38]⟩:ByteArray)]:List ByteArray)) (inner:=[.string (⟨#[43]⟩:ByteArray),.string (⟨#[43]⟩:ByteArray),.string (⟨#[46]⟩:ByteArray),.string (⟨#[38]⟩:ByteArray)]) (ok:=fun _=>True) (okp:=fun _=>True) ?hr ?hp (fun _ hk=>hk) trivial (Below.refl _ _) (Nat.le_refl _) (by simp) ?_;(case hd=>rfl);(case hg=>rfl);(case hr=>first|(go_simp;done)|(go_simp;rfl));(case hp=>exact (Reps.one (show Kd.M Kd.string _ _ _ (⟨#[43]⟩:ByteArray) [.string (⟨#[43]⟩:ByteArray)] from rfl) (Reps.one (show Kd.M Kd.string _ _ _ (⟨#[43]⟩:ByteArray) [.string (⟨#[43]⟩:ByteArray)] from rfl) (Reps.one (show Kd.M Kd.string _ _ _ (⟨#[46]⟩:ByteArray) [.string (⟨#[46]⟩:ByteArray)] from rfl) (Reps.one (show Kd.M Kd.string _ _ _ (⟨#[38]⟩:ByteArray) [.string (⟨#[38]⟩:ByteArray)] from rfl) (Reps.none _ _))))))
              intro v130 w47 ho48 hb hg_ hnew_
              clear hg_ hnew_
              (first|rw [← Ny129.out] at ho48|(simp only [Int.reduceToNat] at ho48;rw [← Ny129.out] at ho48))
              have n0_:=Aside0.mk (Kd.R_lower ho48 (keep_size (w:=w) (g:=g) (row:=none) (by repeat (first|(with_reducible first|exact HK.out|apply KeepBut.set_|apply keep_drewN|apply keep_drew|apply keep_alloc)|exact HK.out))))
              have n2_:=Aside0.mk (KeepBut.trans (by repeat (first|(with_reducible first|exact HK.out|apply KeepBut.set_|apply keep_drewN|apply keep_drew|apply keep_alloc)|exact HK.out)) (KeepBut.of_below hb g none) (.inl rfl))
              have n3_:=Aside0.mk (yP (by repeat (first|(with_reducible first|exact HB.out|apply yA|apply yB|apply yC)|exact HB.out)) hb)
              have z_HI0:=fun (h0_:b 3=false)=>(show IsS60 w0 w47 g s0_0 t116 from by first|exact (IsS60.below (by repeat (first|(with_reducible first|exact (Q_HI0 h0_)|apply IsS60.alloc|apply IsS60.drewN|apply IsS60.drew|apply IsS60.set_1)|exact (Q_HI0 h0_))) hb))
              have z_HI0_e3:=fun (h0_:b 3=true) (h1_:b 7=false)=>(show IsS60 w0 w47 g s0_0 t128 from by first|exact (IsS60.below (by repeat (first|(with_reducible first|exact (Q_HI0_e3 h0_ h1_)|apply IsS60.alloc|apply IsS60.drewN|apply IsS60.drew|apply IsS60.set_1)|exact (Q_HI0_e3 h0_ h1_))) hb))
              have z_HI0_e7:=fun (h0_:b 7=true) (h1_:b 14=false)=>(show IsS60 w0 w47 g s0_0 t133 from by first|exact (IsS60.below (by repeat (first|(with_reducible first|exact (Q_HI0_e7 h0_ h1_)|apply IsS60.alloc|apply IsS60.drewN|apply IsS60.drew|apply IsS60.set_1)|exact (Q_HI0_e7 h0_ h1_))) hb))
              have z_HI0_e14:=fun (h0_:b 14=true)=>(show IsS60 w0 w47 g s0_0 t136 from by first|exact (IsS60.below (by repeat (first|(with_reducible first|exact (Q_HI0_e14 h0_)|apply IsS60.alloc|apply IsS60.drewN|apply IsS60.drew|apply IsS60.set_1)|exact (Q_HI0_e14 h0_))) hb))
              clear HK
              clear HB
              have HO131:=n0_
              have HK:=n2_
              have HB:=n3_
              clear n0_ n2_ n3_
              clear hb ho48
              obtain ⟨Ao49,co49,eo49⟩:=Kd.R_slice HO131.out
              subst eo49
              obtain ⟨ado49,fo49,_⟩:=Kd.at_string (Kd.R_reads' HO131.out).2.2 0 (by decide) (by rw [Ny129.out];simp)
              cases fo49
              refine hK.out _ _ ⟨.slice (some ado49) y129.length co49,ado49,m8_,(by rw [ha.out];exact putSel_upk 3 hb_ rfl rfl rfl),z_HI0,(by repeat (first|(with_reducible first|exact HK.out|apply KeepBut.set_|apply keep_drewN|apply keep_drew|apply keep_alloc)|exact HK.out)),(by repeat (first|(with_reducible first|exact HB.out|apply yA|apply yB|apply yC)|exact HB.out)),z_HI0_e3,fun _=>(by (with_reducible repeat (first|apply yH|apply yI|apply yJ));exact HO131.out),fun _=>⟨_,rfl⟩,z_HI0_e7,z_HI0_e14,fun h0_=>absurd ((hoff 8 (by kernel_rfl)).symm.trans h0_) (by decide)⟩
             refine steps_cons ?_ ?_
             ·rintro b a w' ⟨v130,adz_v130,m8_,ha,Q_HI0,Q_HK,Q_HB,Q_HI0_e3,Q_HO131,Q_HA_HO131,Q_HI0_e7,Q_HI0_e14,Q_X8_⟩ hb_ hon hoff
              refine ⟨_,rfl,fun K hK=>?_⟩
              have e44:a.tmps[44]?=some (.pointer (some ⟨g,0,none⟩)):=by rw [ha];exact (putSel_off rfl).trans rfl
              replace ha:=Aside0.mk ha
              have HK:=Aside0.mk Q_HK
              have HB:=Aside0.mk Q_HB
              have HI0:=Aside0.mk (Q_HI0_e3 (hon 3 (by kernel_rfl)) hb_)
              refine goes_ Try.func32 (by kernel_rfl) rfl #[.pointer (some ⟨g,0,none⟩),.int .i64 4] (by rfl) rfl rfl (by first|(simp only [List.map_toArray,List.map_cons,List.map_nil,Act.eval,Array.getD_eq_getD_getElem?,Option.getD_some,e44];done)|(simp only [List.map_toArray,List.map_cons,List.map_nil,Act.eval,Array.getD_eq_getD_getElem?,Option.getD_some,e44];rfl)) ?_
              with_reducible refine (spec_l6Rd_pick.calls kj2 g s0_0 t128 4 t132 t133 w0 _ ?side1 ?side2 A38.out).mono ?_
              (case side1=>repeat (first|(with_reducible first|exact HI0.out|apply IsS60.alloc|apply IsS60.drewN|apply IsS60.drew|apply IsS60.set_1)|exact HI0.out))
              (case side2=>repeat (first|(with_reducible first|exact HB.out|apply yA|apply yB|apply yC|refine yD ?_ (IsS60.ge HI0.out))|exact HB.out))
              rintro e w49 ⟨rfl,hi,hb,hk⟩
              refine ⟨_,rfl,?_⟩
              have n0_:=Aside0.mk (KeepBut.trans (by repeat (first|(with_reducible first|exact HK.out|apply KeepBut.set_|apply keep_drewN|apply keep_drew|apply keep_alloc)|exact HK.out)) hk (.inl rfl))
              have n1_:=Aside0.mk (hb)
              have n2_:=Aside0.mk (hi)
              have z_HO131:=fun (h0_:b 5=true)=>(show Kd.R Kd.string 9 w49 w.heap.size (fun _=>True) v130 y129 from by first|exact (Kd.R_mono (Kd.R_keep (IsS60.apart (show IsS60 w0 _ g s0_0 t128 from by repeat (first|(with_reducible first|exact HI0.out|apply IsS60.alloc|apply IsS60.drewN|apply IsS60.drew|apply IsS60.set_1)|exact HI0.out)) (by (with_reducible repeat (first|apply yH|apply yI|apply yJ));exact (Q_HO131 h0_)) (by decide)) hk (fun _ h=>h.2)) (fun _ h=>h.1))|exact Kd.R_mono (Kd.R_mono (Kd.R_keep (IsS60.apart (show IsS60 w0 _ g s0_0 t128 from by repeat (first|(with_reducible first|exact HI0.out|apply IsS60.alloc|apply IsS60.drewN|apply IsS60.drew|apply IsS60.set_1)|exact HI0.out)) (by (with_reducible repeat (first|apply yH|apply yI|apply yJ));exact (Q_HO131 h0_)) (by decide)) hk (fun _ h=>h.2)) (fun _ h=>h.1)) (fun _ h_=>by first|trivial|exact h_|exact h_.1))
              clear HK
              clear HB
              clear HI0
              have HK:=n0_
              have HB:=n1_
              have HI0:=n2_
              clear n0_ n1_ n2_
              (try clear hb)
              (try clear hb2)
              (try clear hk)
              (try clear hi)
              refine hK.out _ _ ⟨v130,adz_v130,m8_,(by rw [ha.out];exact putSel_upk 4 hb_ rfl rfl rfl),fun h0_=>absurd ((hon 3 (by kernel_rfl)).symm.trans h0_) (by decide),(by repeat (first|(with_reducible first|exact HK.out|apply KeepBut.set_|apply keep_drewN|apply keep_drew|apply keep_alloc)|exact HK.out)),(by repeat (first|(with_reducible first|exact HB.out|apply yA|apply yB|apply yC|refine yD ?_ (IsS60.ge HI0.out))|exact HB.out)),fun _ h1_=>absurd ((up_self b 7).symm.trans h1_) (by decide),z_HO131,Q_HA_HO131,fun _ _=>(by repeat (first|(with_reducible first|exact HI0.out|apply IsS60.alloc|apply IsS60.drewN|apply IsS60.drew|apply IsS60.set_1)|exact HI0.out)),fun h0_=>absurd ((hoff 14 (by kernel_rfl)).symm.trans h0_) (by decide),fun h0_=>absurd ((hoff 8 (by kernel_rfl)).symm.trans h0_) (by decide)⟩
             refine steps_cons ?_ ?_
             ·rintro b a w' ⟨v130,adz_v130,m8_,ha,Q_HI0,Q_HK,Q_HB,Q_HI0_e3,Q_HO131,Q_HA_HO131,Q_HI0_e7,Q_HI0_e14,Q_X8_⟩ hb_ hon hoff
              refine ⟨_,rfl,fun K hK=>?_⟩
              have e43:a.tmps[43]?=some (v130):=by rw [ha];exact putSel_on (e:=(5,43,v130)) 3 rfl rfl (hon 5 (by kernel_rfl)) rfl
              have e45:a.tmps[45]?=some (.int .i64 t132):=by rw [ha];exact putSel_on (e:=(7,45,.int .i64 t132)) 4 rfl rfl (hon 7 (by kernel_rfl)) rfl
              replace ha:=Aside0.mk ha
              have HK:=Aside0.mk Q_HK
              have HB:=Aside0.mk Q_HB
              have HO131:=Aside0.mk (Q_HO131 (hon 5 (by kernel_rfl)))
              have HA_HO131:=Aside0.mk (Q_HA_HO131 (hon 5 (by kernel_rfl)))
              obtain ⟨c_,hv_⟩:=HA_HO131.out
              rw [hv_] at e43
              refine value_ (w1:=w') (v:=.pointer (some (adz_v130.add (t132).toNat))) (by rfl) rfl ?_ ?_
              ·go_simp
               (try simp only [i64_w])
               try rfl
              refine hK.out _ _ ⟨v130,adz_v130,(.pointer (some (adz_v130.add (t132).toNat))),(by rw [ha.out];exact putSel_upk 5 hb_ rfl rfl rfl),fun h0_=>absurd ((hon 3 (by kernel_rfl)).symm.trans h0_) (by decide),Q_HK,Q_HB,fun _ h1_=>absurd ((hon 7 (by kernel_rfl)).symm.trans h1_) (by decide),Q_HO131,Q_HA_HO131,Q_HI0_e7,Q_HI0_e14,fun _=>rfl⟩
             refine steps_cons ?_ ?_
             ·rintro b a w' ⟨v130,adz_v130,m8_,ha,Q_HI0,Q_HK,Q_HB,Q_HI0_e3,Q_HO131,Q_HA_HO131,Q_HI0_e7,Q_HI0_e14,Q_X8_⟩ hb_ hon hoff
              refine ⟨_,rfl,fun K hK=>?_⟩
              have e46:a.tmps[46]?=some (m8_):=by rw [ha];exact putSel_on (e:=(8,46,m8_)) 5 rfl rfl (hon 8 (by kernel_rfl)) rfl
              rw [Q_X8_ (hon 8 (by kernel_rfl))] at e46
              replace ha:=Aside0.mk ha
              have HK:=Aside0.mk Q_HK
              have HB:=Aside0.mk Q_HB
              have HO131:=Aside0.mk (Q_HO131 (hon 5 (by kernel_rfl)))
              have HA_HO131:=Aside0.mk (Q_HA_HO131 (hon 5 (by kernel_rfl)))
              obtain ⟨c_,hv_⟩:=HA_HO131.out
              have hF_:=HO131.out
              rw [hv_] at hF_
              obtain ⟨ad_,ea_,hx_⟩:=Kd.at_string (Kd.R_reads' hF_).2.2 t132 (of_eq_true pi134) (of_eq_true qi134)
              cases ea_
              refine value_ (w1:=w') (v:=.string (rdOf ByteArray.empty y129 t132)) (by rfl) rfl ?_ ?_
              ·go_simp
               (try simp only [i64_w])
               try rfl
              refine hK.out _ _ ⟨v130,adz_v130,m8_,(by rw [ha.out];exact putSel_upk 6 hb_ rfl rfl rfl),fun h0_=>absurd ((hon 3 (by kernel_rfl)).symm.trans h0_) (by decide),Q_HK,Q_HB,fun _ h1_=>absurd ((hon 7 (by kernel_rfl)).symm.trans h1_) (by decide),Q_HO131,Q_HA_HO131,Q_HI0_e7,Q_HI0_e14,Q_X8_⟩
             refine steps_cons ?_ ?_
             ·rintro b a w' ⟨v130,adz_v130,m8_,ha,Q_HI0,Q_HK,Q_HB,Q_HI0_e3,Q_HO131,Q_HA_HO131,Q_HI0_e7,Q_HI0_e14,Q_X8_⟩ hb_ hon hoff
              refine ⟨_,rfl,fun K hK=>?_⟩
              have e42:a.tmps[42]?=some (.string ((⟨#[40]⟩:ByteArray)++t127)):=by rw [ha];exact putSel_on (e:=(4,42,.string ((⟨#[40]⟩:ByteArray)++t127))) 2 rfl rfl (hon 4 (by kernel_rfl)) rfl
              have e47:a.tmps[47]?=some (.string (rdOf ByteArray.empty y129 t132)):=by rw [ha];exact putSel_on (e:=(9,47,.string (rdOf ByteArray.empty y129 t132))) 6 rfl rfl (hon 9 (by kernel_rfl)) rfl
              replace ha:=Aside0.mk ha
              have HK:=Aside0.mk Q_HK
              have HB:=Aside0.mk Q_HB
              have HO131:=Aside0.mk (Q_HO131 (hon 5 (by kernel_rfl)))
              have HA_HO131:=Aside0.mk (Q_HA_HO131 (hon 5 (by kernel_rfl)))
              refine value_ (w1:=w') (v:=.string (((⟨#[40]⟩:ByteArray)++t127)++(rdOf ByteArray.empty y129 t132))) (by rfl) rfl ?_ ?_
              ·go_simp
               (try simp only [i64_w])
               try rfl
              refine hK.out _ _ ⟨v130,adz_v130,m8_,(by rw [ha.out];exact putSel_upk 7 hb_ rfl rfl rfl),fun h0_=>absurd ((hon 3 (by kernel_rfl)).symm.trans h0_) (by decide),Q_HK,Q_HB,fun _ h1_=>absurd ((hon 7 (by kernel_rfl)).symm.trans h1_) (by decide),Q_HO131,Q_HA_HO131,Q_HI0_e7,Q_HI0_e14,Q_X8_⟩
             refine steps_cons ?_ ?_
             ·rintro b a w' ⟨v130,adz_v130,m8_,ha,Q_HI0,Q_HK,Q_HB,Q_HI0_e3,Q_HO131,Q_HA_HO131,Q_HI0_e7,Q_HI0_e14,Q_X8_⟩ hb_ hon hoff
              refine ⟨_,rfl,fun K hK=>?_⟩
              have e50:a.tmps[50]?=some (.int .i64 a1):=by rw [ha];exact (putSel_off rfl).trans rfl
              replace ha:=Aside0.mk ha
              have HK:=Aside0.mk Q_HK
              have HB:=Aside0.mk Q_HB
              refine value_ (w1:=w') (v:=.int .i64 (wrap64 (a1 - 1))) (by rfl) rfl ?_ ?_
              ·go_simp
               (try simp only [i64_w])
               try rfl
              refine hK.out _ _ ⟨v130,adz_v130,m8_,(by rw [ha.out];exact putSel_upk 8 hb_ rfl rfl rfl),Q_HI0,Q_HK,Q_HB,Q_HI0_e3,Q_HO131,Q_HA_HO131,Q_HI0_e7,fun h0_=>absurd ((hoff 14 (by kernel_rfl)).symm.trans h0_) (by decide),Q_X8_⟩
             refine steps_cons ?_ ?_
             ·rintro b a w' ⟨v130,adz_v130,m8_,ha,Q_HI0,Q_HK,Q_HB,Q_HI0_e3,Q_HO131,Q_HA_HO131,Q_HI0_e7,Q_HI0_e14,Q_X8_⟩ hb_ hon hoff
              refine ⟨_,rfl,fun K hK=>?_⟩
              have e49:a.tmps[49]?=some (.pointer (some ⟨g,0,none⟩)):=by rw [ha];exact (putSel_off rfl).trans rfl
              have e51:a.tmps[51]?=some (.int .i64 (wrap64 (a1 - 1))):=by rw [ha];exact putSel_on (e:=(13,51,.int .i64 (wrap64 (a1 - 1)))) 8 rfl rfl (hon 13 (by kernel_rfl)) rfl
              replace ha:=Aside0.mk ha
              have HK:=Aside0.mk Q_HK
              have HB:=Aside0.mk Q_HB
              have HI0:=Aside0.mk (Q_HI0_e7 (hon 7 (by kernel_rfl)) hb_)
              refine goes_ Try.func39 (by kernel_rfl) rfl #[.pointer (some ⟨g,0,none⟩),.int .i64 (wrap64 (a1 - 1))] (by rfl) rfl rfl (by first|(simp only [List.map_toArray,List.map_cons,List.map_nil,Act.eval,Array.getD_eq_getD_getElem?,Option.getD_some,e49,e51];done)|(simp only [List.map_toArray,List.map_cons,List.map_nil,Act.eval,Array.getD_eq_getD_getElem?,Option.getD_some,e49,e51];rfl)) ?_
              with_reducible refine (ih kj2 (by have:=HJ2.out;omega) g s0_0 t133 (wrap64 (a1 - 1)) t135 t136 w0 _ ?side1 ?side2 A42.out).mono ?_
              (case side1=>repeat (first|(with_reducible first|exact HI0.out|apply IsS60.alloc|apply IsS60.drewN|apply IsS60.drew|apply IsS60.set_1)|exact HI0.out))
              (case side2=>repeat (first|(with_reducible first|exact HB.out|apply yA|apply yB|apply yC|refine yD ?_ (IsS60.ge HI0.out))|exact HB.out))
              rintro e w50 ⟨rfl,hi,hb,hk⟩
              refine ⟨_,rfl,?_⟩
              have n0_:=Aside0.mk (KeepBut.trans (by repeat (first|(with_reducible first|exact HK.out|apply KeepBut.set_|apply keep_drewN|apply keep_drew|apply keep_alloc)|exact HK.out)) hk (.inl rfl))
              have n1_:=Aside0.mk (hb)
              have n2_:=Aside0.mk (hi)
              have z_HO131:=fun (h0_:b 5=true)=>(show Kd.R Kd.string 9 w50 w.heap.size (fun _=>True) v130 y129 from by first|exact (Kd.R_mono (Kd.R_keep (IsS60.apart (show IsS60 w0 _ g s0_0 t133 from by repeat (first|(with_reducible first|exact HI0.out|apply IsS60.alloc|apply IsS60.drewN|apply IsS60.drew|apply IsS60.set_1)|exact HI0.out)) (by (with_reducible repeat (first|apply yH|apply yI|apply yJ));exact (Q_HO131 h0_)) (by decide)) hk (fun _ h=>h.2)) (fun _ h=>h.1))|exact Kd.R_mono (Kd.R_mono (Kd.R_keep (IsS60.apart (show IsS60 w0 _ g s0_0 t133 from by repeat (first|(with_reducible first|exact HI0.out|apply IsS60.alloc|apply IsS60.drewN|apply IsS60.drew|apply IsS60.set_1)|exact HI0.out)) (by (with_reducible repeat (first|apply yH|apply yI|apply yJ));exact (Q_HO131 h0_)) (by decide)) hk (fun _ h=>h.2)) (fun _ h=>h.1)) (fun _ h_=>by first|trivial|exact h_|exact h_.1))
              clear HK
              clear HB
              clear HI0
              have HK:=n0_
              have HB:=n1_
              have HI0:=n2_
              clear n0_ n1_ n2_
              (try clear hb)
              (try clear hb2)
              (try clear hk)
              (try clear hi)
              refine hK.out _ _ ⟨v130,adz_v130,m8_,(by rw [ha.out];exact putSel_upk 9 hb_ rfl rfl rfl),fun h0_=>absurd ((hon 3 (by kernel_rfl)).symm.trans h0_) (by decide),(by repeat (first|(with_reducible first|exact HK.out|apply KeepBut.set_|apply keep_drewN|apply keep_drew|apply keep_alloc)|exact HK.out)),(by repeat (first|(with_reducible first|exact HB.out|apply yA|apply yB|apply yC|refine yD ?_ (IsS60.ge HI0.out))|exact HB.out)),fun _ h1_=>absurd ((hon 7 (by kernel_rfl)).symm.trans h1_) (by decide),z_HO131,Q_HA_HO131,fun _ h1_=>absurd ((up_self b 14).symm.trans h1_) (by decide),fun _=>(by repeat (first|(with_reducible first|exact HI0.out|apply IsS60.alloc|apply IsS60.drewN|apply IsS60.drew|apply IsS60.set_1)|exact HI0.out)),Q_X8_⟩
             refine steps_cons ?_ ?_
             ·rintro b a w' ⟨v130,adz_v130,m8_,ha,Q_HI0,Q_HK,Q_HB,Q_HI0_e3,Q_HO131,Q_HA_HO131,Q_HI0_e7,Q_HI0_e14,Q_X8_⟩ hb_ hon hoff
              refine ⟨_,rfl,fun K hK=>?_⟩
              have e48:a.tmps[48]?=some (.string (((⟨#[40]⟩:ByteArray)++t127)++(rdOf ByteArray.empty y129 t132))):=by rw [ha];exact putSel_on (e:=(10,48,.string (((⟨#[40]⟩:ByteArray)++t127)++(rdOf ByteArray.empty y129 t132)))) 7 rfl rfl (hon 10 (by kernel_rfl)) rfl
              have e52:a.tmps[52]?=some (.string t135):=by rw [ha];exact putSel_on (e:=(14,52,.string t135)) 9 rfl rfl (hon 14 (by kernel_rfl)) rfl
              replace ha:=Aside0.mk ha
              have HK:=Aside0.mk Q_HK
              have HB:=Aside0.mk Q_HB
              have HO131:=Aside0.mk (Q_HO131 (hon 5 (by kernel_rfl)))
              have HA_HO131:=Aside0.mk (Q_HA_HO131 (hon 5 (by kernel_rfl)))
              have HI0:=Aside0.mk (Q_HI0_e14 (hon 14 (by kernel_rfl)))
              refine value_ (w1:=w') (v:=.string ((((⟨#[40]⟩:ByteArray)++t127)++(rdOf ByteArray.empty y129 t132))++t135)) (by rfl) rfl ?_ ?_
              ·go_simp
               (try simp only [i64_w])
               try rfl
              refine hK.out _ _ ⟨v130,adz_v130,m8_,(by rw [ha.out];exact putSel_upk 10 hb_ rfl rfl rfl),fun h0_=>absurd ((hon 3 (by kernel_rfl)).symm.trans h0_) (by decide),Q_HK,Q_HB,fun _ h1_=>absurd ((hon 7 (by kernel_rfl)).symm.trans h1_) (by decide),Q_HO131,Q_HA_HO131,fun _ h1_=>absurd ((hon 14 (by kernel_rfl)).symm.trans h1_) (by decide),Q_HI0_e14,Q_X8_⟩
             refine steps_cons ?_ ?_
             ·rintro b a w' ⟨v130,adz_v130,m8_,ha,Q_HI0,Q_HK,Q_HB,Q_HI0_e3,Q_HO131,Q_HA_HO131,Q_HI0_e7,Q_HI0_e14,Q_X8_⟩ hb_ hon hoff
              refine ⟨_,rfl,fun K hK=>?_⟩
              have e53:a.tmps[53]?=some (.string ((((⟨#[40]⟩:ByteArray)++t127)++(rdOf ByteArray.empty y129 t132))++t135)):=by rw [ha];exact putSel_on (e:=(15,53,.string ((((⟨#[40]⟩:ByteArray)++t127)++(rdOf ByteArray.empty y129 t132))++t135))) 10 rfl rfl (hon 15 (by kernel_rfl)) rfl
              replace ha:=Aside0.mk ha
              have HK:=Aside0.mk Q_HK
              have HB:=Aside0.mk Q_HB
              have HO131:=Aside0.mk (Q_HO131 (hon 5 (by kernel_rfl)))
              have HA_HO131:=Aside0.mk (Q_HA_HO131 (hon 5 (by kernel_rfl)))
              have HI0:=Aside0.mk (Q_HI0_e14 (hon 14 (by kernel_rfl)))
              refine value_ (w1:=w') (v:=.string (((((⟨#[40]⟩:ByteArray)++t127)++(rdOf ByteArray.empty y129 t132))++t135)++(⟨#[41]⟩:ByteArray))) (by rfl) rfl ?_ ?_
              ·go_simp
               (try simp only [i64_w])
               try rfl
              refine hK.out _ _ ⟨v130,adz_v130,m8_,(by rw [ha.out];exact putSel_upk 11 hb_ rfl rfl rfl),fun h0_=>absurd ((hon 3 (by kernel_rfl)).symm.trans h0_) (by decide),Q_HK,Q_HB,fun _ h1_=>absurd ((hon 7 (by kernel_rfl)).symm.trans h1_) (by decide),Q_HO131,Q_HA_HO131,fun _ h1_=>absurd ((hon 14 (by kernel_rfl)).symm.trans h1_) (by decide),Q_HI0_e14,Q_X8_⟩
             refine steps_cons ?_ ?_
             ·rintro b a w' ⟨v130,adz_v130,m8_,ha,Q_HI0,Q_HK,Q_HB,Q_HI0_e3,Q_HO131,Q_HA_HO131,Q_HI0_e7,Q_HI0_e14,Q_X8_⟩ hb_ hon hoff
              refine ⟨_,rfl,fun K hK=>?_⟩
              have e54:a.tmps[54]?=some (.string (((((⟨#[40]⟩:ByteArray)++t127)++(rdOf ByteArray.empty y129 t132))++t135)++(⟨#[41]⟩:ByteArray))):=by rw [ha];exact putSel_on (e:=(16,54,.string (((((⟨#[40]⟩:ByteArray)++t127)++(rdOf ByteArray.empty y129 t132))++t135)++(⟨#[41]⟩:ByteArray)))) 11 rfl rfl (hon 16 (by kernel_rfl)) rfl
              replace ha:=Aside0.mk ha
              have HK:=Aside0.mk Q_HK
              have HB:=Aside0.mk Q_HB
              have HO131:=Aside0.mk (Q_HO131 (hon 5 (by kernel_rfl)))
              have HA_HO131:=Aside0.mk (Q_HA_HO131 (hon 5 (by kernel_rfl)))
              have HI0:=Aside0.mk (Q_HI0_e14 (hon 14 (by kernel_rfl)))
              refine value_ (w1:=w') (v:=.string (((((⟨#[40]⟩:ByteArray)++t127)++(rdOf ByteArray.empty y129 t132))++t135)++(⟨#[41]⟩:ByteArray))) (by rfl) rfl ?_ ?_
              ·go_simp
               (try simp only [i64_w])
               try rfl
              refine hK.out _ _ ⟨v130,adz_v130,m8_,(by rw [ha.out];exact putSel_upk 12 hb_ rfl rfl rfl),fun h0_=>absurd ((hon 3 (by kernel_rfl)).symm.trans h0_) (by decide),Q_HK,Q_HB,fun _ h1_=>absurd ((hon 7 (by kernel_rfl)).symm.trans h1_) (by decide),Q_HO131,Q_HA_HO131,fun _ h1_=>absurd ((hon 14 (by kernel_rfl)).symm.trans h1_) (by decide),Q_HI0_e14,Q_X8_⟩
             exact steps_nil
            rintro b a w53 hall ⟨v130,adz_v130,m8_,ha,Q_HI0,Q_HK,Q_HB,Q_HI0_e3,Q_HO131,Q_HA_HO131,Q_HI0_e7,Q_HI0_e14,Q_X8_⟩
            clear HB HI0 HK
            have hb2_:=hall 2 (by kernel_rfl)
            have hb3_:=hall 3 (by kernel_rfl)
            have hb4_:=hall 4 (by kernel_rfl)
            have hb5_:=hall 5 (by kernel_rfl)
            have hb7_:=hall 7 (by kernel_rfl)
            have hb8_:=hall 8 (by kernel_rfl)
            have hb9_:=hall 9 (by kernel_rfl)
            have hb10_:=hall 10 (by kernel_rfl)
            have hb13_:=hall 13 (by kernel_rfl)
            have hb14_:=hall 14 (by kernel_rfl)
            have hb15_:=hall 15 (by kernel_rfl)
            have hb16_:=hall 16 (by kernel_rfl)
            have hb17_:=hall 17 (by kernel_rfl)
            subst ha
            obtain rfl:=Q_X8_ hb8_
            simp only [putSel,hb2_,hb3_,hb4_,hb5_,hb7_,hb8_,hb9_,hb10_,hb13_,hb14_,hb15_,hb16_,hb17_,if_true,Act.put,yK,yL,yM]
            clear Q_HI0
            have HK:=Aside0.mk Q_HK
            clear Q_HK
            have HB:=Aside0.mk Q_HB
            clear Q_HB
            clear Q_HI0_e3
            have HO131:=Aside0.mk (Q_HO131 hb5_)
            clear Q_HO131
            have HA_HO131:=Aside0.mk (Q_HA_HO131 hb5_)
            clear Q_HA_HO131
            clear Q_HI0_e7
            have HI0:=Aside0.mk (Q_HI0_e14 hb14_)
            clear Q_HI0_e14
            clear hall hb2_ hb3_ hb4_ hb5_ hb7_ hb8_ hb9_ hb10_ hb13_ hb14_ hb15_ hb16_ hb17_
            obtain ⟨co54,eo54⟩:=HA_HO131.out
            clear HA_HO131
            subst eo54
            try go_wp2
            go_ret
            exact ⟨by first|rfl|(simp [errW_none,errW_some]<;>rfl)|(simp [*,errW_none,errW_some]<;>rfl)|(simp [errW_none,errW_some];exact ⟨rfl,rfl⟩),by repeat (first|(with_reducible first|exact HI0.out|apply IsS60.alloc|apply IsS60.drewN|apply IsS60.drew|apply IsS60.set_1)|exact HI0.out),by repeat (first|(with_reducible first|exact HB.out|apply yA|apply yB|apply yC|refine yD ?_ (IsS60.ge HI0.out))|exact HB.out),by repeat (first|(with_reducible first|exact HK.out|apply KeepBut.set_|apply keep_drewN|apply keep_drew|apply keep_alloc)|exact HK.out)⟩
           ·rw [if_neg c44] at H
            exact absurd H (by simp)
          ·rw [if_neg c43] at H
           exact absurd H (by simp)
         ·rw [if_neg c41] at H
          exact absurd H (by simp)
        ·rw [if_neg c40] at H
         exact absurd H (by simp)
       ·rw [if_neg c39] at H
        exact absurd H (by simp)
      ·rw [if_neg c37] at H
       exact absurd H (by simp)

end Go.Proofs.Ytjjnckgdpdelkaa.P

namespace Go.Proofs.Ytjjnckgdpdelkaa.P
open Go.RowKit Go.Proofs.YtjjnckgdpdelkaaW.PrintWords Go.Proofs.YtjjnckgdpdelkaaW.PrintLast Go.Proofs.YtjjnckgdpdelkaaW.PrintMore
attribute [local go_sem] max2_int min2_int max_two min_two max_three min_three max_four min_four   -- for this text's walks alone
set_option linter.unusedVariables false
set_option linter.unusedSimpArgs false

/-! ### spec_l91Said: function 26 -/
def spec_l91Said.f (k:Nat) (s0_0:List Int) (s0_1:Int):Option (ByteArray × Int):=(spec_l6Rd_pick.f k s0_0 s0_1 4).bind fun bt137=>((spec_l91Term.f k s0_0 bt137.2 bt137.1).bind fun bt139=>((spec_l6Rd_pick.f k s0_0 bt139.2 16).bind fun bt141=>(if bt141.1=0 then ((spec_l6Rd_pick.f k s0_0 bt141.2 (wrap64 ((bt139.1.size:Int)+1))).bind fun bt143=>(if 0≤bt143.1 then (if bt143.1≤(bt139.1.size:Int) then ((some (([(⟨#[]⟩:ByteArray),(⟨#[98]⟩:ByteArray),(⟨#[40]⟩:ByteArray),(⟨#[41]⟩:ByteArray),(⟨#[43]⟩:ByteArray)]:List ByteArray):List ByteArray)).bind fun y145=>((spec_l6Rd_pick.f k s0_0 bt143.2 5).bind fun bt148=>(if 0≤bt148.1 then (if bt148.1<(y145.length:Int) then (if (bt139.1.extract 0 (bt143.1:Int).toNat).size+(rdOf ByteArray.empty y145 bt148.1).size≤9223372036854775807 then (if (bt139.1.extract 0 (bt143.1:Int).toNat).size+(rdOf ByteArray.empty y145 bt148.1).size+(bt139.1.extract (bt143.1:Int).toNat bt139.1.size).size≤9223372036854775807 then (some (((bt139.1.extract 0 (bt143.1:Int).toNat)++(rdOf ByteArray.empty y145 bt148.1))++(bt139.1.extract (bt143.1:Int).toNat bt139.1.size),bt148.2)) else (none)) else (none)) else (none)) else (none)))) else (none)) else (none))) else (some (bt139.1,bt141.2)))))
theorem spec_l91Said.mono:∀ a0 a1 k,LeO (spec_l91Said.f k a0 a1) (spec_l91Said.f (k+1) a0 a1):=by
 intro a0 a1 k
 unfold spec_l91Said.f
 repeat' first
   | (with_reducible exact spec_l6Rd_pick.mono _ _ _ _)
   | (with_reducible exact spec_l91Term.mono _ _ _ _)
   | (with_reducible exact LeO.refl _)
   | (with_reducible exact LeO.none _)
   | (with_reducible refine LeO.ite ?_ ?_)
   | (with_reducible refine LeO.bind ?_ (fun _=>?_))
   | exact spec_l6Rd_pick.mono _ _ _ _
   | exact spec_l91Term.mono _ _ _ _
   | exact LeO.none _
   | refine LeO.ite ?_ ?_
   | refine LeO.bind ?_ (fun _=>?_)
def spec_l91Said.T4:Bool × List (List Nat × List Nat):=(true,[([],[]),([],[]),([0,1],[0,1]),([],[]),([],[]),([4],[4]),([3,5],[3,5]),([6],[6]),([2,7],[2,7]),([],[]),([],[]),([9,10],[9,10]),([8,11],[8,11]),([12,5,0,1,2,3,4,5,6,7,8,9,10,11,12],[12])])
def spec_l91Said.B4:List Nat:=[0,0,3,0,0,16,56,120,255,0,0,1536,4095,8191]
theorem spec_l91Said.tab4:rtab .any (opsOf Try.f26 4)=spec_l91Said.T4:=by kernel_rfl
theorem spec_l91Said.bits4:waitsOk spec_l91Said.T4.2 spec_l91Said.B4=true:=by kernel_rfl
set_option maxHeartbeats 8000000 in
set_option maxRecDepth 100000 in
theorem spec_l91Said.calls (k:Nat) (g:Nat) (s0_0:List Int) (s0_1:Int) (r1:ByteArray) (r2:Int) (w0 w:World) (hI:IsS60 w0 w g s0_0 s0_1) (hB:Below w0.heap.size w0 w) (h:spec_l91Said.f k s0_0 s0_1=some (r1,r2)) :
  Calls Try.prog 26 #[.pointer (some ⟨g,0,none⟩)] w fun e w'=>e=.returned (.string r1)∧IsS60 w0 w' g s0_0 r2∧Below w0.heap.size w0 w'∧KeepBut w w' g none:=by
 have HI0:=Aside0.mk hI
 have HK:=Aside0.mk (KeepBut.refl w g none)
 have HL:=Aside0.mk hB.size
 clear hI
 have HW0:=Aside0.mk hB.size
 have HB:=Aside0.mk hB
 clear hB
 have H:((spec_l6Rd_pick.f k s0_0 s0_1 4).bind fun bt137=>((spec_l91Term.f k s0_0 bt137.2 bt137.1).bind fun bt139=>((spec_l6Rd_pick.f k s0_0 bt139.2 16).bind fun bt141=>(if bt141.1=0 then ((spec_l6Rd_pick.f k s0_0 bt141.2 (wrap64 ((bt139.1.size:Int)+1))).bind fun bt143=>(if 0≤bt143.1 then (if bt143.1≤(bt139.1.size:Int) then ((some (([(⟨#[]⟩:ByteArray),(⟨#[98]⟩:ByteArray),(⟨#[40]⟩:ByteArray),(⟨#[41]⟩:ByteArray),(⟨#[43]⟩:ByteArray)]:List ByteArray):List ByteArray)).bind fun y145=>((spec_l6Rd_pick.f k s0_0 bt143.2 5).bind fun bt148=>(if 0≤bt148.1 then (if bt148.1<(y145.length:Int) then (if (bt139.1.extract 0 (bt143.1:Int).toNat).size+(rdOf ByteArray.empty y145 bt148.1).size≤9223372036854775807 then (if (bt139.1.extract 0 (bt143.1:Int).toNat).size+(rdOf ByteArray.empty y145 bt148.1).size+(bt139.1.extract (bt143.1:Int).toNat bt139.1.size).size≤9223372036854775807 then (some (((bt139.1.extract 0 (bt143.1:Int).toNat)++(rdOf ByteArray.empty y145 bt148.1))++(bt139.1.extract (bt143.1:Int).toNat bt139.1.size),bt148.2)) else (none)) else (none)) else (none)) else (none)))) else (none)) else (none))) else (some (bt139.1,bt141.2))))))=some (r1,r2):=h
 clear h
 replace H:=Option.bind_eq_some_iff.mp H
 obtain ⟨⟨t137,t138⟩,A20,H⟩:=H
 replace H:((spec_l91Term.f k s0_0 t138 t137).bind fun bt139=>((spec_l6Rd_pick.f k s0_0 bt139.2 16).bind fun bt141=>(if bt141.1=0 then ((spec_l6Rd_pick.f k s0_0 bt141.2 (wrap64 ((bt139.1.size:Int)+1))).bind fun bt143=>(if 0≤bt143.1 then (if bt143.1≤(bt139.1.size:Int) then ((some (([(⟨#[]⟩:ByteArray),(⟨#[98]⟩:ByteArray),(⟨#[40]⟩:ByteArray),(⟨#[41]⟩:ByteArray),(⟨#[43]⟩:ByteArray)]:List ByteArray):List ByteArray)).bind fun y145=>((spec_l6Rd_pick.f k s0_0 bt143.2 5).bind fun bt148=>(if 0≤bt148.1 then (if bt148.1<(y145.length:Int) then (if (bt139.1.extract 0 (bt143.1:Int).toNat).size+(rdOf ByteArray.empty y145 bt148.1).size≤9223372036854775807 then (if (bt139.1.extract 0 (bt143.1:Int).toNat).size+(rdOf ByteArray.empty y145 bt148.1).size+(bt139.1.extract (bt143.1:Int).toNat bt139.1.size).size≤9223372036854775807 then (some (((bt139.1.extract 0 (bt143.1:Int).toNat)++(rdOf ByteArray.empty y145 bt148.1))++(bt139.1.extract (bt143.1:Int).toNat bt139.1.size),bt148.2)) else (none)) else (none)) else (none)) else (none)))) else (none)) else (none))) else (some (bt139.1,bt141.2)))))=some (r1,r2):=H
 have A2:=Aside0.mk A20
 clear A20
 replace H:=Option.bind_eq_some_iff.mp H
 obtain ⟨⟨t139,t140⟩,A30,H⟩:=H
 replace H:((spec_l6Rd_pick.f k s0_0 t140 16).bind fun bt141=>(if bt141.1=0 then ((spec_l6Rd_pick.f k s0_0 bt141.2 (wrap64 ((t139.size:Int)+1))).bind fun bt143=>(if 0≤bt143.1 then (if bt143.1≤(t139.size:Int) then ((some (([(⟨#[]⟩:ByteArray),(⟨#[98]⟩:ByteArray),(⟨#[40]⟩:ByteArray),(⟨#[41]⟩:ByteArray),(⟨#[43]⟩:ByteArray)]:List ByteArray):List ByteArray)).bind fun y145=>((spec_l6Rd_pick.f k s0_0 bt143.2 5).bind fun bt148=>(if 0≤bt148.1 then (if bt148.1<(y145.length:Int) then (if (t139.extract 0 (bt143.1:Int).toNat).size+(rdOf ByteArray.empty y145 bt148.1).size≤9223372036854775807 then (if (t139.extract 0 (bt143.1:Int).toNat).size+(rdOf ByteArray.empty y145 bt148.1).size+(t139.extract (bt143.1:Int).toNat t139.size).size≤9223372036854775807 then (some (((t139.extract 0 (bt143.1:Int).toNat)++(rdOf ByteArray.empty y145 bt148.1))++(t139.extract (bt143.1:Int).toNat t139.size),bt148.2)) else (none)) else (none)) else (none)) else (none)))) else (none)) else (none))) else (some (t139,bt141.2))))=some (r1,r2):=H
 have A3:=Aside0.mk A30
 clear A30
 replace H:=Option.bind_eq_some_iff.mp H
 obtain ⟨⟨t141,t142⟩,A40,H⟩:=H
 replace H:(if t141=0 then ((spec_l6Rd_pick.f k s0_0 t142 (wrap64 ((t139.size:Int)+1))).bind fun bt143=>(if 0≤bt143.1 then (if bt143.1≤(t139.size:Int) then ((some (([(⟨#[]⟩:ByteArray),(⟨#[98]⟩:ByteArray),(⟨#[40]⟩:ByteArray),(⟨#[41]⟩:ByteArray),(⟨#[43]⟩:ByteArray)]:List ByteArray):List ByteArray)).bind fun y145=>((spec_l6Rd_pick.f k s0_0 bt143.2 5).bind fun bt148=>(if 0≤bt148.1 then (if bt148.1<(y145.length:Int) then (if (t139.extract 0 (bt143.1:Int).toNat).size+(rdOf ByteArray.empty y145 bt148.1).size≤9223372036854775807 then (if (t139.extract 0 (bt143.1:Int).toNat).size+(rdOf ByteArray.empty y145 bt148.1).size+(t139.extract (bt143.1:Int).toNat t139.size).size≤9223372036854775807 then (some (((t139.extract 0 (bt143.1:Int).toNat)++(rdOf ByteArray.empty y145 bt148.1))++(t139.extract (bt143.1:Int).toNat t139.size),bt148.2)) else (none)) else (none)) else (none)) else (none)))) else (none)) else (none))) else (some (t139,t142)))=some (r1,r2):=H
 have A4:=Aside0.mk A40
 clear A40
 by_cases c5:t141=0
 ·rw [if_pos c5] at H
  have c5b0:(t141 == 0)=true:=beq_iff_eq.mpr c5
  have c5b1:(t141 != 0)=false:=bne_eq_false_iff_eq.mpr c5
  clear c5
  replace H:=Option.bind_eq_some_iff.mp H
  obtain ⟨⟨t143,t144⟩,A60,H⟩:=H
  replace H:(if 0≤t143 then (if t143≤(t139.size:Int) then ((some (([(⟨#[]⟩:ByteArray),(⟨#[98]⟩:ByteArray),(⟨#[40]⟩:ByteArray),(⟨#[41]⟩:ByteArray),(⟨#[43]⟩:ByteArray)]:List ByteArray):List ByteArray)).bind fun y145=>((spec_l6Rd_pick.f k s0_0 t144 5).bind fun bt148=>(if 0≤bt148.1 then (if bt148.1<(y145.length:Int) then (if (t139.extract 0 (t143:Int).toNat).size+(rdOf ByteArray.empty y145 bt148.1).size≤9223372036854775807 then (if (t139.extract 0 (t143:Int).toNat).size+(rdOf ByteArray.empty y145 bt148.1).size+(t139.extract (t143:Int).toNat t139.size).size≤9223372036854775807 then (some (((t139.extract 0 (t143:Int).toNat)++(rdOf ByteArray.empty y145 bt148.1))++(t139.extract (t143:Int).toNat t139.size),bt148.2)) else (none)) else (none)) else (none)) else (none)))) else (none)) else (none))=some (r1,r2):=H
  have A6:=Aside0.mk A60
  clear A60
  by_cases c7:0≤t143
  ·rw [if_pos c7] at H
   have c7b0:=eq_true c7
   have c7b1:decide (0≤t143)=true:=decide_eq_true c7
   clear c7
   by_cases c8:t143≤(t139.size:Int)
   ·rw [if_pos c8] at H
    have c8b0:=eq_true c8
    have c8b1:decide (t143≤(t139.size:Int))=true:=decide_eq_true c8
    clear c8
    obtain ⟨y145,hy145⟩:∃ y_:List ByteArray,y_=(([(⟨#[]⟩:ByteArray),(⟨#[98]⟩:ByteArray),(⟨#[40]⟩:ByteArray),(⟨#[41]⟩:ByteArray),(⟨#[43]⟩:ByteArray)]:List ByteArray)):=⟨_,rfl⟩
    replace H:((spec_l6Rd_pick.f k s0_0 t144 5).bind fun bt148=>(if 0≤bt148.1 then (if bt148.1<(y145.length:Int) then (if (t139.extract 0 (t143:Int).toNat).size+(rdOf ByteArray.empty y145 bt148.1).size≤9223372036854775807 then (if (t139.extract 0 (t143:Int).toNat).size+(rdOf ByteArray.empty y145 bt148.1).size+(t139.extract (t143:Int).toNat t139.size).size≤9223372036854775807 then (some (((t139.extract 0 (t143:Int).toNat)++(rdOf ByteArray.empty y145 bt148.1))++(t139.extract (t143:Int).toNat t139.size),bt148.2)) else (none)) else (none)) else (none)) else (none)))=some (r1,r2):=by first|(rw [hy145];with_reducible exact H)|(have H2_:=(Option.bind_some _ _).symm.trans H;rw [hy145];with_reducible exact H2_)|(have H2_:=(Option.bind_some _ _).symm.trans H;with_reducible exact H2_)|with_reducible exact H|(rw [hy145];exact H)|exact H
    have Ny145:=Aside0.mk hy145
    clear hy145
    replace H:=Option.bind_eq_some_iff.mp H
    obtain ⟨⟨t148,t149⟩,A90,H⟩:=H
    replace H:(if 0≤t148 then (if t148<(y145.length:Int) then (if (t139.extract 0 (t143:Int).toNat).size+(rdOf ByteArray.empty y145 t148).size≤9223372036854775807 then (if (t139.extract 0 (t143:Int).toNat).size+(rdOf ByteArray.empty y145 t148).size+(t139.extract (t143:Int).toNat t139.size).size≤9223372036854775807 then (some (((t139.extract 0 (t143:Int).toNat)++(rdOf ByteArray.empty y145 t148))++(t139.extract (t143:Int).toNat t139.size),t149)) else (none)) else (none)) else (none)) else (none))=some (r1,r2):=H
    have A9:=Aside0.mk A90
    clear A90
    by_cases c10:0≤t148
    ·rw [if_pos c10] at H
     have c10b0:decide (0≤t148)=true:=decide_eq_true c10
     clear c10
     by_cases c11:t148<(y145.length:Int)
     ·rw [if_pos c11] at H
      have c11b0:decide (t148<(y145.length:Int))=true:=decide_eq_true c11
      clear c11
      by_cases c12:(t139.extract 0 (t143:Int).toNat).size+(rdOf ByteArray.empty y145 t148).size≤9223372036854775807
      ·rw [if_pos c12] at H
       have c12b0:=eq_true c12
       have c12b1:decide ((t139.extract 0 (t143:Int).toNat).size+(rdOf ByteArray.empty y145 t148).size≤9223372036854775807)=true:=decide_eq_true c12
       try have c12b2:(9223372036854775807<(t139.extract 0 (t143:Int).toNat).size+(rdOf ByteArray.empty y145 t148).size)=False:=eq_false (Nat.not_lt.2 c12)
       have c13b0:=eq_true (of_decide_eq_true (by first|(with_reducible assumption)|assumption):0≤t143)
       have c14b0:=eq_true (of_decide_eq_true (by first|(with_reducible assumption)|assumption):t143≤(t139.size:Int))
       by_cases c15:(t139.extract 0 (t143:Int).toNat).size+(rdOf ByteArray.empty y145 t148).size+(t139.extract (t143:Int).toNat t139.size).size≤9223372036854775807
       ·rw [if_pos c15] at H
        have c15b0:=eq_true c15
        have c15b1:decide ((t139.extract 0 (t143:Int).toNat).size+(rdOf ByteArray.empty y145 t148).size+(t139.extract (t143:Int).toNat t139.size).size≤9223372036854775807)=true:=decide_eq_true c15
        try have c15b2:(9223372036854775807<(t139.extract 0 (t143:Int).toNat).size+(rdOf ByteArray.empty y145 t148).size+(t139.extract (t143:Int).toNat t139.size).size)=False:=eq_false (Nat.not_lt.2 c15)
        simp only [Option.some.injEq,Prod.mk.injEq] at H
        obtain ⟨rfl,rfl⟩:=H
        go_enter Try.func26,Try.ntmps26
        try go_wp2_with (first|((with_reducible refine gate_callee (f:=32) rfl ?_);refine goesL_ (some 7) rfl rfl Try.func32 (by kernel_rfl) rfl #[.pointer (some ⟨g,0,none⟩),.int .i64 4] rfl (by (try simp only [List.map_toArray,List.map_cons,List.map_nil]);first|done|rfl|(simp only [List.length_drop,List.length_take];rfl)) ?_;(with_reducible refine (spec_l6Rd_pick.calls k g s0_0 s0_1 4 t137 t138 w0 _ ?side1 ?side2 A2.out).mono ?_);(case side1=>repeat (first|(with_reducible first|exact HI0.out|apply IsS60.alloc|apply IsS60.drewN|apply IsS60.drew|apply IsS60.set_1)|exact HI0.out));(case side2=>repeat (first|(with_reducible first|exact HB.out|apply yA|apply yB|apply yC|refine yD ?_ (IsS60.ge HI0.out))|exact HB.out));rintro e w16 ⟨rfl,hi,hb,hk⟩;refine ⟨_,rfl,?_⟩;have n0_:=Aside0.mk (KeepBut.trans (by repeat (first|(with_reducible first|exact HK.out|apply KeepBut.set_|apply keep_drewN|apply keep_drew|apply keep_alloc)|exact HK.out)) hk (.inl rfl));have n1_:=Aside0.mk (hb);have n2_:=Aside0.mk (hi);clear HK;clear HB;clear HI0;have HK:=n0_;have HB:=n1_;have HI0:=n2_;clear n0_ n1_ n2_;(try clear hb);(try clear hb2);(try clear hk);(try clear hi))|((with_reducible refine gate_callee (f:=39) rfl ?_);refine goesL_ (some 8) rfl rfl Try.func39 (by kernel_rfl) rfl #[.pointer (some ⟨g,0,none⟩),.int .i64 t137] rfl (by (try simp only [List.map_toArray,List.map_cons,List.map_nil]);first|done|rfl|(simp only [List.length_drop,List.length_take];rfl)) ?_;(with_reducible refine (spec_l91Term.calls k g s0_0 t138 t137 t139 t140 w0 _ ?side1 ?side2 A3.out).mono ?_);(case side1=>repeat (first|(with_reducible first|exact HI0.out|apply IsS60.alloc|apply IsS60.drewN|apply IsS60.drew|apply IsS60.set_1)|exact HI0.out));(case side2=>repeat (first|(with_reducible first|exact HB.out|apply yA|apply yB|apply yC|refine yD ?_ (IsS60.ge HI0.out))|exact HB.out));rintro e w17 ⟨rfl,hi,hb,hk⟩;refine ⟨_,rfl,?_⟩;have n0_:=Aside0.mk (KeepBut.trans (by repeat (first|(with_reducible first|exact HK.out|apply KeepBut.set_|apply keep_drewN|apply keep_drew|apply keep_alloc)|exact HK.out)) hk (.inl rfl));have n1_:=Aside0.mk (hb);have n2_:=Aside0.mk (hi);clear HK;clear HB;clear HI0;have HK:=n0_;have HB:=n1_;have HI0:=n2_;clear n0_ n1_ n2_;(try clear hb);(try clear hb2);(try clear hk);(try clear hi))|((with_reducible refine gate_callee (f:=32) rfl ?_);refine goesL_ (some 10) rfl rfl Try.func32 (by kernel_rfl) rfl #[.pointer (some ⟨g,0,none⟩),.int .i64 16] rfl (by (try simp only [List.map_toArray,List.map_cons,List.map_nil]);first|done|rfl|(simp only [List.length_drop,List.length_take];rfl)) ?_;(with_reducible refine (spec_l6Rd_pick.calls k g s0_0 t140 16 t141 t142 w0 _ ?side1 ?side2 A4.out).mono ?_);(case side1=>repeat (first|(with_reducible first|exact HI0.out|apply IsS60.alloc|apply IsS60.drewN|apply IsS60.drew|apply IsS60.set_1)|exact HI0.out));(case side2=>repeat (first|(with_reducible first|exact HB.out|apply yA|apply yB|apply yC|refine yD ?_ (IsS60.ge HI0.out))|exact HB.out));rintro e w18 ⟨rfl,hi,hb,hk⟩;refine ⟨_,rfl,?_⟩;have n0_:=Aside0.mk (KeepBut.trans (by repeat (first|(with_reducible first|exact HK.out|apply KeepBut.set_|apply keep_drewN|apply keep_drew|apply keep_alloc)|exact HK.out)) hk (.inl rfl));have n1_:=Aside0.mk (hb);have n2_:=Aside0.mk (hi);clear HK;clear HB;clear HI0;have HK:=n0_;have HB:=n1_;have HI0:=n2_;clear n0_ n1_ n2_;(try clear hb);(try clear hb2);(try clear hk);(try clear hi))|((with_reducible refine gate_callee (f:=32) rfl ?_);refine goesL_ (some 16) rfl rfl Try.func32 (by kernel_rfl) rfl #[.pointer (some ⟨g,0,none⟩),.int .i64 (wrap64 ((t139.size:Int)+1))] rfl (by (try simp only [List.map_toArray,List.map_cons,List.map_nil]);first|done|rfl|(simp only [List.length_drop,List.length_take];rfl)) ?_;(with_reducible refine (spec_l6Rd_pick.calls k g s0_0 t142 (wrap64 ((t139.size:Int)+1)) t143 t144 w0 _ ?side1 ?side2 A6.out).mono ?_);(case side1=>repeat (first|(with_reducible first|exact HI0.out|apply IsS60.alloc|apply IsS60.drewN|apply IsS60.drew|apply IsS60.set_1)|exact HI0.out));(case side2=>repeat (first|(with_reducible first|exact HB.out|apply yA|apply yB|apply yC|refine yD ?_ (IsS60.ge HI0.out))|exact HB.out));rintro e w19 ⟨rfl,hi,hb,hk⟩;refine ⟨_,rfl,?_⟩;have n0_:=Aside0.mk (KeepBut.trans (by repeat (first|(with_reducible first|exact HK.out|apply KeepBut.set_|apply keep_drewN|apply keep_drew|apply keep_alloc)|exact HK.out)) hk (.inl rfl));have n1_:=Aside0.mk (hb);have n2_:=Aside0.mk (hi);clear HK;clear HB;clear HI0;have HK:=n0_;have HB:=n1_;have HI0:=n2_;clear n0_ n1_ n2_;(try clear hb);(try clear hb2);(try clear hk);(try clear hi)))
        have pi150:(0≤(t148:Int))=True:=eq_true (of_decide_eq_true (by first|(with_reducible assumption)|assumption))
        have qi150:(t148<(y145.length:Int))=True:=eq_true (of_decide_eq_true (by first|(with_reducible assumption)|assumption))
        have n0_:=Aside0.mk (IsS60.drew HI0.out)
        have n1_:=Aside0.mk (keep_drew HK.out)
        have n2_:=Aside0.mk (yC HB.out)
        clear HI0
        clear HK
        clear HB
        have HI0:=n0_
        have HK:=n1_
        have HB:=n2_
        clear n0_ n1_ n2_
        refine start_ (n:=14) (S:=fun w'=>True) (ds:=[]) #[false,false,false,false,false,false,false,false,false,false,false,false,false,false] (by kernel_rfl) rfl rfl trivial (fun hHeld=>?_);refine with_tabW spec_l91Said.tab4 spec_l91Said.bits4 (fun HT_ HW_=>?_)
        generalize w19.drew=w20 at HI0 HK HB hHeld ⊢
        refine pure_ (i:=0) (N:=some 17) (v:=?_) (a':=?_) #[true,false,false,false,false,false,false,false,false,false,false,false,false,false] rfl rfl (any_of HT_.out (by kernel_rfl)) (fun _ _ _ h=>h) (Or.inl ⟨by rfl,?_⟩) ?_ ?_
        rotate_left
        ·intro w'
         go_simp
         with_reducible rfl
        rotate_left
        ·simp only [Act.put,yK,yL,yM,i64_w,i32_w]
         rfl
        refine pure_ (i:=1) (N:=some 18) (v:=?_) (a':=?_) #[true,true,false,false,false,false,false,false,false,false,false,false,false,false] rfl rfl (any_of HT_.out (by kernel_rfl)) (fun _ _ _ h=>h) (Or.inl ⟨by rfl,?_⟩) ?_ ?_
        rotate_left
        ·intro w'
         go_simp
         with_reducible rfl
        rotate_left
        ·simp only [Act.put,yK,yL,yM,i64_w,i32_w]
         rfl
        refine pure_ (i:=4) (N:=some 21) (v:=?_) (a':=?_) #[true,true,false,false,true,false,false,false,false,false,false,false,false,false] rfl rfl (any_of HT_.out (by kernel_rfl)) (fun _ _ _ h=>h) (Or.inl ⟨by rfl,?_⟩) ?_ ?_
        rotate_left
        ·intro w'
         go_simp
         with_reducible rfl
        rotate_left
        ·simp only [Act.put,yK,yL,yM,i64_w,i32_w]
         rfl
        refine pure_ (i:=9) (N:=some 26) (v:=?_) (a':=?_) #[true,true,false,false,true,false,false,false,false,true,false,false,false,false] rfl rfl (any_of HT_.out (by kernel_rfl)) (fun _ _ _ h=>h) (Or.inl ⟨by rfl,?_⟩) ?_ ?_
        rotate_left
        ·intro w'
         go_simp
         with_reducible rfl
        rotate_left
        ·simp only [Act.put,yK,yL,yM,i64_w,i32_w]
         rfl
        refine pure_ (i:=10) (N:=some 27) (v:=?_) (a':=?_) #[true,true,false,false,true,false,false,false,false,true,true,false,false,false] rfl rfl (any_of HT_.out (by kernel_rfl)) (fun _ _ _ h=>h) (Or.inl ⟨by rfl,?_⟩) ?_ ?_
        rotate_left
        ·intro w'
         go_simp
         with_reducible rfl
        rotate_left
        ·simp only [Act.put,yK,yL,yM,i64_w,i32_w]
         rfl
        refine inv_at [2,3,5,6,7,8,11,12,13] (fun a0_ b a w'=>∃ (v146:Value) (adz_v146:Addr) (m6_:Value),a=putSel a0_ b [(2,19,.string (t139.extract 0 (t143:Int).toNat)),(3,20,v146),(5,22,.int .i64 t148),(6,23,m6_),(7,24,.string (rdOf ByteArray.empty y145 t148)),(8,25,.string ((t139.extract 0 (t143:Int).toNat)++(rdOf ByteArray.empty y145 t148))),(11,28,.string (t139.extract (t143:Int).toNat t139.size)),(12,29,.string (((t139.extract 0 (t143:Int).toNat)++(rdOf ByteArray.empty y145 t148))++(t139.extract (t143:Int).toNat t139.size))),(13,2,.string (((t139.extract 0 (t143:Int).toNat)++(rdOf ByteArray.empty y145 t148))++(t139.extract (t143:Int).toNat t139.size)))]∧(b 5=false→IsS60 w0 w' g s0_0 t144)∧(KeepBut w w' g none)∧(Below w0.heap.size w0 w')∧(b 3=true→Kd.R Kd.string 9 w' w.heap.size (fun _=>True) v146 y145)∧(b 3=true→∃ c_,(v146:Value)=.slice (some adz_v146) y145.length c_)∧(b 5=true→IsS60 w0 w' g s0_0 t149)∧(b 6=true→(m6_:Value)=.pointer (some (adz_v146.add (t148).toNat)))) HT_.out HW_.out (by kernel_rfl) (by kernel_rfl) ?_ ?_ ?_
        ·exact ⟨.bool false,⟨0,0,none⟩,.bool false,by simp only [putSel,Bool.false_eq_true,if_false],fun _=>HI0.out,HK.out,HB.out,fun h_=>absurd h_ (by decide),fun h_=>absurd h_ (by decide),fun h_=>absurd h_ (by decide),fun h_=>absurd h_ (by decide)⟩
        ·skip
         clear HB HI0 HK
         refine steps_cons ?_ ?_
         ·rintro b a w' ⟨v146,adz_v146,m6_,ha,Q_HI0,Q_HK,Q_HB,Q_HO147,Q_HA_HO147,Q_HI0_e5,Q_X6_⟩ hb_ hon hoff
          refine ⟨_,rfl,fun K hK=>?_⟩
          have e17:a.tmps[17]?=some (.string t139):=by rw [ha];exact (putSel_off rfl).trans rfl
          have e18:a.tmps[18]?=some (.int .i64 t143):=by rw [ha];exact (putSel_off rfl).trans rfl
          replace ha:=Aside0.mk ha
          have HK:=Aside0.mk Q_HK
          have HB:=Aside0.mk Q_HB
          refine value_ (w1:=w') (v:=.string (t139.extract 0 (t143:Int).toNat)) (by rfl) rfl ?_ ?_
          ·go_simp
           (try simp only [i64_w])
           try first|rfl|(simp only [eq_iff_iff,iff_true,ByteArray.size_extract] at *;omega)
          refine hK.out _ _ ⟨v146,adz_v146,m6_,(by rw [ha.out];exact putSel_upk 0 hb_ rfl rfl rfl),Q_HI0,Q_HK,Q_HB,Q_HO147,Q_HA_HO147,Q_HI0_e5,Q_X6_⟩
         refine steps_cons ?_ ?_
         ·rintro b a w' ⟨v146,adz_v146,m6_,ha,Q_HI0,Q_HK,Q_HB,Q_HO147,Q_HA_HO147,Q_HI0_e5,Q_X6_⟩ hb_ hon hoff
          refine ⟨_,rfl,fun K hK=>?_⟩
          replace ha:=Aside0.mk ha
          have HK:=Aside0.mk Q_HK
          have HB:=Aside0.mk Q_HB
          refine Kd.R_lit_step Kd.string _ 9 ?hg (N:=20) ?hd (xs:=([(⟨#[]⟩:ByteArray),(⟨#[98]⟩:ByteArray),(⟨#[40]⟩:ByteArray),(⟨#[41]⟩:ByteArray),(⟨#[43]⟩:ByteArray)]:List ByteArray)) (inner:=[.string (⟨#[]⟩:ByteArray),.string (⟨#[98]⟩:ByteArray),.string (⟨#[40]⟩:ByteArray),.string (⟨#[41]⟩:ByteArray),.string (⟨#[43]⟩:ByteArray)]) (ok:=fun _=>True) (okp:=fun _=>True) ?hr ?hp (fun _ hk=>hk) trivial (Below.refl _ _) (Nat.le_refl _) (by simp) ?_;(case hd=>rfl);(case hg=>rfl);(case hr=>first|(go_simp;done)|(go_simp;rfl));(case hp=>exact (Reps.one (show Kd.M Kd.string _ _ _ (⟨#[]⟩:ByteArray) [.string (⟨#[]⟩:ByteArray)] from rfl) (Reps.one (show Kd.M Kd.string _ _ _ (⟨#[98]⟩:ByteArray) [.string (⟨#[98]⟩:ByteArray)] from rfl) (Reps.one (show Kd.M Kd.string _ _ _ (⟨#[40]⟩:ByteArray) [.string (⟨#[40]⟩:ByteArray)] from rfl) (Reps.one (show Kd.M Kd.string _ _ _ (⟨#[41]⟩:ByteArray) [.string (⟨#[41]⟩:ByteArray)] from rfl) (Reps.one (show Kd.M Kd.string _ _ _ (⟨#[43]⟩:ByteArray) [.string (⟨#[43]⟩:ByteArray)] from rfl) (Reps.none _ _)))))))
          intro v146 w21 ho22 hb hg_ hnew_
          clear hg_ hnew_
          (first|rw [← Ny145.out] at ho22|(simp only [Int.reduceToNat] at ho22;rw [← Ny145.out] at ho22))
          have n0_:=Aside0.mk (Kd.R_lower ho22 (keep_size (w:=w) (g:=g) (row:=none) (by repeat (first|(with_reducible first|exact HK.out|apply KeepBut.set_|apply keep_drewN|apply keep_drew|apply keep_alloc)|exact HK.out))))
          have n2_:=Aside0.mk (KeepBut.trans (by repeat (first|(with_reducible first|exact HK.out|apply KeepBut.set_|apply keep_drewN|apply keep_drew|apply keep_alloc)|exact HK.out)) (KeepBut.of_below hb g none) (.inl rfl))
          have n3_:=Aside0.mk (yP (by repeat (first|(with_reducible first|exact HB.out|apply yA|apply yB|apply yC)|exact HB.out)) hb)
          have z_HI0:=fun (h0_:b 5=false)=>(show IsS60 w0 w21 g s0_0 t144 from by first|exact (IsS60.below (by repeat (first|(with_reducible first|exact (Q_HI0 h0_)|apply IsS60.alloc|apply IsS60.drewN|apply IsS60.drew|apply IsS60.set_1)|exact (Q_HI0 h0_))) hb))
          have z_HI0_e5:=fun (h0_:b 5=true)=>(show IsS60 w0 w21 g s0_0 t149 from by first|exact (IsS60.below (by repeat (first|(with_reducible first|exact (Q_HI0_e5 h0_)|apply IsS60.alloc|apply IsS60.drewN|apply IsS60.drew|apply IsS60.set_1)|exact (Q_HI0_e5 h0_))) hb))
          clear HK
          clear HB
          have HO147:=n0_
          have HK:=n2_
          have HB:=n3_
          clear n0_ n2_ n3_
          clear hb ho22
          obtain ⟨Ao23,co23,eo23⟩:=Kd.R_slice HO147.out
          subst eo23
          obtain ⟨ado23,fo23,_⟩:=Kd.at_string (Kd.R_reads' HO147.out).2.2 0 (by decide) (by rw [Ny145.out];simp)
          cases fo23
          refine hK.out _ _ ⟨.slice (some ado23) y145.length co23,ado23,m6_,(by rw [ha.out];exact putSel_upk 1 hb_ rfl rfl rfl),z_HI0,(by repeat (first|(with_reducible first|exact HK.out|apply KeepBut.set_|apply keep_drewN|apply keep_drew|apply keep_alloc)|exact HK.out)),(by repeat (first|(with_reducible first|exact HB.out|apply yA|apply yB|apply yC)|exact HB.out)),fun _=>(by (with_reducible repeat (first|apply yH|apply yI|apply yJ));exact HO147.out),fun _=>⟨_,rfl⟩,z_HI0_e5,fun h0_=>absurd ((hoff 6 (by kernel_rfl)).symm.trans h0_) (by decide)⟩
         refine steps_cons ?_ ?_
         ·rintro b a w' ⟨v146,adz_v146,m6_,ha,Q_HI0,Q_HK,Q_HB,Q_HO147,Q_HA_HO147,Q_HI0_e5,Q_X6_⟩ hb_ hon hoff
          refine ⟨_,rfl,fun K hK=>?_⟩
          have e21:a.tmps[21]?=some (.pointer (some ⟨g,0,none⟩)):=by rw [ha];exact (putSel_off rfl).trans rfl
          replace ha:=Aside0.mk ha
          have HI0:=Aside0.mk (Q_HI0 hb_)
          have HK:=Aside0.mk Q_HK
          have HB:=Aside0.mk Q_HB
          refine goes_ Try.func32 (by kernel_rfl) rfl #[.pointer (some ⟨g,0,none⟩),.int .i64 5] (by rfl) rfl rfl (by first|(simp only [List.map_toArray,List.map_cons,List.map_nil,Act.eval,Array.getD_eq_getD_getElem?,Option.getD_some,e21];done)|(simp only [List.map_toArray,List.map_cons,List.map_nil,Act.eval,Array.getD_eq_getD_getElem?,Option.getD_some,e21];rfl)) ?_
          with_reducible refine (spec_l6Rd_pick.calls k g s0_0 t144 5 t148 t149 w0 _ ?side1 ?side2 A9.out).mono ?_
          (case side1=>repeat (first|(with_reducible first|exact HI0.out|apply IsS60.alloc|apply IsS60.drewN|apply IsS60.drew|apply IsS60.set_1)|exact HI0.out))
          (case side2=>repeat (first|(with_reducible first|exact HB.out|apply yA|apply yB|apply yC|refine yD ?_ (IsS60.ge HI0.out))|exact HB.out))
          rintro e w21 ⟨rfl,hi,hb,hk⟩
          refine ⟨_,rfl,?_⟩
          have n0_:=Aside0.mk (KeepBut.trans (by repeat (first|(with_reducible first|exact HK.out|apply KeepBut.set_|apply keep_drewN|apply keep_drew|apply keep_alloc)|exact HK.out)) hk (.inl rfl))
          have n1_:=Aside0.mk (hb)
          have n2_:=Aside0.mk (hi)
          have z_HO147:=fun (h0_:b 3=true)=>(show Kd.R Kd.string 9 w21 w.heap.size (fun _=>True) v146 y145 from by first|exact (Kd.R_mono (Kd.R_keep (IsS60.apart (show IsS60 w0 _ g s0_0 t144 from by repeat (first|(with_reducible first|exact HI0.out|apply IsS60.alloc|apply IsS60.drewN|apply IsS60.drew|apply IsS60.set_1)|exact HI0.out)) (by (with_reducible repeat (first|apply yH|apply yI|apply yJ));exact (Q_HO147 h0_)) (by decide)) hk (fun _ h=>h.2)) (fun _ h=>h.1))|exact Kd.R_mono (Kd.R_mono (Kd.R_keep (IsS60.apart (show IsS60 w0 _ g s0_0 t144 from by repeat (first|(with_reducible first|exact HI0.out|apply IsS60.alloc|apply IsS60.drewN|apply IsS60.drew|apply IsS60.set_1)|exact HI0.out)) (by (with_reducible repeat (first|apply yH|apply yI|apply yJ));exact (Q_HO147 h0_)) (by decide)) hk (fun _ h=>h.2)) (fun _ h=>h.1)) (fun _ h_=>by first|trivial|exact h_|exact h_.1))
          clear HK
          clear HB
          clear HI0
          have HK:=n0_
          have HB:=n1_
          have HI0:=n2_
          clear n0_ n1_ n2_
          (try clear hb)
          (try clear hb2)
          (try clear hk)
          (try clear hi)
          refine hK.out _ _ ⟨v146,adz_v146,m6_,(by rw [ha.out];exact putSel_upk 2 hb_ rfl rfl rfl),fun h0_=>absurd ((up_self b 5).symm.trans h0_) (by decide),(by repeat (first|(with_reducible first|exact HK.out|apply KeepBut.set_|apply keep_drewN|apply keep_drew|apply keep_alloc)|exact HK.out)),(by repeat (first|(with_reducible first|exact HB.out|apply yA|apply yB|apply yC|refine yD ?_ (IsS60.ge HI0.out))|exact HB.out)),z_HO147,Q_HA_HO147,fun _=>(by repeat (first|(with_reducible first|exact HI0.out|apply IsS60.alloc|apply IsS60.drewN|apply IsS60.drew|apply IsS60.set_1)|exact HI0.out)),fun h0_=>absurd ((hoff 6 (by kernel_rfl)).symm.trans h0_) (by decide)⟩
         refine steps_cons ?_ ?_
         ·rintro b a w' ⟨v146,adz_v146,m6_,ha,Q_HI0,Q_HK,Q_HB,Q_HO147,Q_HA_HO147,Q_HI0_e5,Q_X6_⟩ hb_ hon hoff
          refine ⟨_,rfl,fun K hK=>?_⟩
          have e20:a.tmps[20]?=some (v146):=by rw [ha];exact putSel_on (e:=(3,20,v146)) 1 rfl rfl (hon 3 (by kernel_rfl)) rfl
          have e22:a.tmps[22]?=some (.int .i64 t148):=by rw [ha];exact putSel_on (e:=(5,22,.int .i64 t148)) 2 rfl rfl (hon 5 (by kernel_rfl)) rfl
          replace ha:=Aside0.mk ha
          have HK:=Aside0.mk Q_HK
          have HB:=Aside0.mk Q_HB
          have HO147:=Aside0.mk (Q_HO147 (hon 3 (by kernel_rfl)))
          have HA_HO147:=Aside0.mk (Q_HA_HO147 (hon 3 (by kernel_rfl)))
          have HI0:=Aside0.mk (Q_HI0_e5 (hon 5 (by kernel_rfl)))
          obtain ⟨c_,hv_⟩:=HA_HO147.out
          rw [hv_] at e20
          refine value_ (w1:=w') (v:=.pointer (some (adz_v146.add (t148).toNat))) (by rfl) rfl ?_ ?_
          ·go_simp
           (try simp only [i64_w])
           try first|rfl|(simp only [eq_iff_iff,iff_true,ByteArray.size_extract] at *;omega)
          refine hK.out _ _ ⟨v146,adz_v146,(.pointer (some (adz_v146.add (t148).toNat))),(by rw [ha.out];exact putSel_upk 3 hb_ rfl rfl rfl),fun h0_=>absurd ((hon 5 (by kernel_rfl)).symm.trans h0_) (by decide),Q_HK,Q_HB,Q_HO147,Q_HA_HO147,Q_HI0_e5,fun _=>rfl⟩
         refine steps_cons ?_ ?_
         ·rintro b a w' ⟨v146,adz_v146,m6_,ha,Q_HI0,Q_HK,Q_HB,Q_HO147,Q_HA_HO147,Q_HI0_e5,Q_X6_⟩ hb_ hon hoff
          refine ⟨_,rfl,fun K hK=>?_⟩
          have e23:a.tmps[23]?=some (m6_):=by rw [ha];exact putSel_on (e:=(6,23,m6_)) 3 rfl rfl (hon 6 (by kernel_rfl)) rfl
          rw [Q_X6_ (hon 6 (by kernel_rfl))] at e23
          replace ha:=Aside0.mk ha
          have HK:=Aside0.mk Q_HK
          have HB:=Aside0.mk Q_HB
          have HO147:=Aside0.mk (Q_HO147 (hon 3 (by kernel_rfl)))
          have HA_HO147:=Aside0.mk (Q_HA_HO147 (hon 3 (by kernel_rfl)))
          have HI0:=Aside0.mk (Q_HI0_e5 (hon 5 (by kernel_rfl)))
          obtain ⟨c_,hv_⟩:=HA_HO147.out
          have hF_:=HO147.out
          rw [hv_] at hF_
          obtain ⟨ad_,ea_,hx_⟩:=Kd.at_string (Kd.R_reads' hF_).2.2 t148 (of_eq_true pi150) (of_eq_true qi150)
          cases ea_
          refine value_ (w1:=w') (v:=.string (rdOf ByteArray.empty y145 t148)) (by rfl) rfl ?_ ?_
          ·go_simp
           (try simp only [i64_w])
           try first|rfl|(simp only [eq_iff_iff,iff_true,ByteArray.size_extract] at *;omega)
          refine hK.out _ _ ⟨v146,adz_v146,m6_,(by rw [ha.out];exact putSel_upk 4 hb_ rfl rfl rfl),fun h0_=>absurd ((hon 5 (by kernel_rfl)).symm.trans h0_) (by decide),Q_HK,Q_HB,Q_HO147,Q_HA_HO147,Q_HI0_e5,Q_X6_⟩
         refine steps_cons ?_ ?_
         ·rintro b a w' ⟨v146,adz_v146,m6_,ha,Q_HI0,Q_HK,Q_HB,Q_HO147,Q_HA_HO147,Q_HI0_e5,Q_X6_⟩ hb_ hon hoff
          refine ⟨_,rfl,fun K hK=>?_⟩
          have e19:a.tmps[19]?=some (.string (t139.extract 0 (t143:Int).toNat)):=by rw [ha];exact putSel_on (e:=(2,19,.string (t139.extract 0 (t143:Int).toNat))) 0 rfl rfl (hon 2 (by kernel_rfl)) rfl
          have e24:a.tmps[24]?=some (.string (rdOf ByteArray.empty y145 t148)):=by rw [ha];exact putSel_on (e:=(7,24,.string (rdOf ByteArray.empty y145 t148))) 4 rfl rfl (hon 7 (by kernel_rfl)) rfl
          replace ha:=Aside0.mk ha
          have HK:=Aside0.mk Q_HK
          have HB:=Aside0.mk Q_HB
          have HO147:=Aside0.mk (Q_HO147 (hon 3 (by kernel_rfl)))
          have HA_HO147:=Aside0.mk (Q_HA_HO147 (hon 3 (by kernel_rfl)))
          have HI0:=Aside0.mk (Q_HI0_e5 (hon 5 (by kernel_rfl)))
          refine value_ (w1:=w') (v:=.string ((t139.extract 0 (t143:Int).toNat)++(rdOf ByteArray.empty y145 t148))) (by rfl) rfl ?_ ?_
          ·go_simp
           (try simp only [i64_w])
           try first|rfl|(simp only [eq_iff_iff,iff_true,ByteArray.size_extract] at *;omega)
          refine hK.out _ _ ⟨v146,adz_v146,m6_,(by rw [ha.out];exact putSel_upk 5 hb_ rfl rfl rfl),fun h0_=>absurd ((hon 5 (by kernel_rfl)).symm.trans h0_) (by decide),Q_HK,Q_HB,Q_HO147,Q_HA_HO147,Q_HI0_e5,Q_X6_⟩
         refine steps_cons ?_ ?_
         ·rintro b a w' ⟨v146,adz_v146,m6_,ha,Q_HI0,Q_HK,Q_HB,Q_HO147,Q_HA_HO147,Q_HI0_e5,Q_X6_⟩ hb_ hon hoff
          refine ⟨_,rfl,fun K hK=>?_⟩
          have e26:a.tmps[26]?=some (.string t139):=by rw [ha];exact (putSel_off rfl).trans rfl
          have e27:a.tmps[27]?=some (.int .i64 t143):=by rw [ha];exact (putSel_off rfl).trans rfl
          replace ha:=Aside0.mk ha
          have HK:=Aside0.mk Q_HK
          have HB:=Aside0.mk Q_HB
          refine value_ (w1:=w') (v:=.string (t139.extract (t143:Int).toNat t139.size)) (by rfl) rfl ?_ ?_
          ·go_simp
           (try simp only [i64_w])
           try first|rfl|(simp only [eq_iff_iff,iff_true,ByteArray.size_extract] at *;omega)
          refine hK.out _ _ ⟨v146,adz_v146,m6_,(by rw [ha.out];exact putSel_upk 6 hb_ rfl rfl rfl),Q_HI0,Q_HK,Q_HB,Q_HO147,Q_HA_HO147,Q_HI0_e5,Q_X6_⟩
         refine steps_cons ?_ ?_
         ·rintro b a w' ⟨v146,adz_v146,m6_,ha,Q_HI0,Q_HK,Q_HB,Q_HO147,Q_HA_HO147,Q_HI0_e5,Q_X6_⟩ hb_ hon hoff
          refine ⟨_,rfl,fun K hK=>?_⟩
          have e25:a.tmps[25]?=some (.string ((t139.extract 0 (t143:Int).toNat)++(rdOf ByteArray.empty y145 t148))):=by rw [ha];exact putSel_on (e:=(8,25,.string ((t139.extract 0 (t143:Int).toNat)++(rdOf ByteArray.empty y145 t148)))) 5 rfl rfl (hon 8 (by kernel_rfl)) rfl
          have e28:a.tmps[28]?=some (.string (t139.extract (t143:Int).toNat t139.size)):=by rw [ha];exact putSel_on (e:=(11,28,.string (t139.extract (t143:Int).toNat t139.size))) 6 rfl rfl (hon 11 (by kernel_rfl)) rfl
          replace ha:=Aside0.mk ha
          have HK:=Aside0.mk Q_HK
          have HB:=Aside0.mk Q_HB
          have HO147:=Aside0.mk (Q_HO147 (hon 3 (by kernel_rfl)))
          have HA_HO147:=Aside0.mk (Q_HA_HO147 (hon 3 (by kernel_rfl)))
          have HI0:=Aside0.mk (Q_HI0_e5 (hon 5 (by kernel_rfl)))
          refine value_ (w1:=w') (v:=.string (((t139.extract 0 (t143:Int).toNat)++(rdOf ByteArray.empty y145 t148))++(t139.extract (t143:Int).toNat t139.size))) (by rfl) rfl ?_ ?_
          ·go_simp
           (try simp only [i64_w])
           try first|rfl|(simp only [eq_iff_iff,iff_true,ByteArray.size_extract] at *;omega)
          refine hK.out _ _ ⟨v146,adz_v146,m6_,(by rw [ha.out];exact putSel_upk 7 hb_ rfl rfl rfl),fun h0_=>absurd ((hon 5 (by kernel_rfl)).symm.trans h0_) (by decide),Q_HK,Q_HB,Q_HO147,Q_HA_HO147,Q_HI0_e5,Q_X6_⟩
         refine steps_cons ?_ ?_
         ·rintro b a w' ⟨v146,adz_v146,m6_,ha,Q_HI0,Q_HK,Q_HB,Q_HO147,Q_HA_HO147,Q_HI0_e5,Q_X6_⟩ hb_ hon hoff
          refine ⟨_,rfl,fun K hK=>?_⟩
          have e29:a.tmps[29]?=some (.string (((t139.extract 0 (t143:Int).toNat)++(rdOf ByteArray.empty y145 t148))++(t139.extract (t143:Int).toNat t139.size))):=by rw [ha];exact putSel_on (e:=(12,29,.string (((t139.extract 0 (t143:Int).toNat)++(rdOf ByteArray.empty y145 t148))++(t139.extract (t143:Int).toNat t139.size)))) 7 rfl rfl (hon 12 (by kernel_rfl)) rfl
          replace ha:=Aside0.mk ha
          have HK:=Aside0.mk Q_HK
          have HB:=Aside0.mk Q_HB
          have HO147:=Aside0.mk (Q_HO147 (hon 3 (by kernel_rfl)))
          have HA_HO147:=Aside0.mk (Q_HA_HO147 (hon 3 (by kernel_rfl)))
          have HI0:=Aside0.mk (Q_HI0_e5 (hon 5 (by kernel_rfl)))
          refine value_ (w1:=w') (v:=.string (((t139.extract 0 (t143:Int).toNat)++(rdOf ByteArray.empty y145 t148))++(t139.extract (t143:Int).toNat t139.size))) (by rfl) rfl ?_ ?_
          ·go_simp
           (try simp only [i64_w])
           try first|rfl|(simp only [eq_iff_iff,iff_true,ByteArray.size_extract] at *;omega)
          refine hK.out _ _ ⟨v146,adz_v146,m6_,(by rw [ha.out];exact putSel_upk 8 hb_ rfl rfl rfl),fun h0_=>absurd ((hon 5 (by kernel_rfl)).symm.trans h0_) (by decide),Q_HK,Q_HB,Q_HO147,Q_HA_HO147,Q_HI0_e5,Q_X6_⟩
         exact steps_nil
        rintro b a w25 hall ⟨v146,adz_v146,m6_,ha,Q_HI0,Q_HK,Q_HB,Q_HO147,Q_HA_HO147,Q_HI0_e5,Q_X6_⟩
        clear HB HI0 HK
        have hb2_:=hall 2 (by kernel_rfl)
        have hb3_:=hall 3 (by kernel_rfl)
        have hb5_:=hall 5 (by kernel_rfl)
        have hb6_:=hall 6 (by kernel_rfl)
        have hb7_:=hall 7 (by kernel_rfl)
        have hb8_:=hall 8 (by kernel_rfl)
        have hb11_:=hall 11 (by kernel_rfl)
        have hb12_:=hall 12 (by kernel_rfl)
        have hb13_:=hall 13 (by kernel_rfl)
        subst ha
        obtain rfl:=Q_X6_ hb6_
        simp only [putSel,hb2_,hb3_,hb5_,hb6_,hb7_,hb8_,hb11_,hb12_,hb13_,if_true,Act.put,yK,yL,yM]
        clear Q_HI0
        have HK:=Aside0.mk Q_HK
        clear Q_HK
        have HB:=Aside0.mk Q_HB
        clear Q_HB
        have HO147:=Aside0.mk (Q_HO147 hb3_)
        clear Q_HO147
        have HA_HO147:=Aside0.mk (Q_HA_HO147 hb3_)
        clear Q_HA_HO147
        have HI0:=Aside0.mk (Q_HI0_e5 hb5_)
        clear Q_HI0_e5
        clear hall hb2_ hb3_ hb5_ hb6_ hb7_ hb8_ hb11_ hb12_ hb13_
        obtain ⟨co26,eo26⟩:=HA_HO147.out
        clear HA_HO147
        subst eo26
        try go_wp2
        go_ret
        exact ⟨by first|rfl|(simp [errW_none,errW_some]<;>rfl)|(simp [*,errW_none,errW_some]<;>rfl)|(simp [errW_none,errW_some];exact ⟨rfl,rfl⟩),by repeat (first|(with_reducible first|exact HI0.out|apply IsS60.alloc|apply IsS60.drewN|apply IsS60.drew|apply IsS60.set_1)|exact HI0.out),by repeat (first|(with_reducible first|exact HB.out|apply yA|apply yB|apply yC|refine yD ?_ (IsS60.ge HI0.out))|exact HB.out),by repeat (first|(with_reducible first|exact HK.out|apply KeepBut.set_|apply keep_drewN|apply keep_drew|apply keep_alloc)|exact HK.out)⟩
       ·rw [if_neg c15] at H
        exact absurd H (by simp)
      ·rw [if_neg c12] at H
       exact absurd H (by simp)
     ·rw [if_neg c11] at H
      exact absurd H (by simp)
    ·rw [if_neg c10] at H
     exact absurd H (by simp)
   ·rw [if_neg c8] at H
    exact absurd H (by simp)
  ·rw [if_neg c7] at H
   exact absurd H (by simp)
 ·rw [if_neg c5] at H
  have c5b0:(t141 == 0)=false:=beq_eq_false_iff_ne.mpr c5
  have c5b1:(t141 != 0)=true:=bne_iff_ne.mpr c5
  simp only [Option.some.injEq,Prod.mk.injEq] at H
  obtain ⟨rfl,rfl⟩:=H
  go_enter Try.func26,Try.ntmps26
  go_wp2_with (first|((with_reducible refine gate_callee (f:=32) rfl ?_);refine goesL_ (some 7) rfl rfl Try.func32 (by kernel_rfl) rfl #[.pointer (some ⟨g,0,none⟩),.int .i64 4] rfl (by (try simp only [List.map_toArray,List.map_cons,List.map_nil]);first|done|rfl|(simp only [List.length_drop,List.length_take];rfl)) ?_;(with_reducible refine (spec_l6Rd_pick.calls k g s0_0 s0_1 4 t137 t138 w0 _ ?side1 ?side2 A2.out).mono ?_);(case side1=>repeat (first|(with_reducible first|exact HI0.out|apply IsS60.alloc|apply IsS60.drewN|apply IsS60.drew|apply IsS60.set_1)|exact HI0.out));(case side2=>repeat (first|(with_reducible first|exact HB.out|apply yA|apply yB|apply yC|refine yD ?_ (IsS60.ge HI0.out))|exact HB.out));rintro e w27 ⟨rfl,hi,hb,hk⟩;refine ⟨_,rfl,?_⟩;have n0_:=Aside0.mk (KeepBut.trans (by repeat (first|(with_reducible first|exact HK.out|apply KeepBut.set_|apply keep_drewN|apply keep_drew|apply keep_alloc)|exact HK.out)) hk (.inl rfl));have n1_:=Aside0.mk (hb);have n2_:=Aside0.mk (hi);clear HK;clear HB;clear HI0;have HK:=n0_;have HB:=n1_;have HI0:=n2_;clear n0_ n1_ n2_;(try clear hb);(try clear hb2);(try clear hk);(try clear hi))|((with_reducible refine gate_callee (f:=39) rfl ?_);refine goesL_ (some 8) rfl rfl Try.func39 (by kernel_rfl) rfl #[.pointer (some ⟨g,0,none⟩),.int .i64 t137] rfl (by (try simp only [List.map_toArray,List.map_cons,List.map_nil]);first|done|rfl|(simp only [List.length_drop,List.length_take];rfl)) ?_;(with_reducible refine (spec_l91Term.calls k g s0_0 t138 t137 t139 t140 w0 _ ?side1 ?side2 A3.out).mono ?_);(case side1=>repeat (first|(with_reducible first|exact HI0.out|apply IsS60.alloc|apply IsS60.drewN|apply IsS60.drew|apply IsS60.set_1)|exact HI0.out));(case side2=>repeat (first|(with_reducible first|exact HB.out|apply yA|apply yB|apply yC|refine yD ?_ (IsS60.ge HI0.out))|exact HB.out));rintro e w28 ⟨rfl,hi,hb,hk⟩;refine ⟨_,rfl,?_⟩;have n0_:=Aside0.mk (KeepBut.trans (by repeat (first|(with_reducible first|exact HK.out|apply KeepBut.set_|apply keep_drewN|apply keep_drew|apply keep_alloc)|exact HK.out)) hk (.inl rfl));have n1_:=Aside0.mk (hb);have n2_:=Aside0.mk (hi);clear HK;clear HB;clear HI0;have HK:=n0_;have HB:=n1_;have HI0:=n2_;clear n0_ n1_ n2_;(try clear hb);(try clear hb2);(try clear hk);(try clear hi))|((with_reducible refine gate_callee (f:=32) rfl ?_);refine goesL_ (some 10) rfl rfl Try.func32 (by kernel_rfl) rfl #[.pointer (some ⟨g,0,none⟩),.int .i64 16] rfl (by (try simp only [List.map_toArray,List.map_cons,List.map_nil]);first|done|rfl|(simp only [List.length_drop,List.length_take];rfl)) ?_;(with_reducible refine (spec_l6Rd_pick.calls k g s0_0 t140 16 t141 t142 w0 _ ?side1 ?side2 A4.out).mono ?_);(case side1=>repeat (first|(with_reducible first|exact HI0.out|apply IsS60.alloc|apply IsS60.drewN|apply IsS60.drew|apply IsS60.set_1)|exact HI0.out));(case side2=>repeat (first|(with_reducible first|exact HB.out|apply yA|apply yB|apply yC|refine yD ?_ (IsS60.ge HI0.out))|exact HB.out));rintro e w29 ⟨rfl,hi,hb,hk⟩;refine ⟨_,rfl,?_⟩;have n0_:=Aside0.mk (KeepBut.trans (by repeat (first|(with_reducible first|exact HK.out|apply KeepBut.set_|apply keep_drewN|apply keep_drew|apply keep_alloc)|exact HK.out)) hk (.inl rfl));have n1_:=Aside0.mk (hb);have n2_:=Aside0.mk (hi);clear HK;clear HB;clear HI0;have HK:=n0_;have HB:=n1_;have HI0:=n2_;clear n0_ n1_ n2_;(try clear hb);(try clear hb2);(try clear hk);(try clear hi)))
  go_ret
  exact ⟨by first|rfl|(simp [errW_none,errW_some]<;>rfl)|(simp [*,errW_none,errW_some]<;>rfl)|(simp [errW_none,errW_some];exact ⟨rfl,rfl⟩),by repeat (first|(with_reducible first|exact HI0.out|apply IsS60.alloc|apply IsS60.drewN|apply IsS60.drew|apply IsS60.set_1)|exact HI0.out),by repeat (first|(with_reducible first|exact HB.out|apply yA|apply yB|apply yC|refine yD ?_ (IsS60.ge HI0.out))|exact HB.out),by repeat (first|(with_reducible first|exact HK.out|apply KeepBut.set_|apply keep_drewN|apply keep_drew|apply keep_alloc)|exact HK.out)⟩

end Go.Proofs.Ytjjnckgdpdelkaa.P

namespace Go.Proofs.Ytjjnckgdpdelkaa.P
open Go.RowKit Go.Proofs.YtjjnckgdpdelkaaW.PrintWords Go.Proofs.YtjjnckgdpdelkaaW.PrintLast Go.Proofs.YtjjnckgdpdelkaaW.PrintMore
attribute [local go_sem] max2_int min2_int max_two min_two max_three min_three max_four min_four   -- for this text's walks alone
set_option linter.unusedVariables false
set_option linter.unusedSimpArgs false

/-! ### spec_DrawTermTidy: function 21 -/
def spec_DrawTermTidy.f (k:Nat) (l0:List Int):Option (ByteArray):=(spec_l6Open.f l0).bind fun bt332=>((spec_l91Said.f k bt332.1 bt332.2).bind fun bt335=>(some bt335.1))
theorem spec_DrawTermTidy.mono:∀ a0 k,LeO (spec_DrawTermTidy.f k a0) (spec_DrawTermTidy.f (k+1) a0):=by
 intro a0 k
 unfold spec_DrawTermTidy.f
 repeat' first
   | (with_reducible exact spec_l91Said.mono _ _ _)
   | (with_reducible exact LeO.refl _)
   | (with_reducible exact LeO.none _)
   | (with_reducible refine LeO.ite ?_ ?_)
   | (with_reducible refine LeO.bind ?_ (fun _=>?_))
   | exact spec_l91Said.mono _ _ _
   | exact LeO.none _
   | refine LeO.ite ?_ ?_
   | refine LeO.bind ?_ (fun _=>?_)
set_option maxHeartbeats 8000000 in
set_option maxRecDepth 100000 in
theorem spec_DrawTermTidy.calls (k:Nat) (A0:Option Addr) (c0:Nat) (l0:List Int) (r:ByteArray) (w:World) (hr0:Kd.C (Kd.int .u8) w A0 l0.length l0) (hc0:l0.length≤c0) (h:spec_DrawTermTidy.f k l0=some r) :
  Calls Try.prog 21 #[.slice A0 l0.length c0] w fun e w'=>e=.returned (.string r)∧Below w.heap.size w w':=by
 have HR0:=Aside0.mk hr0
 have HC0:=Aside0.mk hc0
 clear hr0 hc0
 have HB:=Aside0.mk (Below.refl w.heap.size w)
 have H:((spec_l6Open.f l0).bind fun bt332=>((spec_l91Said.f k bt332.1 bt332.2).bind fun bt335=>(some bt335.1)))=some r:=h
 clear h
 replace H:=Option.bind_eq_some_iff.mp H
 obtain ⟨⟨t332,t333⟩,A20,H⟩:=H
 replace H:((spec_l91Said.f k t332 t333).bind fun bt335=>(some bt335.1))=some r:=H
 have A2:=Aside0.mk A20
 clear A20
 replace H:=Option.bind_eq_some_iff.mp H
 obtain ⟨⟨t335,t336⟩,A30,H⟩:=H
 replace H:(some t335)=some r:=H
 have A3:=Aside0.mk A30
 clear A30
 obtain rfl:=Option.some.inj H
 go_enter Try.func21,Try.ntmps21
 go_wp2_with (first|((with_reducible refine gate_callee (f:=25) rfl ?_);refine goesL_ (some 5) rfl rfl Try.func25 (by kernel_rfl) rfl #[.slice A0 l0.length c0] rfl (by (try simp only [List.map_toArray,List.map_cons,List.map_nil]);first|done|rfl|(simp only [List.length_drop,List.length_take];rfl)) ?_;(with_reducible refine (spec_l6Open.calls _ _ l0 t332 t333 w _ ?side1 ?side2 ?side3 A2.out).mono ?_);(case side1=>repeat (first|(with_reducible first|exact HB.out|apply yA|apply yB|apply yC)|exact HB.out));(case side2=>exact HR0.out);(case side3=>exact HC0.out);rintro e w4 ⟨g334,rfl,hi,hb,hb2⟩;refine ⟨_,rfl,?_⟩;have n0_:=Aside0.mk (hb);have n1_:=Aside0.mk (hi);clear HB;have HB:=n0_;have HI334:=n1_;clear n0_ n1_;(try clear hb);(try clear hb2);(try clear hk);(try clear hi))|((with_reducible refine gate_callee (f:=26) rfl ?_);refine goesL_ (some 7) rfl rfl Try.func26 (by kernel_rfl) rfl #[.pointer (some ⟨g334,0,none⟩)] rfl (by (try simp only [List.map_toArray,List.map_cons,List.map_nil]);first|done|rfl|(simp only [List.length_drop,List.length_take];rfl)) ?_;(with_reducible refine (spec_l91Said.calls k g334 t332 t333 t335 t336 w _ ?side1 ?side2 A3.out).mono ?_);(case side1=>repeat (first|(with_reducible first|exact HI334.out|apply IsS60.alloc|apply IsS60.drewN|apply IsS60.drew|apply IsS60.set_1)|exact HI334.out));(case side2=>repeat (first|(with_reducible first|exact HB.out|apply yA|apply yB|apply yC|refine yD ?_ (IsS60.ge HI334.out))|exact HB.out));rintro e w5 ⟨rfl,hi,hb,hk⟩;refine ⟨_,rfl,?_⟩;have n0_:=Aside0.mk (hb);have n1_:=Aside0.mk (hi);clear HB;clear HI334;have HB:=n0_;have HI334:=n1_;clear n0_ n1_;(try clear hb);(try clear hb2);(try clear hk);(try clear hi)))
 go_ret
 exact ⟨by first|rfl|(simp [errW_none,errW_some]<;>rfl)|(simp [*,errW_none,errW_some]<;>rfl)|(simp [errW_none,errW_some];exact ⟨rfl,rfl⟩),by repeat (first|(with_reducible first|exact HB.out|apply yA|apply yB|apply yC|refine yD ?_ (IsS60.ge HI334.out))|exact HB.out)⟩

end Go.Proofs.Ytjjnckgdpdelkaa.P

-- The plain words of texts of signs.
namespace Go.Proofs.Ytjjnckgdpdelkaa.P
open Go.RowKit Go.Proofs.YtjjnckgdpdelkaaW.PrintWords Go.Proofs.YtjjnckgdpdelkaaW.PrintLast Go.Proofs.YtjjnckgdpdelkaaW.PrintMore
set_option linter.unusedVariables false
set_option linter.unusedSimpArgs false
theorem w64 {x : Int} (h0 : -9223372036854775808 ≤ x) (h1 : x ≤ 9223372036854775807) : wrap64 x = x := by unfold wrap64; omega
theorem wsucc {i : Nat} (h : i ≤ 4611686018427387904) : wrap64 ((i : Int) + 1) = ((i + 1 : Nat) : Int) := by rw [w64 (by omega) (by omega)]; omega
theorem wadd {i j : Nat} (h : i + j ≤ 4611686018427387904) : wrap64 ((i : Int) + (j : Int)) = ((i + j : Nat) : Int) := by rw [w64 (by omega) (by omega)]; omega
theorem wsub {i j : Nat} (h : j ≤ i) (h2 : i ≤ 4611686018427387904) : wrap64 ((i : Int) - (j : Int)) = ((i - j : Nat) : Int) := by rw [w64 (by omega) (by omega)]; omega
theorem wpred {i : Nat} (h : 1 ≤ i) (h2 : i ≤ 4611686018427387904) : wrap64 ((i : Int) - 1) = ((i - 1 : Nat) : Int) := by rw [w64 (by omega) (by omega)]; omega
theorem wmul {i j : Nat} (h : i * j ≤ 4611686018427387904) : wrap64 ((i : Int) * (j : Int)) = ((i * j : Nat) : Int) := by
  have e : (i : Int) * (j : Int) = ((i * j : Nat) : Int) := (Int.natCast_mul i j).symm
  rw [e, w64 (by omega) (by omega)]
theorem tmod_nat (i j : Nat) : Int.tmod (i : Int) (j : Int) = ((i % j : Nat) : Int) := by rw [Int.tmod_eq_emod_of_nonneg (by omega)]; rfl
theorem tdiv_nat (i j : Nat) : Int.tdiv (i : Int) (j : Int) = ((i / j : Nat) : Int) := by rw [Int.tdiv_eq_ediv_of_nonneg (by omega)]; rfl
theorem rdOf_nat (l : List Bool) (i : Nat) : rdOf false l (i : Int) = l.getD i false := by simp [rdOf]
/-- The signs that a text of bytes tells. -/
def bitsL : List UInt8 → Option (List Bool)
  | [] => some []
  | c :: cs => if c = 48 then (bitsL cs).map (false :: ·) else if c = 49 then (bitsL cs).map (true :: ·) else none

def chrs (s : ByteArray) : List UInt8 := s.data.toList
theorem chrs_length (s : ByteArray) : (chrs s).length = s.size := by simp [chrs]
theorem bt_chr (s : ByteArray) {i : Nat} (h : i < s.size) : bt s (i : Int) = (((chrs s)[i]'(by rw [chrs_length]; exact h)).toNat : Int) := by
  unfold bt
  rw [dif_pos (by simpa using h)]
  simp [chrs, ByteArray.getElem_eq_getElem_data]
theorem u8_eq {c : UInt8} {n : Nat} (hn : n < 256) : ((c.toNat : Int) = (n : Int)) ↔ c = UInt8.ofNat n := by
  constructor
  · intro h
    apply UInt8.toNat_inj.1
    rw [UInt8.toNat_ofNat_of_lt' hn]; omega
  · rintro rfl
    rw [UInt8.toNat_ofNat_of_lt' hn]

theorem chrs_extract (s : ByteArray) (a b : Nat) : chrs (s.extract a b) = ((chrs s).take b).drop a := by
  simp [chrs, ByteArray.data_extract, List.drop_take]
theorem chrs_inj {s t : ByteArray} (h : chrs s = chrs t) : s = t := by
  cases s; cases t; simp only [chrs] at h; congr 1; exact Array.toList_inj.1 h
theorem bt_eq (s : ByteArray) {i : Nat} (h : i < s.size) (n : Nat) (hn : n < 256) : (bt s (i : Int) = (n : Int)) ↔ (chrs s)[i]'(by rw [chrs_length]; exact h) = UInt8.ofNat n := by
  rw [bt_chr s h]; exact u8_eq hn
theorem bt_eq' (s : ByteArray) {i : Nat} (h : i < s.size) (n : Nat) (hn : n < 256) : (bt s (i : Int) = (n : Int)) ↔ (chrs s)[i]? = some (UInt8.ofNat n) := by
  rw [bt_eq s h n hn, List.getElem?_eq_getElem (by rw [chrs_length]; exact h)]; simp

/-- A sign as a byte. -/
def sgn (b : Bool) : UInt8 := if b then 49 else 48
/-- The text of a tail and a ring. -/
def textOf (t r : List Bool) : ByteArray := ⟨(t.map sgn ++ [40] ++ r.map sgn ++ [41]).toArray⟩
theorem chrs_textOf (t r : List Bool) : chrs (textOf t r) = t.map sgn ++ [40] ++ r.map sgn ++ [41] := rfl
def sgnI (b : Bool) : Int := if b then 49 else 48
theorem drop_getD {l : List Bool} {i : Nat} (h : i < l.length) : l.drop i = l.getD i false :: l.drop (i + 1) := by
  rw [List.drop_eq_getElem_cons h]; simp [List.getD_eq_getElem?_getD, h]
theorem drawn0_below {w w1 : World} (h : Drawn0 w w1) : Below w.heap.size w w1 := by
  obtain ⟨q, rfl⟩ := h
  exact pw_below_drewN (Below.refl _ _) q

end Go.Proofs.Ytjjnckgdpdelkaa.P

-- stringslite.Index at a separator of one byte: the place of that byte.
namespace Go.Proofs.Ytjjnckgdpdelkaa.P
open Go.RowKit Go.Proofs.YtjjnckgdpdelkaaW.PrintWords Go.Proofs.YtjjnckgdpdelkaaW.PrintLast Go.Proofs.YtjjnckgdpdelkaaW.PrintMore
set_option linter.unusedVariables false
set_option linter.unusedSimpArgs false

def stringslite_Index.f (a0 a1 : ByteArray) : Option Int := if a1.size = 1 then some (if (chrs a0).findIdx (· == (chrs a1).headD 0) < a0.size then (((chrs a0).findIdx (· == (chrs a1).headD 0) : Nat) : Int) else -1) else none

theorem indexByte_find (c : UInt8) : ∀ l : List UInt8, Lib.indexByte l c = if l.findIdx (· == c) < l.length then ((l.findIdx (· == c) : Nat) : Int) else -1
  | [] => rfl
  | b :: l => by
    simp only [Lib.indexByte, List.findIdx_cons, List.length_cons]
    rw [indexByte_find c l]
    have hle := l.findIdx_le_length (p := (· == c))
    generalize l.findIdx (· == c) = p at hle ⊢
    by_cases h : (b == c) = true
    · simp [h]
    · simp only [h, Bool.false_eq_true, if_false, cond_false]
      by_cases h2 : p < l.length
      · rw [if_pos h2, if_neg (by simp), if_pos (by omega)]; omega
      · rw [if_neg h2, if_pos (by decide), if_neg (by omega)]

set_option maxHeartbeats 4000000 in
set_option maxRecDepth 100000 in
theorem stringslite_IndexByte.calls (s : ByteArray) (c : Int) (w : World) :
    Calls Try.prog 56 #[.string s, .int .u8 c] w fun e w' => e = .returned (.int .i64 (Lib.indexByte s.data.toList c.toNat.toUInt8)) ∧ w' = w := by
  go_enter Try.func56, Try.ntmps56
  go_wp2
  rw [run_callFunc_extern Try.func60 (by kernel_rfl) (by kernel_rfl) (by kernel_rfl) (e := Extern.BytealgIndexByte.indexByte) (by kernel_rfl), Lib.run_indexByteString]
  simp only [Result.andThen]
  rw [Oper.upon_value]
  go_wp2
  go_ret
  exact ⟨rfl, rfl⟩

set_option maxHeartbeats 4000000 in
set_option maxRecDepth 100000 in
theorem stringslite_Index.one (a0 : ByteArray) (c : UInt8) (w : World) :
    Calls Try.prog 55 #[.string a0, .string ⟨#[c]⟩] w fun e w' => e = .returned (.int .i64 (Lib.indexByte a0.data.toList c)) ∧ w' = w := by
  by_cases hc : ([c] == a0.toList) = true
  · go_enter Try.func55, Try.ntmps55
    go_wp2
    go_ret
    refine ⟨?_, rfl⟩
    have e : a0.data.toList = [c] := by rw [← ByteArray.toList_eq]; exact (beq_iff_eq.1 hc).symm
    rw [e]; simp [Lib.indexByte]
  · replace hc : ([c] == a0.toList) = false := by simpa using hc
    go_enter Try.func55, Try.ntmps55
    go_wp2_with (go_at_call 56; refine (stringslite_IndexByte.calls _ _ _).mono ?_; rintro e w' ⟨rfl, rfl⟩)
    go_ret
    exact ⟨by simp; rfl, rfl⟩

theorem stringslite_Index.calls (a0 : ByteArray) (a1 : ByteArray) (r : Int) (w : World) (h : stringslite_Index.f a0 a1 = some r) : Calls Try.prog 55 #[.string a0, .string a1] w fun e w' => e = .returned (.int .i64 r) ∧ Drawn0 w w' := by
  unfold stringslite_Index.f at h
  by_cases h1 : a1.size = 1
  · rw [if_pos h1] at h
    obtain ⟨c, rfl⟩ : ∃ c, a1 = ⟨#[c]⟩ := by
      cases a1 with
      | mk d =>
        have : d.size = 1 := h1
        obtain ⟨c, rfl⟩ := Array.size_eq_one_iff.1 this
        exact ⟨c, rfl⟩
    have e : Lib.indexByte a0.data.toList c = r := by
      rw [indexByte_find]
      injection h
    refine (stringslite_Index.one a0 c w).mono ?_
    rintro e' w' ⟨rfl, rfl⟩
    exact ⟨by rw [e], ⟨0, rfl⟩⟩
  · rw [if_neg h1] at h; cases h
end Go.Proofs.Ytjjnckgdpdelkaa.P

namespace Go.Proofs.Ytjjnckgdpdelkaa.P
open Go.RowKit Go.Proofs.YtjjnckgdpdelkaaW.PrintWords Go.Proofs.YtjjnckgdpdelkaaW.PrintLast Go.Proofs.YtjjnckgdpdelkaaW.PrintMore
attribute [local go_sem] max2_int min2_int max_two min_two max_three min_three max_four min_four   -- for this text's walks alone
set_option linter.unusedVariables false
set_option linter.unusedSimpArgs false

/-! ### strings_Index: function 52 -/
def strings_Index.f (a0:ByteArray) (a1:ByteArray):Option (Int):=(stringslite_Index.f a0 a1).bind fun t156=>(some t156)
set_option maxHeartbeats 8000000 in
set_option maxRecDepth 100000 in
theorem strings_Index.calls (a0:ByteArray) (a1:ByteArray) (r:Int) (w:World) (h:strings_Index.f a0 a1=some r) :
  Calls Try.prog 52 #[.string a0,.string a1] w fun e w'=>e=.returned (.int .i64 r)∧Drawn0 w w':=by
 have H:((stringslite_Index.f a0 a1).bind fun t156=>(some t156))=some r:=h
 clear h
 replace H:=Option.bind_eq_some_iff.mp H
 obtain ⟨t156,A30,H⟩:=H
 replace H:(some t156)=some r:=H
 have A3:=Aside0.mk A30
 clear A30
 obtain rfl:=Option.some.inj H
 go_enter Try.func52,Try.ntmps52
 go_wp2_with (first|((with_reducible refine gate_callee (f:=55) rfl ?_);refine goesL_ (some 7) rfl rfl Try.func55 (by kernel_rfl) rfl #[.string a0,.string a1] rfl (by (try simp only [List.map_toArray,List.map_cons,List.map_nil]);first|done|rfl|(simp only [List.length_drop,List.length_take];rfl)) ?_;(with_reducible refine (stringslite_Index.calls a0 a1 t156 _ A3.out).mono ?_);rintro e w' ⟨rfl,⟨nd,rfl⟩⟩;refine ⟨_,rfl,?_⟩))
 go_ret
 exact ⟨by first|rfl|(simp;done)|(simp [*];done),by repeat (first|exact Drawn0.refl _|apply Drawn0.step)⟩

end Go.Proofs.Ytjjnckgdpdelkaa.P

namespace Go.Proofs.Ytjjnckgdpdelkaa.P
open Go.RowKit Go.Proofs.YtjjnckgdpdelkaaW.PrintWords Go.Proofs.YtjjnckgdpdelkaaW.PrintLast Go.Proofs.YtjjnckgdpdelkaaW.PrintMore
attribute [local go_sem] max2_int min2_int max_two min_two max_three min_three max_four min_four   -- for this text's walks alone
set_option linter.unusedVariables false
set_option linter.unusedSimpArgs false

/-! ### strings_Contains: function 53 -/
def strings_Contains.f (a0:ByteArray) (a1:ByteArray):Option (Bool):=(strings_Index.f a0 a1).bind fun t157=>(some (decide (t157 ≥ 0)))
set_option maxHeartbeats 8000000 in
set_option maxRecDepth 100000 in
theorem strings_Contains.calls (a0:ByteArray) (a1:ByteArray) (r:Bool) (w:World) (h:strings_Contains.f a0 a1=some r) :
  Calls Try.prog 53 #[.string a0,.string a1] w fun e w'=>e=.returned (.bool r)∧Drawn0 w w':=by
 have H:((strings_Index.f a0 a1).bind fun t157=>(some (decide (t157 ≥ 0))))=some r:=h
 clear h
 replace H:=Option.bind_eq_some_iff.mp H
 obtain ⟨t157,A30,H⟩:=H
 replace H:(some (decide (t157 ≥ 0)))=some r:=H
 have A3:=Aside0.mk A30
 clear A30
 obtain rfl:=Option.some.inj H
 go_enter Try.func53,Try.ntmps53
 go_wp2_with (first|((with_reducible refine gate_callee (f:=52) rfl ?_);refine goesL_ (some 7) rfl rfl Try.func52 (by kernel_rfl) rfl #[.string a0,.string a1] rfl (by (try simp only [List.map_toArray,List.map_cons,List.map_nil]);first|done|rfl|(simp only [List.length_drop,List.length_take];rfl)) ?_;(with_reducible refine (strings_Index.calls a0 a1 t157 _ A3.out).mono ?_);rintro e w' ⟨rfl,⟨nd,rfl⟩⟩;refine ⟨_,rfl,?_⟩))
 go_ret
 exact ⟨by first|rfl|(simp;done)|(simp [*];done),by repeat (first|exact Drawn0.refl _|apply Drawn0.step)⟩

end Go.Proofs.Ytjjnckgdpdelkaa.P

-- The tidy form of a set of numbers told by a tail and a ring is one; texts and what they tell.
namespace Go.Proofs.Ytjjnckgdpdelkaa.P
open Go.RowKit Go.Proofs.YtjjnckgdpdelkaaW.PrintWords Go.Proofs.YtjjnckgdpdelkaaW.PrintLast Go.Proofs.YtjjnckgdpdelkaaW.PrintMore
set_option linter.unusedVariables false
set_option linter.unusedSimpArgs false
/-- Is a number in the set of a tail and a ring? -/
def hasB (t r : List Bool) (n : Nat) : Bool := if n < t.length then t.getD n false else r.getD ((n - t.length) % r.length) false

/-- No shorter ring tells the same: of each proper divisor's period some place is not met. -/
def Prim (r : List Bool) : Prop := r ≠ [] ∧ ∀ d, 0 < d → d < r.length → d ∣ r.length → ∃ i, i < r.length ∧ r.getD i false ≠ r.getD (i % d) false

/-- The tidy form. -/
def Canon (t r : List Bool) : Prop := Prim r ∧ (t = [] ∨ t.getD (t.length - 1) false ≠ r.getD (r.length - 1) false)

theorem hasB_tail {t r : List Bool} {n : Nat} (h : n < t.length) : hasB t r n = t.getD n false := by simp [hasB, h]
theorem hasB_ring {t r : List Bool} {i : Nat} : hasB t r (t.length + i) = r.getD (i % r.length) false := by
  unfold hasB; rw [if_neg (by omega)]; congr 2; omega
theorem hasB_ring' {t r : List Bool} {n : Nat} (h : t.length ≤ n) : hasB t r n = r.getD ((n - t.length) % r.length) false := by
  unfold hasB; rw [if_neg (by omega)]

/-- f comes again by p, from m on. -/
def Per (f : Nat → Bool) (m p : Nat) : Prop := ∀ n, m ≤ n → f (n + p) = f n

theorem Per.mono {f : Nat → Bool} {m m' p : Nat} (h : Per f m p) (hm : m ≤ m') : Per f m' p := fun n hn => h n (by omega)
theorem Per.mul {f : Nat → Bool} {m p : Nat} (h : Per f m p) : ∀ k, Per f m (k * p)
  | 0 => fun n _ => by simp
  | k + 1 => fun n hn => by
    have h1 := Per.mul h k n hn
    have h2 := h (n + k * p) (by omega)
    rw [Nat.succ_mul, ← Nat.add_assoc, h2, h1]
theorem Per.dvd {f : Nat → Bool} {m p q : Nat} (h : Per f m p) (hd : p ∣ q) : Per f m q := by
  obtain ⟨k, rfl⟩ := hd
  rw [Nat.mul_comm]; exact h.mul k
theorem hasB_per (t r : List Bool) : Per (hasB t r) t.length r.length := fun n hn => by
  rw [hasB_ring' hn, hasB_ring' (by omega)]
  congr 1
  rw [show n + r.length - t.length = (n - t.length) + r.length by omega, Nat.add_mod_right]

/-- From a point far out on, a number and another one of the same rest. -/
theorem Per.mod {f : Nat → Bool} {m p : Nat} (h : Per f m p) (n : Nat) (hn : m ≤ n) : f n = f (m + (n - m) % p) := by
  have h1 := h.mul ((n - m) / p) (m + (n - m) % p) (by omega)
  rw [← h1]
  congr 1
  have := Nat.mod_add_div (n - m) p
  rw [Nat.mul_comm] at this
  omega

/-- Two numbers' greatest divisor, out of both: g + a q = b p. -/
theorem bezout_nat (p : Nat) : ∀ q, 0 < p → ∃ a b, Nat.gcd p q + a * q = b * p := by
  intro q hp
  have key : ∀ n, ∀ p q : Nat, p + q ≤ n → 0 < p → (∃ a b, Nat.gcd p q + a * q = b * p) := by
    intro n
    induction n with
    | zero => intro p q h hp; omega
    | succ n ih =>
      intro p q h hp
      rcases Nat.eq_zero_or_pos q with rfl | hq
      · exact ⟨0, 1, by simp⟩
      · rcases Nat.lt_or_ge q p with hlt | hge
        · -- q < p: swap
          obtain ⟨a, b, e⟩ := ih q (p % q) (by have := Nat.mod_lt p hq; omega) hq
          -- gcd q (p % q) + a (p % q) = b q
          have hg : Nat.gcd q (p % q) = Nat.gcd p q := by rw [Nat.gcd_comm p q, Nat.gcd_rec q p, Nat.gcd_comm]
          rw [hg] at e
          -- p = q (p/q) + p % q : g + a p = (b + a (p/q)) q ; want g + A q = B p
          have hp2 := Nat.mod_add_div p q
          have e2 : Nat.gcd p q + a * p = (b + a * (p / q)) * q := by
            have : a * p = a * (p % q) + a * (p / q) * q := by
              conv => lhs; rw [← hp2]
              rw [Nat.mul_add, Nat.mul_comm q (p / q), Nat.mul_assoc]
            rw [this, Nat.add_mul, ← Nat.add_assoc, e]
          -- g + a p = c q. take B = a' p with...: g + (k p - c) q = (k q - a) p with k large
          refine ⟨(b + a * (p / q) + a) * p - (b + a * (p / q)), (b + a * (p / q) + a) * q - a, ?_⟩
          generalize hc : b + a * (p / q) = c at e2 ⊢
          have h1 : c ≤ (c + a) * p := Nat.le_trans (Nat.le_add_right c a) (Nat.le_mul_of_pos_right _ hp)
          have h2 : a ≤ (c + a) * q := Nat.le_trans (Nat.le_add_left a c) (Nat.le_mul_of_pos_right _ hq)
          rw [Nat.sub_mul, Nat.sub_mul]
          have h3 : c * q ≤ (c + a) * p * q := Nat.mul_le_mul_right q h1
          have h4 : a * p ≤ (c + a) * q * p := Nat.mul_le_mul_right p h2
          have h5 : (c + a) * p * q = (c + a) * q * p := by rw [Nat.mul_assoc, Nat.mul_comm p q, Nat.mul_assoc]
          omega
        · obtain ⟨a, b, e⟩ := ih p (q - p) (by omega) hp
          have hg : Nat.gcd p (q - p) = Nat.gcd p q := Nat.gcd_sub_self_right hge
          rw [hg] at e
          refine ⟨a, b + a, ?_⟩
          have : a * q = a * (q - p) + a * p := by rw [← Nat.mul_add]; congr 1; omega
          rw [this, ← Nat.add_assoc, e, Nat.add_mul]
  exact key (p + q) p q (Nat.le_refl _) hp

theorem Per.gcd {f : Nat → Bool} {m p q : Nat} (hp : 0 < p) (h : Per f m p) (h' : Per f m q) : Per f m (Nat.gcd p q) := by
  obtain ⟨a, b, e⟩ := bezout_nat p q hp
  intro n hn
  have h1 := h'.mul a (n + Nat.gcd p q) (by omega)
  have h2 := h.mul b n hn
  rw [← h1, Nat.add_assoc, e, h2]

theorem prim_period {t r : List Bool} (h : Prim r) {M g : Nat} (hg : 0 < g) (hd : g ∣ r.length) (hM : t.length ≤ M) (hp : Per (hasB t r) M g) : g = r.length := by
  rcases Nat.lt_or_ge g r.length with hlt | hge
  · exfalso
    obtain ⟨i, hi, hne⟩ := h.2 g hg hlt hd
    apply hne
    -- r[i] = f (m + i + k p) with k p large
    have hpos : 0 < r.length := by omega
    have e1 : ∀ j, j < r.length → r.getD j false = hasB t r (t.length + (j + M * r.length)) := by
      intro j hj
      rw [hasB_ring, Nat.add_mul_mod_self_right, Nat.mod_eq_of_lt hj]
    have hMl : M ≤ M * r.length := Nat.le_mul_of_pos_right _ hpos
    have hmod : i % g < r.length := Nat.lt_of_lt_of_le (Nat.mod_lt i hg) (by omega)
    rw [e1 i hi, e1 (i % g) hmod]
    have := hp.mul (i / g) (t.length + (i % g + M * r.length)) (by omega)
    rw [← this]
    congr 1
    have := Nat.mod_add_div i g
    rw [Nat.mul_comm] at this
    omega
  · exact Nat.le_antisymm (Nat.le_of_dvd (by have := h.1; exact List.length_pos_iff.2 this) hd) hge

/-- THE TIDY FORM IS ONE. -/
theorem canon_unique {t r t' r' : List Bool} (h : Canon t r) (h' : Canon t' r') (he : ∀ n, hasB t r n = hasB t' r' n) : t = t' ∧ r = r' := by
  have hf : hasB t r = hasB t' r' := funext he
  have hr : 0 < r.length := List.length_pos_iff.2 h.1.1
  have hr' : 0 < r'.length := List.length_pos_iff.2 h'.1.1
  have p1 : Per (hasB t r) (t.length + t'.length) r.length := (hasB_per t r).mono (by omega)
  have p2 : Per (hasB t r) (t.length + t'.length) r'.length := by rw [hf]; exact (hasB_per t' r').mono (by omega)
  have pg := p1.gcd hr p2
  have hgp : 0 < Nat.gcd r.length r'.length := Nat.gcd_pos_of_pos_left _ hr
  have e1 := prim_period (M := t.length + t'.length) h.1 hgp (Nat.gcd_dvd_left _ _) (by omega) pg
  have e2 := prim_period (t := t') (M := t.length + t'.length) h'.1 hgp (Nat.gcd_dvd_right _ _) (by omega) (by rw [← hf]; exact pg)
  have hl : r.length = r'.length := by omega
  have aux : ∀ {t r t' r' : List Bool}, Canon t' r' → hasB t r = hasB t' r' → r.length = r'.length → 0 < r.length → ¬ t.length < t'.length := by
    intro t r t' r' h' hf hl hr hlt
    rcases h'.2 with h0 | h0
    · rw [h0] at hlt; simp at hlt
    · apply h0
      have a1 : t'.getD (t'.length - 1) false = hasB t r (t'.length - 1) := by rw [hf, hasB_tail (by omega)]
      have a2 : r'.getD (r'.length - 1) false = hasB t r (t'.length - 1 + r.length) := by
        rw [hf, hl, hasB_ring' (by omega)]
        congr 1
        rw [show t'.length - 1 + r'.length - t'.length = r'.length - 1 by omega, Nat.mod_eq_of_lt (by omega)]
      rw [a1, a2, hasB_per t r _ (by omega)]
  have hm : t.length = t'.length := by
    have b1 := aux h' hf hl hr
    have b2 := aux h hf.symm hl.symm hr'
    omega
  constructor
  · apply List.ext_getElem hm
    intro i h1 h2
    have := he i
    rw [hasB_tail h1, hasB_tail h2] at this
    simpa [List.getD_eq_getElem?_getD, h1, h2] using this
  · apply List.ext_getElem hl
    intro i h1 h2
    have := he (t.length + i)
    rw [hasB_ring, hm, hasB_ring, Nat.mod_eq_of_lt h1, Nat.mod_eq_of_lt h2] at this
    simpa [List.getD_eq_getElem?_getD, h1, h2] using this
/-- d parts the ring's length, and all is as d places ahead. -/
def IsPer (r : List Bool) (d : Nat) : Prop := r.length % d = 0 ∧ ∀ i, d ≤ i → i < r.length → r.getD i false = r.getD (i - d) false

theorem IsPer.mod {r : List Bool} {d : Nat} (h : IsPer r d) (hd : 0 < d) : ∀ i, i < r.length → r.getD i false = r.getD (i % d) false := by
  intro i
  induction i using Nat.strongRecOn with
  | _ i ih =>
    intro hi
    rcases Nat.lt_or_ge i d with hlt | hge
    · rw [Nat.mod_eq_of_lt hlt]
    · rw [h.2 i hge hi, ih (i - d) (by omega) (by omega)]
      congr 1
      conv => rhs; rw [show i = (i - d) + d by omega, Nat.add_mod_right]

theorem IsPer.of_mod {r : List Bool} {d : Nat} (hl : r.length % d = 0) (hd : 0 < d) (h : ∀ i, i < r.length → r.getD i false = r.getD (i % d) false) : IsPer r d := by
  refine ⟨hl, fun i hi hlt => ?_⟩
  rw [h i hlt, h (i - d) (by omega)]
  congr 1
  conv => lhs; rw [show i = (i - d) + d by omega, Nat.add_mod_right]

theorem prim_of {r : List Bool} (hr : r ≠ []) (h : ∀ d, 0 < d → d < r.length → ¬ IsPer r d) : Prim r := by
  refine ⟨hr, fun d h0 hlt hd => ?_⟩
  refine Classical.byContradiction fun hn => ?_
  apply h d h0 hlt
  refine IsPer.of_mod (Nat.mod_eq_zero_of_dvd hd) h0 fun i hi => ?_
  exact Classical.byContradiction fun hne => hn ⟨i, hi, hne⟩

theorem take_has {t r : List Bool} {d : Nat} (h : IsPer r d) (h0 : 0 < d) (hd : d ≤ r.length) (x : Nat) : hasB t (r.take d) x = hasB t r x := by
  rcases Nat.lt_or_ge x t.length with hlt | hge
  · rw [hasB_tail hlt, hasB_tail hlt]
  · rw [hasB_ring' hge, hasB_ring' hge]
    have hl : (r.take d).length = d := by rw [List.length_take]; omega
    have hdv : d ∣ r.length := Nat.dvd_of_mod_eq_zero h.1
    rw [hl, h.mod h0 _ (Nat.mod_lt _ (by omega)), Nat.mod_mod_of_dvd _ hdv]
    simp [List.getD_eq_getElem?_getD, List.getElem?_take, Nat.mod_lt _ h0]

/-- The last sign of the tail goes into the ring. -/
def rotR (r : List Bool) : List Bool := r.getD (r.length - 1) false :: r.take (r.length - 1)
theorem rotR_length {r : List Bool} (hr : r ≠ []) : (rotR r).length = r.length := by
  have := List.length_pos_iff.2 hr
  simp [rotR]; omega
theorem rotR_get {r : List Bool} (hr : r ≠ []) {i : Nat} (hi : i < r.length) : (rotR r).getD i false = if i = 0 then r.getD (r.length - 1) false else r.getD (i - 1) false := by
  cases i with
  | zero => simp [rotR]
  | succ i =>
    simp [rotR, List.getD_eq_getElem?_getD, List.getElem?_take]
    rw [if_pos (by omega)]
theorem rot_has {t r : List Bool} (ht : t ≠ []) (hr : r ≠ []) (h : t.getD (t.length - 1) false = r.getD (r.length - 1) false) (x : Nat) :
    hasB (t.take (t.length - 1)) (rotR r) x = hasB t r x := by
  have hm := List.length_pos_iff.2 ht
  have hn := List.length_pos_iff.2 hr
  have hl : (t.take (t.length - 1)).length = t.length - 1 := by rw [List.length_take]; omega
  rcases Nat.lt_or_ge x (t.length - 1) with hlt | hge
  · rw [hasB_tail (by omega), hasB_tail (by omega)]
    simp only [List.getD_eq_getElem?_getD, List.getElem?_take, if_pos hlt]
  · rw [hasB_ring' (by omega), hl, rotR_length hr]
    have hmod := Nat.mod_lt (x - (t.length - 1)) hn
    rw [rotR_get hr hmod]
    rcases Nat.eq_or_lt_of_le hge with he | hgt
    · rw [← he, Nat.sub_self, Nat.zero_mod, if_pos rfl, hasB_tail (by omega), h]
    · rw [hasB_ring' (by omega), show x - (t.length - 1) = (x - t.length) + 1 by omega]
      have hmod2 := Nat.mod_lt (x - t.length) hn
      rcases Nat.eq_or_lt_of_le (show (x - t.length) % r.length + 1 ≤ r.length by omega) with he | hlt
      · have : ((x - t.length) + 1) % r.length = 0 := by rw [Nat.add_mod]; rcases Nat.eq_or_lt_of_le (show 1 ≤ r.length from hn) with h1 | h1
                                                         · rw [← h1]; exact Nat.mod_one _
                                                         · rw [Nat.mod_eq_of_lt h1, he, Nat.mod_self]
        rw [this, if_pos rfl]; congr 1; omega
      · have : ((x - t.length) + 1) % r.length = (x - t.length) % r.length + 1 := by
          rw [Nat.add_mod, Nat.mod_eq_of_lt (show 1 < r.length by omega), Nat.mod_eq_of_lt hlt]
        rw [this, if_neg (by omega), Nat.add_sub_cancel]

theorem prim_rot {r : List Bool} (h : Prim r) : Prim (rotR r) := by
  have hr := h.1
  have hn := List.length_pos_iff.2 hr
  refine prim_of (by simp [rotR]) fun d h0 hlt hp => ?_
  rw [rotR_length hr] at hlt
  have hd : d ∣ r.length := by rw [← rotR_length hr]; exact Nat.dvd_of_mod_eq_zero hp.1
  have e : hasB [r.getD (r.length - 1) false] r = hasB [] (rotR r) := funext fun x => by
    have := rot_has (t := [r.getD (r.length - 1) false]) (by simp) hr (by simp) x
    rw [← this]; simp
  have hper : Per (hasB [r.getD (r.length - 1) false] r) 1 d := by
    rw [e]
    intro n _
    have e1 := take_has (t := []) hp h0 (by rw [rotR_length hr]; omega)
    rw [← e1, ← e1]
    have := hasB_per [] ((rotR r).take d) n (by simp)
    rwa [List.length_take, rotR_length hr, Nat.min_eq_left (by omega)] at this
  have := prim_period (t := [r.getD (r.length - 1) false]) (M := 1) h h0 hd (by simp) hper
  omega

/-- (t', r') is the tidy form of (t, r). -/
structure Tidy (t r t' r' : List Bool) : Prop where
  canon : Canon t' r'
  has : ∀ n, hasB t' r' n = hasB t r n
  tl : t'.length ≤ t.length
  rl : r'.length ≤ r.length
theorem Tidy.same {t r t' r' a b : List Bool} (h : Tidy t r t' r') (h' : Tidy t r a b) : t' = a ∧ r' = b := canon_unique h.canon h'.canon fun n => by rw [h.has, h'.has]
theorem Tidy.pos {t r t' r' : List Bool} (h : Tidy t r t' r') : 0 < r'.length := List.length_pos_iff.2 h.canon.1.1
theorem prim_take {r : List Bool} {d : Nat} (hd : 0 < d) (hdl : d ≤ r.length) (hp : IsPer r d) (hmin : ∀ d', 0 < d' → d' < d → ¬ IsPer r d') : Prim (r.take d) := by
  have hl : (r.take d).length = d := by rw [List.length_take]; omega
  refine prim_of (by intro e; rw [e] at hl; simp at hl; omega) fun d' h0 h1 h2 => ?_
  rw [hl] at h1
  apply hmin d' h0 h1
  have g1 : ∀ i, i < d → (r.take d).getD i false = r.getD i false := fun i hi => by simp only [List.getD_eq_getElem?_getD, List.getElem?_take, if_pos hi]
  have hdd : d' ∣ d := by rw [← hl]; exact Nat.dvd_of_mod_eq_zero h2.1
  refine IsPer.of_mod (Nat.mod_eq_zero_of_dvd (Nat.dvd_trans hdd (Nat.dvd_of_mod_eq_zero hp.1))) h0 fun i hi => ?_
  have a1 := hp.mod hd i hi
  have hm := Nat.mod_lt i hd
  have a2 := h2.mod h0 (i % d) (by rw [hl]; exact hm)
  rw [g1 _ hm, g1 _ (Nat.lt_trans (Nat.mod_lt _ h0) h1), Nat.mod_mod_of_dvd _ hdd] at a2
  rw [a1, a2]

theorem tidy_exists : ∀ (n : Nat) (t r : List Bool), t.length + r.length = n → r ≠ [] → ∃ t' r', Tidy t r t' r' := by
  intro n
  induction n using Nat.strongRecOn with
  | _ n ih =>
    intro t r hn hr
    have hpos := List.length_pos_iff.2 hr
    by_cases hex : ∃ d, 0 < d ∧ d < r.length ∧ IsPer r d
    · obtain ⟨d, h0, hd, hp⟩ := hex
      have hlt : (r.take d).length = d := by rw [List.length_take]; omega
      obtain ⟨t', r', h⟩ := ih (t.length + (r.take d).length) (by omega) t (r.take d) rfl (by intro e; rw [e] at hlt; simp at hlt; omega)
      exact ⟨t', r', h.canon, fun x => by rw [h.has, take_has hp h0 (by omega)], h.tl, by have := h.rl; omega⟩
    · have hprim : Prim r := prim_of hr fun d h0 h1 hp => hex ⟨d, h0, h1, hp⟩
      by_cases ht : t = []
      · exact ⟨t, r, ⟨hprim, .inl ht⟩, fun _ => rfl, Nat.le_refl _, Nat.le_refl _⟩
      · have htp := List.length_pos_iff.2 ht
        by_cases he : t.getD (t.length - 1) false = r.getD (r.length - 1) false
        · obtain ⟨t', r', h⟩ := ih ((t.take (t.length - 1)).length + (rotR r).length) (by rw [rotR_length hr, List.length_take]; omega) (t.take (t.length - 1)) (rotR r) rfl (by simp [rotR])
          exact ⟨t', r', h.canon, fun x => by rw [h.has, rot_has ht hr he], by have := h.tl; rw [List.length_take] at this; omega, by have := h.rl; rw [rotR_length hr] at this; omega⟩
        · exact ⟨t, r, ⟨hprim, .inr he⟩, fun _ => rfl, Nat.le_refl _, Nat.le_refl _⟩

/-- The tidy tail and ring of a set. -/
noncomputable def cn (f : Nat → Bool) : List Bool × List Bool :=
  open Classical in if h : ∃ p : List Bool × List Bool, Canon p.1 p.2 ∧ hasB p.1 p.2 = f then Classical.choose h else ([], [])
theorem cn_uniq {t r : List Bool} {f : Nat → Bool} (h : Canon t r) (hf : hasB t r = f) : cn f = (t, r) := by
  have hx : ∃ p : List Bool × List Bool, Canon p.1 p.2 ∧ hasB p.1 p.2 = f := ⟨(t, r), h, hf⟩
  unfold cn
  rw [dif_pos hx]
  have hs := Classical.choose_spec hx
  obtain ⟨e1, e2⟩ := canon_unique hs.1 h fun n => by rw [hs.2, hf]
  exact Prod.ext e1 e2
theorem Tidy.cn {t r t' r' : List Bool} (h : Tidy t r t' r') : cn (hasB t r) = (t', r') := cn_uniq h.canon (funext h.has)
theorem cn_tidy {t r : List Bool} (hr : r ≠ []) : Tidy t r (cn (hasB t r)).1 (cn (hasB t r)).2 := by
  obtain ⟨t', r', h⟩ := tidy_exists _ t r rfl hr
  rw [h.cn]; exact h

/-- The signs of a set: the first m, and the p behind these. -/
def mkT (f : Nat → Bool) (m : Nat) : List Bool := (List.range m).map f
def mkR (f : Nat → Bool) (m p : Nat) : List Bool := (List.range p).map fun i => f (m + i)
theorem mkT_length (f : Nat → Bool) (m : Nat) : (mkT f m).length = m := by simp [mkT]
theorem mkR_length (f : Nat → Bool) (m p : Nat) : (mkR f m p).length = p := by simp [mkR]
theorem mkT_get (f : Nat → Bool) {m i : Nat} (h : i < m) : (mkT f m).getD i false = f i := by simp [mkT, List.getD_eq_getElem?_getD, h]
theorem mkR_get (f : Nat → Bool) {m p i : Nat} (h : i < p) : (mkR f m p).getD i false = f (m + i) := by simp [mkR, List.getD_eq_getElem?_getD, h]
theorem mkR_ne (f : Nat → Bool) {m p : Nat} (h : 0 < p) : mkR f m p ≠ [] := by intro e; have := mkR_length f m p; rw [e] at this; simp at this; omega
theorem mk_has {f : Nat → Bool} {m p : Nat} (hp : 0 < p) (h : Per f m p) : hasB (mkT f m) (mkR f m p) = f := by
  funext x
  rcases Nat.lt_or_ge x m with hlt | hge
  · rw [hasB_tail (by rw [mkT_length]; exact hlt), mkT_get f hlt]
  · rw [hasB_ring' (by rw [mkT_length]; exact hge), mkT_length, mkR_length, mkR_get f (Nat.mod_lt _ hp), ← h.mod x hge]
theorem mkT_succ (f : Nat → Bool) (m : Nat) : mkT f (m + 1) = mkT f m ++ [f m] := by simp [mkT, List.range_succ]
theorem mkR_succ (f : Nat → Bool) (m p : Nat) : mkR f m (p + 1) = mkR f m p ++ [f (m + p)] := by simp [mkR, List.range_succ]
theorem mkT_add (f : Nat → Bool) (m p : Nat) : mkT f (m + p) = mkT f m ++ mkR f m p := by
  induction p with
  | zero => simp [mkR]
  | succ p ih => rw [← Nat.add_assoc, mkT_succ, ih, mkR_succ, List.append_assoc]
theorem mkT_take (f : Nat → Bool) (m p : Nat) : (mkT f (m + p)).take m = mkT f m := by rw [mkT_add, List.take_left' (mkT_length f m)]
theorem mkT_drop (f : Nat → Bool) (m p : Nat) : (mkT f (m + p)).drop m = mkR f m p := by rw [mkT_add, List.drop_left' (mkT_length f m)]

theorem cn_spec {f : Nat → Bool} {m p : Nat} (hp : 0 < p) (h : Per f m p) : Canon (cn f).1 (cn f).2 ∧ hasB (cn f).1 (cn f).2 = f ∧ (cn f).1.length ≤ m ∧ (cn f).2.length ≤ p := by
  have ht := cn_tidy (t := mkT f m) (mkR_ne f (m := m) hp)
  rw [mk_has hp h] at ht
  refine ⟨ht.canon, funext fun n => by rw [ht.has, mk_has hp h], ?_, ?_⟩
  · have := ht.tl; rwa [mkT_length] at this
  · have := ht.rl; rwa [mkR_length] at this
theorem cn_has {f : Nat → Bool} {m p : Nat} (hp : 0 < p) (h : Per f m p) : hasB (cn f).1 (cn f).2 = f := (cn_spec hp h).2.1
theorem cn_ne {f : Nat → Bool} {m p : Nat} (hp : 0 < p) (h : Per f m p) : (cn f).2 ≠ [] := (cn_spec hp h).1.1.1

/-- The least number by which the rest is the same. -/
def restN (t r : List Bool) (k : Nat) : Nat := if k < t.length then k else t.length + (k - t.length) % r.length
theorem restN_lt {t r : List Bool} (hr : 0 < r.length) (k : Nat) : restN t r k < t.length + r.length := by
  unfold restN
  have := Nat.mod_lt (k - t.length) hr
  split <;> omega
theorem restN_self {t r : List Bool} {k : Nat} (h : k < t.length + r.length) : restN t r k = k := by
  unfold restN
  split
  · rfl
  · rw [Nat.mod_eq_of_lt (by omega)]; omega
theorem restN_idem {t r : List Bool} (hr : 0 < r.length) (k : Nat) : restN t r (restN t r k) = restN t r k := restN_self (restN_lt hr k)
theorem restN_le {t r : List Bool} (k : Nat) : restN t r k ≤ k := by
  unfold restN
  split
  · exact Nat.le_refl _
  · have := Nat.mod_le (k - t.length) r.length; omega
theorem has_restN {t r : List Bool} (hr : 0 < r.length) (k n : Nat) : hasB t r (n + k) = hasB t r (n + restN t r k) := by
  unfold restN
  split
  · rfl
  · rename_i h
    have hp := hasB_per t r
    have h1 := hp.mul ((k - t.length) / r.length) (n + (t.length + (k - t.length) % r.length)) (by omega)
    rw [← h1]
    congr 1
    have := Nat.mod_add_div (k - t.length) r.length
    rw [Nat.mul_comm] at this
    omega
/-- Rests by two lesser numbers are different. -/
theorem rest_diff {t r : List Bool} (h : Canon t r) {i j : Nat} (hij : i < j) (hj : j < t.length + r.length) (he : ∀ n, hasB t r (n + i) = hasB t r (n + j)) : False := by
  have hr := List.length_pos_iff.2 h.1.1
  have hd : Per (hasB t r) i (j - i) := fun n hn => by
    have := he (n - i)
    rw [show n - i + i = n by omega, show n - i + j = n + (j - i) by omega] at this
    exact this.symm
  have hg := (hd.mono (m' := max i t.length) (by omega)).gcd (by omega) ((hasB_per t r).mono (m' := max i t.length) (by omega))
  have hgp : 0 < Nat.gcd (j - i) r.length := Nat.gcd_pos_of_pos_left _ (by omega)
  have e := prim_period (t := t) (M := max i t.length) h.1 hgp (Nat.gcd_dvd_right _ _) (by omega) hg
  have hdv : r.length ∣ j - i := by rw [← e]; exact Nat.gcd_dvd_left _ _
  have hle := Nat.le_of_dvd (by omega) hdv
  rcases Nat.lt_or_ge i t.length with hlt | hge
  · rcases h.2 with h0 | h0
    · rw [h0] at hlt; simp at hlt
    · apply h0
      have h1 := hd (t.length - 1) (by omega)
      rw [hasB_tail (show t.length - 1 < t.length by omega), hasB_ring' (by omega)] at h1
      rw [← h1]
      congr 1
      obtain ⟨c, hc⟩ := hdv
      have hc0 : 0 < c := by rcases Nat.eq_zero_or_pos c with h | h; rw [h, Nat.mul_zero] at hc; omega; exact h
      have hmul : r.length * c = r.length * (c - 1) + r.length := by
        rw [← Nat.mul_succ]; congr 1; omega
      rw [hc, show t.length - 1 + r.length * c - t.length = (r.length - 1) + r.length * (c - 1) by omega, Nat.add_mul_mod_self_left, Nat.mod_eq_of_lt (by omega)]
  · omega
theorem rest_same {t r : List Bool} (h : Canon t r) (i j : Nat) : (∀ n, hasB t r (n + i) = hasB t r (n + j)) ↔ restN t r i = restN t r j := by
  have hr := List.length_pos_iff.2 h.1.1
  constructor
  · intro he
    have he2 : ∀ n, hasB t r (n + restN t r i) = hasB t r (n + restN t r j) := fun n => by rw [← has_restN hr, ← has_restN hr, he]
    rcases Nat.lt_trichotomy (restN t r i) (restN t r j) with hlt | heq | hgt
    · exact (rest_diff h hlt (restN_lt hr j) he2).elim
    · exact heq
    · exact (rest_diff h hgt (restN_lt hr i) fun n => (he2 n).symm).elim
  · intro he n
    rw [has_restN hr i, has_restN hr j, he]

theorem bitsL_length : ∀ {s : List UInt8} {l : List Bool}, bitsL s = some l → l.length = s.length
  | [], l, h => by simp [bitsL] at h; subst h; rfl
  | c :: cs, l, h => by
    simp only [bitsL] at h
    split at h
    · obtain ⟨q, hq, rfl⟩ := Option.map_eq_some_iff.1 h; simp [bitsL_length hq]
    · split at h
      · obtain ⟨q, hq, rfl⟩ := Option.map_eq_some_iff.1 h; simp [bitsL_length hq]
      · cases h
theorem bitsL_sgn : ∀ l : List Bool, bitsL (l.map sgn) = some l
  | [] => rfl
  | b :: l => by cases b <;> simp [bitsL, sgn, bitsL_sgn l]
theorem byteArray_empty_chrs : chrs (⟨#[]⟩ : ByteArray) = [] := rfl
/-- A set text: its tail and its ring. -/
def parse (s : List UInt8) : Option (List Bool × List Bool) :=
  if s.findIdx (· == 40) + 2 < s.length ∧ s[s.length - 1]? = some 41 then
    match bitsL (s.take (s.findIdx (· == 40))), bitsL ((s.take (s.length - 1)).drop (s.findIdx (· == 40) + 1)) with
    | some a, some b => if a.length ≤ 60 ∧ b.length ≤ 60 then some (a, b) else none
    | _, _ => none
  else none
def parsed (s : ByteArray) (t r : List Bool) : List Bool × List Bool × Bool := match parse (chrs s) with | some (a, b) => (a, b, true) | none => (t, r, false)

theorem parse_some {s : List UInt8} {a b : List Bool} (h : parse s = some (a, b)) : a.length ≤ 60 ∧ b.length ≤ 60 ∧ b ≠ [] := by
  unfold parse at h
  split at h
  · rename_i hc
    split at h
    · rename_i x y hx hy
      split at h
      · rename_i hl
        simp only [Option.some.injEq, Prod.mk.injEq] at h
        obtain ⟨rfl, rfl⟩ := h
        refine ⟨hl.1, hl.2, fun e => ?_⟩
        have := bitsL_length hy
        rw [e] at this
        simp at this
        omega
      · cases h
    · cases h
  · cases h


/-- The text of a set, and true; false if it is too long. -/
def txt (p : List Bool × List Bool) : ByteArray × Bool := if p.1.length ≤ 60 ∧ p.2.length ≤ 60 then (textOf p.1 p.2, true) else (⟨#[]⟩, false)
theorem txt_ok {p : List Bool × List Bool} (h1 : p.1.length ≤ 60) (h2 : p.2.length ≤ 60) : txt p = (textOf p.1 p.2, true) := by unfold txt; rw [if_pos ⟨h1, h2⟩]
theorem chrs_append (a b : ByteArray) : chrs (a ++ b) = chrs a ++ chrs b := by simp [chrs, ByteArray.data_append]
theorem parse_ne {s : List UInt8} {a b : List Bool} (h : parse s = some (a, b)) : b ≠ [] := (parse_some h).2.2
theorem findIdx_sgn (t : List Bool) (l : List UInt8) : (t.map sgn ++ 40 :: l).findIdx (· == 40) = t.length := by
  induction t with
  | nil => rfl
  | cons b t ih =>
    rw [List.map_cons, List.cons_append, List.findIdx_cons, ih]
    cases b <;> rfl
/-- A text reads as what it was written of. -/
theorem parse_textOf {t r : List Bool} (ht : t.length ≤ 60) (hr : r.length ≤ 60) (hn : r ≠ []) : parse (chrs (textOf t r)) = some (t, r) := by
  have hpos := List.length_pos_iff.2 hn
  have e : chrs (textOf t r) = t.map sgn ++ 40 :: (r.map sgn ++ [41]) := by rw [chrs_textOf]; simp
  rw [e]
  unfold parse
  rw [findIdx_sgn]
  have hl : (t.map sgn ++ 40 :: (r.map sgn ++ [41])).length = t.length + (r.length + 2) := by simp
  rw [hl, if_pos]
  · have e1 : (t.map sgn ++ 40 :: (r.map sgn ++ [41])).take t.length = t.map sgn := by rw [List.take_left']; simp
    have e2 : ((t.map sgn ++ 40 :: (r.map sgn ++ [41])).take (t.length + (r.length + 2) - 1)).drop (t.length + 1) = r.map sgn := by
      rw [show t.map sgn ++ 40 :: (r.map sgn ++ [41]) = (t.map sgn ++ 40 :: r.map sgn) ++ [41] by simp, List.take_left' (by simp <;> omega), show t.map sgn ++ 40 :: r.map sgn = (t.map sgn ++ [40]) ++ r.map sgn by simp, List.drop_left' (by simp)]
    rw [e1, e2, bitsL_sgn, bitsL_sgn]
    simp only
    rw [if_pos ⟨ht, hr⟩]
  · refine ⟨by omega, ?_⟩
    rw [show t.map sgn ++ 40 :: (r.map sgn ++ [41]) = (t.map sgn ++ 40 :: r.map sgn) ++ [41] by simp, List.getElem?_append_right (by simp <;> omega)]
    rw [show t.length + (r.length + 2) - 1 - (t.map sgn ++ 40 :: r.map sgn).length = 0 by simp <;> omega]; rfl
theorem textOf_inj {t r t' r' : List Bool} (ht : t.length ≤ 60) (hr : r.length ≤ 60) (hn : r ≠ []) (ht' : t'.length ≤ 60) (hr' : r'.length ≤ 60) (hn' : r' ≠ []) (h : textOf t r = textOf t' r') : t = t' ∧ r = r' := by
  have h1 := parse_textOf ht hr hn
  rw [h, parse_textOf ht' hr' hn'] at h1
  simp only [Option.some.injEq, Prod.mk.injEq] at h1
  exact ⟨h1.1.symm, h1.2.symm⟩
theorem textOf_size (t r : List Bool) : (textOf t r).size = t.length + r.length + 2 := by
  rw [← chrs_length, chrs_textOf]; simp <;> omega


end Go.Proofs.Ytjjnckgdpdelkaa.P

-- Texts of rests: as many as the tidy text has signs.
namespace Go.Proofs.Ytjjnckgdpdelkaa.P
open Go.RowKit Go.Proofs.YtjjnckgdpdelkaaW.PrintWords Go.Proofs.YtjjnckgdpdelkaaW.PrintLast Go.Proofs.YtjjnckgdpdelkaaW.PrintMore
set_option linter.unusedVariables false
set_option linter.unusedSimpArgs false

/-- A set, k taken away. -/
def shf (f : Nat → Bool) (k : Nat) : Nat → Bool := fun n => f (n + k)
theorem shf_per {f : Nat → Bool} {m p : Nat} (h : Per f m p) (k : Nat) : Per (shf f k) (m - k) p := fun n hn => by
  unfold shf
  rw [show n + p + k = n + k + p by omega]; exact h _ (by omega)
/-- The text of the rest by k. -/
noncomputable def rtext (f : Nat → Bool) (k : Nat) : ByteArray := textOf (cn (shf f k)).1 (cn (shf f k)).2
/-- The place of the rest by k. -/
noncomputable def rpl (f : Nat → Bool) (k : Nat) : Nat := restN (cn f).1 (cn f).2 k
/-- How many rests. -/
noncomputable def rnum (f : Nat → Bool) : Nat := (cn f).1.length + (cn f).2.length
section
variable {f : Nat → Bool} {m p : Nat}
theorem rpl_lt (hp : 0 < p) (h : Per f m p) (k : Nat) : rpl f k < rnum f := restN_lt (List.length_pos_iff.2 (cn_ne hp h)) k
theorem rpl_self {k : Nat} (hk : k < rnum f) : rpl f k = k := restN_self hk
theorem rpl_le (k : Nat) : rpl f k ≤ k := restN_le k
theorem rnum_le (hp : 0 < p) (h : Per f m p) : rnum f ≤ m + p := by
  have := cn_spec hp h
  unfold rnum; omega
theorem rpl_eq (hp : 0 < p) (h : Per f m p) (i j : Nat) : shf f i = shf f j ↔ rpl f i = rpl f j := by
  have hs := cn_spec hp h
  have := rest_same hs.1 i j
  rw [hs.2.1] at this
  constructor
  · intro e; exact this.1 fun n => congrFun e n
  · intro e; exact funext (this.2 e)
theorem rtext_eq (hp : 0 < p) (h : Per f m p) (hm : m ≤ 60) (hp2 : p ≤ 60) (i j : Nat) : rtext f i = rtext f j ↔ rpl f i = rpl f j := by
  rw [← rpl_eq hp h]
  have si := cn_spec hp (shf_per h i)
  have sj := cn_spec hp (shf_per h j)
  constructor
  · intro e
    obtain ⟨e1, e2⟩ := textOf_inj (by omega) (by omega) si.1.1.1 (by omega) (by omega) sj.1.1.1 e
    rw [← si.2.1, ← sj.2.1, e1, e2]
  · intro e; unfold rtext; rw [e]
end

end Go.Proofs.Ytjjnckgdpdelkaa.P

-- The tidy text of a text.
namespace Go.Proofs.Ytjjnckgdpdelkaa.P
open Go.RowKit Go.Proofs.YtjjnckgdpdelkaaW.PrintWords Go.Proofs.YtjjnckgdpdelkaaW.PrintLast Go.Proofs.YtjjnckgdpdelkaaW.PrintMore
set_option linter.unusedVariables false
set_option linter.unusedSimpArgs false

theorem parse_len {s : List UInt8} {a b : List Bool} (h : parse s = some (a, b)) : s.length = a.length + b.length + 2 := by
  unfold parse at h
  split at h
  · rename_i hc
    split at h
    · rename_i x y hx hy
      split at h
      · simp only [Option.some.injEq, Prod.mk.injEq] at h
        obtain ⟨rfl, rfl⟩ := h
        have h1 := bitsL_length hx
        have h2 := bitsL_length hy
        simp only [List.length_take, List.length_drop] at h1 h2
        omega
      · cases h
    · cases h
  · cases h
/-- The set of a text. -/
def setf (s : List UInt8) : Nat → Bool := match parse s with | some (a, b) => hasB a b | none => fun _ => false
theorem setf_some {s : List UInt8} {a b : List Bool} (h : parse s = some (a, b)) : setf s = hasB a b := by unfold setf; rw [h]
/-- What SetTidy answers. -/
noncomputable def tdy (s : List UInt8) : ByteArray × Bool := match parse s with | some (a, b) => (textOf (cn (hasB a b)).1 (cn (hasB a b)).2, true) | none => (⟨#[]⟩, false)
theorem tdy_some {s : List UInt8} {a b : List Bool} (h : parse s = some (a, b)) : tdy s = (textOf (cn (hasB a b)).1 (cn (hasB a b)).2, true) := by unfold tdy; rw [h]
theorem tdy_none {s : List UInt8} (h : parse s = none) : tdy s = (⟨#[]⟩, false) := by unfold tdy; rw [h]
/-- The tidy text is a text of the same set, tail and ring tidy. -/
theorem parse_cn {f : Nat → Bool} {m p : Nat} (hp : 0 < p) (h : Per f m p) (hm : (cn f).1.length ≤ 60) (hp2 : (cn f).2.length ≤ 60) : parse (chrs (textOf (cn f).1 (cn f).2)) = some ((cn f).1, (cn f).2) :=
  parse_textOf hm hp2 (cn_ne hp h)
theorem cn_cn {f : Nat → Bool} {m p : Nat} (hp : 0 < p) (h : Per f m p) : cn (hasB (cn f).1 (cn f).2) = cn f := by rw [cn_has hp h]
theorem parse_per {s : List UInt8} {a b : List Bool} (h : parse s = some (a, b)) : 0 < b.length ∧ Per (hasB a b) a.length b.length := ⟨List.length_pos_iff.2 (parse_some h).2.2, hasB_per a b⟩
theorem parse_tdy {s : List UInt8} {a b : List Bool} (h : parse s = some (a, b)) : parse (chrs (tdy s).1) = some ((cn (hasB a b)).1, (cn (hasB a b)).2) := by
  obtain ⟨h1, h2⟩ := parse_per h
  have h3 := (cn_spec h1 h2).2.2
  have h4 := parse_some h
  rw [tdy_some h]
  exact parse_cn h1 h2 (by omega) (by omega)
theorem tdy_tdy {s : List UInt8} {a b : List Bool} (h : parse s = some (a, b)) : tdy (chrs (tdy s).1) = tdy s := by
  obtain ⟨h1, h2⟩ := parse_per h
  rw [tdy_some (parse_tdy h), tdy_some h, cn_cn h1 h2]
theorem tdy_size {s : List UInt8} {a b : List Bool} (h : parse s = some (a, b)) : (tdy s).1.size ≤ s.length := by
  obtain ⟨h1, h2⟩ := parse_per h
  have h3 := (cn_spec h1 h2).2.2
  rw [tdy_some h, textOf_size, parse_len h]
  show (cn (hasB a b)).1.length + _ + 2 ≤ _
  omega
/-- Whether two texts tell the same set. -/
noncomputable def sameS (s t : List UInt8) : Bool := (tdy s).2 && (tdy t).2 && ((tdy s).1.toList == (tdy t).1.toList)
theorem tdy_ok {s : List UInt8} : (tdy s).2 = (parse s).isSome := by
  cases h : parse s with
  | none => rw [tdy_none h]; rfl
  | some ab => rw [tdy_some (a := ab.1) (b := ab.2) h]; rfl
theorem sameS_comm (s t : List UInt8) : sameS s t = sameS t s := by
  unfold sameS
  have e : ((tdy s).1.toList == (tdy t).1.toList) = ((tdy t).1.toList == (tdy s).1.toList) := by
    rw [Bool.eq_iff_iff, beq_iff_eq, beq_iff_eq]; exact eq_comm
  rw [e, Bool.and_comm (tdy s).2]
theorem toList_inj {a b : ByteArray} (h : a.toList = b.toList) : a = b := by
  rw [ByteArray.toList_eq, ByteArray.toList_eq] at h
  exact chrs_inj h
theorem sameS_some {s t : List UInt8} {a b c d : List Bool} (h : parse s = some (a, b)) (h' : parse t = some (c, d)) : sameS s t = true ↔ hasB a b = hasB c d := by
  obtain ⟨h1, h2⟩ := parse_per h
  obtain ⟨h1', h2'⟩ := parse_per h'
  have s1 := cn_spec h1 h2
  have s2 := cn_spec h1' h2'
  have q1 := parse_some h
  have q2 := parse_some h'
  unfold sameS
  rw [tdy_some h, tdy_some h']
  simp only [Bool.true_and, Bool.and_true, beq_iff_eq]
  constructor
  · intro e
    have := textOf_inj (by omega) (by omega) (cn_ne h1 h2) (by omega) (by omega) (cn_ne h1' h2') (toList_inj e)
    rw [← s1.2.1, ← s2.2.1, this.1, this.2]
  · intro e; rw [e]

end Go.Proofs.Ytjjnckgdpdelkaa.P

-- Two sets together: from which number on, and by how many, both come again.
namespace Go.Proofs.Ytjjnckgdpdelkaa.P
open Go.RowKit Go.Proofs.YtjjnckgdpdelkaaW.PrintWords Go.Proofs.YtjjnckgdpdelkaaW.PrintLast Go.Proofs.YtjjnckgdpdelkaaW.PrintMore
set_option linter.unusedVariables false
set_option linter.unusedSimpArgs false

/-- Whether something holds. -/
noncomputable def dec (p : Prop) : Bool := @decide p (Classical.propDecidable p)
theorem dec_iff {p : Prop} : dec p = true ↔ p := by unfold dec; exact @decide_eq_true_iff p (Classical.propDecidable p)
theorem dec_true {p : Prop} (h : p) : dec p = true := dec_iff.2 h
theorem dec_false {p : Prop} (h : ¬ p) : dec p = false := by
  cases e : dec p with
  | false => rfl
  | true => exact absurd (dec_iff.1 e) h
theorem dec_congr {p q : Prop} (h : p ↔ q) : dec p = dec q := by rw [show p = q from propext h]
theorem Per.lcm_left {f : Nat → Bool} {m p : Nat} (h : Per f m p) (m' p' : Nat) : Per f (max m m') (Nat.lcm p p') := (h.mono (by omega)).dvd (Nat.dvd_lcm_left p p')
theorem Per.lcm_right {f : Nat → Bool} {m p : Nat} (h : Per f m p) (m' p' : Nat) : Per f (max m' m) (Nat.lcm p' p) := (h.mono (by omega)).dvd (Nat.dvd_lcm_right p' p)
theorem per_all {f g : Nat → Bool} {m p : Nat} (hp : 0 < p) (hf : Per f m p) (hg : Per g m p) {q : Bool → Bool → Prop} (h : ∀ n, n < m + p → q (f n) (g n)) : ∀ n, q (f n) (g n) := fun n => by
  rcases Nat.lt_or_ge n m with hn | hn
  · exact h n (by omega)
  · rw [hf.mod n hn, hg.mod n hn]
    exact h _ (by have := Nat.mod_lt (n - m) hp; omega)
theorem pair_per {f g : Nat → Bool} {m p : Nat} (hf : Per f m p) (hg : Per g m p) (q : Bool → Bool → Bool) : Per (fun n => q (f n) (g n)) m p := fun n hn => by
  show q (f (n + p)) (g (n + p)) = _
  rw [hf n hn, hg n hn]
theorem lcm_small {m n : Nat} (hm : m ≤ 60) (hn : n ≤ 60) : Nat.lcm m n ≤ 3600 := by
  have h1 : Nat.lcm m n ≤ m * n := by unfold Nat.lcm; exact Nat.div_le_self _ _
  have h2 : m * n ≤ 60 * 60 := Nat.mul_le_mul hm hn
  omega
/-- Whether each number of the first one is in the second one. -/
noncomputable def bel (s t : List UInt8) : Bool := (parse s).isSome && (parse t).isSome && dec (∀ n, setf s n = true → setf t n = true)
theorem bel_some {s t : List UInt8} {a b c d : List Bool} (h : parse s = some (a, b)) (h' : parse t = some (c, d)) : bel s t = dec (∀ n, hasB a b n = true → hasB c d n = true) := by
  unfold bel; rw [h, h', setf_some h, setf_some h']; rfl
theorem bel_none1 {s t : List UInt8} (h : parse s = none) : bel s t = false := by unfold bel; rw [h]; rfl
theorem bel_none2 {s t : List UInt8} (h : parse t = none) : bel s t = false := by unfold bel; rw [h]; simp
theorem sameS_none1 {s t : List UInt8} (h : parse s = none) : sameS s t = false := by unfold sameS; rw [tdy_none h]; rfl
theorem sameS_none2 {s t : List UInt8} (h : parse t = none) : sameS s t = false := by unfold sameS; rw [tdy_none h]; simp
theorem bel_same (s t : List UInt8) : (bel s t && bel t s) = sameS s t := by
  cases h : parse s with
  | none => rw [bel_none1 h, sameS_none1 h]; rfl
  | some ab =>
    cases h' : parse t with
    | none => rw [bel_none2 h', sameS_none2 h']; rfl
    | some cd =>
      rw [Bool.eq_iff_iff, Bool.and_eq_true, bel_some (a := ab.1) (b := ab.2) (c := cd.1) (d := cd.2) h h', bel_some (a := cd.1) (b := cd.2) (c := ab.1) (d := ab.2) h' h, dec_iff, dec_iff, sameS_some (a := ab.1) (b := ab.2) (c := cd.1) (d := cd.2) h h']
      constructor
      · rintro ⟨h1, h2⟩
        funext n
        rw [Bool.eq_iff_iff]
        exact ⟨h1 n, h2 n⟩
      · intro e; rw [e]; exact ⟨fun _ x => x, fun _ x => x⟩

/-- What a set of two ones is. -/
noncomputable def two (op : Bool → Bool → Bool) (s t : List UInt8) : ByteArray × Bool := if (parse s).isSome && (parse t).isSome then txt (cn fun n => op (setf s n) (setf t n)) else (⟨#[]⟩, false)

end Go.Proofs.Ytjjnckgdpdelkaa.P

-- Sums of two sets.
namespace Go.Proofs.Ytjjnckgdpdelkaa.P
open Go.RowKit Go.Proofs.YtjjnckgdpdelkaaW.PrintWords Go.Proofs.YtjjnckgdpdelkaaW.PrintLast Go.Proofs.YtjjnckgdpdelkaaW.PrintMore
set_option linter.unusedVariables false
set_option linter.unusedSimpArgs false

/-- All sums of one of each. -/
noncomputable def sumq (f g : Nat → Bool) : Nat → Bool := fun n => dec (∃ k, k ≤ n ∧ f k = true ∧ g (n - k) = true)
theorem sumq_iff {f g : Nat → Bool} {n : Nat} : sumq f g n = true ↔ ∃ i j, i + j = n ∧ f i = true ∧ g j = true := by
  unfold sumq
  rw [dec_iff]
  constructor
  · rintro ⟨k, h1, h2, h3⟩; exact ⟨k, n - k, by omega, h2, h3⟩
  · rintro ⟨i, j, h1, h2, h3⟩; exact ⟨i, by omega, h2, by rw [show n - i = j by omega]; exact h3⟩
theorem per_back {f : Nat → Bool} {m p n : Nat} (h : Per f m p) (hn : m + p ≤ n) (hf : f n = true) : f (n - p) = true := by
  have := h (n - p) (by omega)
  rw [show n - p + p = n by omega] at this
  rw [← this]; exact hf
theorem per_fwd {f : Nat → Bool} {m p n : Nat} (h : Per f m p) (hn : m ≤ n) (hf : f n = true) : f (n + p) = true := by rw [h n hn]; exact hf
theorem sumq_per {f g : Nat → Bool} {m m' L : Nat} (hf : Per f m L) (hg : Per g m' L) : Per (sumq f g) (m + m' + L) L := fun n hn => by
  rw [Bool.eq_iff_iff, sumq_iff, sumq_iff]
  constructor
  · rintro ⟨i, j, h1, h2, h3⟩
    by_cases hi : m + L ≤ i
    · exact ⟨i - L, j, by omega, per_back hf hi h2, h3⟩
    · exact ⟨i, j - L, by omega, h2, per_back hg (by omega) h3⟩
  · rintro ⟨i, j, h1, h2, h3⟩
    by_cases hi : m ≤ i
    · exact ⟨i + L, j, by omega, per_fwd hf hi h2, h3⟩
    · exact ⟨i, j + L, by omega, h2, per_fwd hg (by omega) h3⟩
/-- All sums of two different ones. -/
noncomputable def dblq (f : Nat → Bool) : Nat → Bool := fun n => dec (∃ k, k ≤ n ∧ f k = true ∧ f (n - k) = true ∧ k ≠ n - k)
theorem dblq_iff {f : Nat → Bool} {n : Nat} : dblq f n = true ↔ ∃ i j, i + j = n ∧ i < j ∧ f i = true ∧ f j = true := by
  unfold dblq
  rw [dec_iff]
  constructor
  · rintro ⟨k, h1, h2, h3, h4⟩
    rcases Nat.lt_or_ge k (n - k) with h | h
    · exact ⟨k, n - k, by omega, h, h2, h3⟩
    · exact ⟨n - k, k, by omega, by omega, h3, h2⟩
  · rintro ⟨i, j, h1, h2, h3, h4⟩
    exact ⟨i, by omega, h3, by rw [show n - i = j by omega]; exact h4, by omega⟩
theorem dblq_iff' {f : Nat → Bool} {n : Nat} : dblq f n = dec (∃ k, 2 * k < n ∧ f k = true ∧ f (n - k) = true) := by
  rw [Bool.eq_iff_iff, dblq_iff, dec_iff]
  constructor
  · rintro ⟨i, j, h1, h2, h3, h4⟩; exact ⟨i, by omega, h3, by rw [show n - i = j by omega]; exact h4⟩
  · rintro ⟨k, h1, h2, h3⟩; exact ⟨k, n - k, by omega, by omega, h2, h3⟩
theorem dblq_per {f : Nat → Bool} {m L : Nat} (hf : Per f m L) : Per (dblq f) (2 * m + 2 * L) L := fun n hn => by
  rw [Bool.eq_iff_iff, dblq_iff, dblq_iff]
  constructor
  · rintro ⟨i, j, h1, h2, h3, h4⟩
    have h5 := per_back hf (show m + L ≤ j by omega) h4
    rcases Nat.lt_trichotomy i (j - L) with h | h | h
    · exact ⟨i, j - L, by omega, h, h3, h5⟩
    · rcases Nat.eq_zero_or_pos L with hL | hL
      · exact ⟨i, j, by omega, h2, h3, h4⟩
      · exact ⟨i - L, j, by omega, by omega, per_back hf (by omega) h3, h4⟩
    · exact ⟨j - L, i, by omega, h, h5, h3⟩
  · rintro ⟨i, j, h1, h2, h3, h4⟩
    exact ⟨i, j + L, by omega, by omega, h3, per_fwd hf (by omega) h4⟩
theorem sumq_comm (f g : Nat → Bool) : sumq f g = sumq g f := by
  funext n
  rw [Bool.eq_iff_iff, sumq_iff, sumq_iff]
  constructor
  · rintro ⟨i, j, h1, h2, h3⟩; exact ⟨j, i, by omega, h3, h2⟩
  · rintro ⟨i, j, h1, h2, h3⟩; exact ⟨j, i, by omega, h3, h2⟩
theorem sumq_or (f g h : Nat → Bool) : sumq (fun n => f n || g n) h = fun n => sumq f h n || sumq g h n := by
  funext n
  rw [Bool.eq_iff_iff, Bool.or_eq_true, sumq_iff, sumq_iff, sumq_iff]
  constructor
  · rintro ⟨i, j, h1, h2, h3⟩
    rcases Bool.or_eq_true_iff.1 h2 with h2 | h2
    · exact .inl ⟨i, j, h1, h2, h3⟩
    · exact .inr ⟨i, j, h1, h2, h3⟩
  · rintro (⟨i, j, h1, h2, h3⟩ | ⟨i, j, h1, h2, h3⟩)
    · exact ⟨i, j, h1, by rw [h2]; rfl, h3⟩
    · exact ⟨i, j, h1, by rw [h2, Bool.or_true], h3⟩
/-- A tidy small set. -/
def Small (t : List Bool × List Bool) : Prop := t.1.length ≤ 8 ∧ t.2.length ≤ 8
noncomputable def smallB (s : List UInt8) : Bool := (parse s).isSome && dec (Small (cn (setf s)))
theorem smallB_ok {s : List UInt8} (h : smallB s = true) : ∃ a b, parse s = some (a, b) ∧ setf s = hasB a b ∧ (cn (setf s)).1.length ≤ 8 ∧ (cn (setf s)).2.length ≤ 8 ∧ 0 < (cn (setf s)).2.length ∧ Per (setf s) (cn (setf s)).1.length (cn (setf s)).2.length := by
  unfold smallB at h
  rw [Bool.and_eq_true, dec_iff] at h
  obtain ⟨⟨a, b⟩, hp⟩ := Option.isSome_iff_exists.1 h.1
  obtain ⟨p1, p2⟩ := parse_per hp
  have hset := setf_some hp
  have hper := hasB_per (cn (setf s)).1 (cn (setf s)).2
  have hs := cn_spec p1 p2
  rw [← hset] at hs
  rw [hs.2.1] at hper
  exact ⟨a, b, hp, hset, h.2.1, h.2.2, List.length_pos_iff.2 hs.1.1.1, hper⟩
/-- What SumOf answers. -/
noncomputable def smr (s t : List UInt8) : ByteArray × Bool := if smallB s && smallB t then txt (cn (sumq (setf s) (setf t))) else (⟨#[]⟩, false)
/-- What SumDouble answers. -/
noncomputable def dbr (s : List UInt8) : ByteArray × Bool := if smallB s then txt (cn (dblq (setf s))) else (⟨#[]⟩, false)
theorem lcm_le8 {m n : Nat} (h0 : 0 < m) (h0' : 0 < n) (hm : m ≤ 8) (hn : n ≤ 8) : Nat.lcm m n ≤ 56 := by
  have hd := Nat.gcd_dvd_left m n
  rcases Nat.lt_or_ge (m * n) 57 with h | h
  · have : Nat.lcm m n ≤ m * n := by unfold Nat.lcm; exact Nat.div_le_self _ _
    omega
  · have : m = 8 ∧ n = 8 := by
      constructor
      · refine Classical.byContradiction fun hne => ?_
        have : m * n ≤ 7 * 8 := Nat.mul_le_mul (by omega) hn
        omega
      · refine Classical.byContradiction fun hne => ?_
        have : m * n ≤ 8 * 7 := Nat.mul_le_mul hm (by omega)
        omega
    rw [this.1, this.2]; decide
end Go.Proofs.Ytjjnckgdpdelkaa.P

-- The star of a set: from some number on it comes again by its least number.
namespace Go.Proofs.Ytjjnckgdpdelkaa.P
open Go.RowKit Go.Proofs.YtjjnckgdpdelkaaW.PrintWords Go.Proofs.YtjjnckgdpdelkaaW.PrintLast Go.Proofs.YtjjnckgdpdelkaaW.PrintMore
set_option linter.unusedVariables false
set_option linter.unusedSimpArgs false

/-- A list of numbers above 0 of a set. -/
def Parts (f : Nat → Bool) (l : List Nat) : Prop := ∀ a, a ∈ l → 0 < a ∧ f a = true
def St (f : Nat → Bool) (n : Nat) : Prop := ∃ l, Parts f l ∧ l.sum = n
theorem St.zero (f : Nat → Bool) : St f 0 := ⟨[], fun a h => by simp at h, rfl⟩
theorem St.of {f : Nat → Bool} {a : Nat} (h0 : 0 < a) (h : f a = true) : St f a := ⟨[a], fun b hb => by rw [List.mem_singleton.1 hb]; exact ⟨h0, h⟩, by simp⟩
theorem St.add {f : Nat → Bool} {n m : Nat} (h : St f n) (h' : St f m) : St f (n + m) := by
  obtain ⟨l, h1, rfl⟩ := h
  obtain ⟨r, h2, rfl⟩ := h'
  exact ⟨l ++ r, fun a ha => (List.mem_append.1 ha).elim (h1 a) (h2 a), by simp⟩
theorem St.mul {f : Nat → Bool} {n : Nat} (h : St f n) : ∀ k, St f (k * n)
  | 0 => by rw [Nat.zero_mul]; exact St.zero f
  | k + 1 => by rw [Nat.succ_mul]; exact (St.mul h k).add h
theorem parts_cons {f : Nat → Bool} {a : Nat} {l : List Nat} : Parts f (a :: l) ↔ (0 < a ∧ f a = true) ∧ Parts f l := by
  constructor
  · intro h; exact ⟨h a (by simp), fun b hb => h b (by simp [hb])⟩
  · rintro ⟨h1, h2⟩ b hb
    rcases List.mem_cons.1 hb with rfl | hb
    · exact h1
    · exact h2 b hb
theorem St.step {f : Nat → Bool} {n : Nat} (h : St f n) (hn : 0 < n) : ∃ k, 1 ≤ k ∧ k ≤ n ∧ f k = true ∧ St f (n - k) := by
  obtain ⟨l, h1, rfl⟩ := h
  cases l with
  | nil => simp at hn
  | cons a l =>
    obtain ⟨⟨h2, h3⟩, h4⟩ := parts_cons.1 h1
    rw [List.sum_cons]
    exact ⟨a, h2, by omega, h3, l, h4, by omega⟩
theorem St.iff {f : Nat → Bool} {n : Nat} (hn : 0 < n) : St f n ↔ ∃ k, 1 ≤ k ∧ k ≤ n ∧ f k = true ∧ St f (n - k) := by
  constructor
  · intro h; exact h.step hn
  · rintro ⟨k, h1, h2, h3, h4⟩
    have := (St.of (by omega) h3).add h4
    rwa [show k + (n - k) = n by omega] at this
/-- Whether a number is in the star. -/
noncomputable def stq (f : Nat → Bool) : Nat → Bool := fun n => dec (St f n)
theorem stq_iff {f : Nat → Bool} {n : Nat} : stq f n = true ↔ St f n := dec_iff
theorem pigeon : ∀ (d : Nat) (g : Nat → Nat), (∀ i, i ≤ d → g i < d) → ∃ i j, i < j ∧ j ≤ d ∧ g i = g j := by
  intro d
  induction d with
  | zero => intro g h; have := h 0 (Nat.le_refl _); omega
  | succ d ih =>
    intro g h
    by_cases hx : ∃ i, i ≤ d ∧ g i = g (d + 1)
    · obtain ⟨i, h1, h2⟩ := hx
      exact ⟨i, d + 1, by omega, Nat.le_refl _, h2⟩
    · have hne : ∀ i, i ≤ d → g i ≠ g (d + 1) := fun i hi e => hx ⟨i, hi, e⟩
      obtain ⟨i, j, h1, h2, h3⟩ := ih (fun i => if g i = d then g (d + 1) else g i) (fun i hi => by
        have a := h i (by omega)
        have b := h (d + 1) (Nat.le_refl _)
        have c := hne i hi
        show (if g i = d then g (d + 1) else g i) < d
        split <;> omega)
      refine ⟨i, j, h1, by omega, ?_⟩
      have a := hne i (by omega)
      have b := hne j h2
      by_cases c1 : g i = d
      · by_cases c2 : g j = d
        · rw [c1, c2]
        · simp only [if_pos c1, if_neg c2] at h3; omega
      · by_cases c2 : g j = d
        · simp only [if_neg c1, if_pos c2] at h3; omega
        · simp only [if_neg c1, if_neg c2] at h3; exact h3
theorem sum_take_drop (l : List Nat) (i : Nat) : (l.take i).sum + (l.drop i).sum = l.sum := by
  rw [← List.sum_append, List.take_append_drop]
theorem sum_pos {f : Nat → Bool} {l : List Nat} (h : Parts f l) (hn : l ≠ []) : 0 < l.sum := by
  cases l with
  | nil => exact absurd rfl hn
  | cons a l => have := (parts_cons.1 h).1.1; rw [List.sum_cons]; omega
/-- Of a long list a piece is a multiple of q. -/
theorem parts_cut {f : Nat → Bool} {q : Nat} (hq : 0 < q) {l : List Nat} (h : Parts f l) (hl : q + 1 ≤ l.length) : ∃ e, 0 < e ∧ q * e < l.sum ∧ St f (l.sum - q * e) := by
  obtain ⟨i, j, h1, h2, h3⟩ := pigeon q (fun i => (l.take i).sum % q) (fun i _ => Nat.mod_lt _ hq)
  have h3 : (l.take i).sum % q = (l.take j).sum % q := h3
  have hij : (l.take j).sum = (l.take i).sum + ((l.drop i).take (j - i)).sum := by
    rw [← List.sum_append]
    congr 1
    have e := List.take_append_drop i (l.take j)
    rw [List.take_take, Nat.min_eq_left (by omega), List.drop_take] at e
    exact e.symm
  have hc : ((l.drop i).take (j - i)).sum % q = 0 := by
    rw [hij, Nat.add_mod] at h3
    have a := Nat.mod_lt ((l.take i).sum) hq
    have b := Nat.mod_lt (((l.drop i).take (j - i)).sum) hq
    rcases Nat.lt_or_ge ((l.take i).sum % q + ((l.drop i).take (j - i)).sum % q) q with c | c
    · rw [Nat.mod_eq_of_lt c] at h3; omega
    · have : ((l.take i).sum % q + ((l.drop i).take (j - i)).sum % q) % q = (l.take i).sum % q + ((l.drop i).take (j - i)).sum % q - q := by
        rw [Nat.mod_eq_sub_mod c, Nat.mod_eq_of_lt (by omega)]
      rw [this] at h3; omega
  have hsub : ∀ {r : List Nat}, (∀ a, a ∈ r → a ∈ l) → Parts f r := fun hr a ha => h a (hr a ha)
  have p1 : Parts f (l.take i) := hsub fun a ha => List.mem_of_mem_take ha
  have p2 : Parts f ((l.drop i).take (j - i)) := hsub fun a ha => List.mem_of_mem_drop (List.mem_of_mem_take ha)
  have p3 : Parts f (l.drop j) := hsub fun a ha => List.mem_of_mem_drop ha
  have hpos : 0 < ((l.drop i).take (j - i)).sum := sum_pos p2 (by
    intro e
    have := congrArg List.length e
    rw [List.length_take, List.length_drop, List.length_nil] at this
    omega)
  have hpos3 : 0 < (l.drop j).sum := sum_pos p3 (by
    intro e
    have := congrArg List.length e
    rw [List.length_drop, List.length_nil] at this
    omega)
  have htot := sum_take_drop l j
  obtain ⟨e, he⟩ := Nat.dvd_of_mod_eq_zero hc
  have hst : St f ((l.take i).sum + (l.drop j).sum) := St.add ⟨_, p1, rfl⟩ ⟨_, p3, rfl⟩
  refine ⟨e, ?_, by omega, ?_⟩
  · rcases Nat.eq_zero_or_pos e with rfl | x
    · rw [Nat.mul_zero] at he; omega
    · exact x
  · rw [show l.sum - q * e = (l.take i).sum + (l.drop j).sum by omega]
    exact hst
theorem sum_bound {l : List Nat} {G : Nat} (h : ∀ a, a ∈ l → a ≤ G) : l.sum ≤ l.length * G := by
  induction l with
  | nil => simp
  | cons a l ih =>
    have := ih fun b hb => h b (by simp [hb])
    have := h a (by simp)
    rw [List.sum_cons, List.length_cons, Nat.succ_mul]; omega
/-- If what is above 0 goes on by q, and a great part is another one and q times some number: behind some number one may take q away. -/
theorem St.back {f : Nat → Bool} {q G : Nat} (hq : 0 < q) (h1 : ∀ n, 0 < n → St f n → St f (n + q)) (h2 : ∀ a, G < a → f a = true → ∃ a' e, 0 < a' ∧ 0 < e ∧ a' + q * e = a ∧ f a' = true) {n : Nat} (hn : q * G < n) (h : St f n) : St f (n - q) := by
  have up : ∀ e m, 0 < m → St f m → St f (m + q * e) := by
    intro e
    induction e with
    | zero => intro m _ hs; rw [Nat.mul_zero, Nat.add_zero]; exact hs
    | succ e ih =>
      intro m hm hs
      have := h1 _ (by omega) (ih m hm hs)
      rwa [Nat.add_assoc, ← Nat.mul_succ] at this
  obtain ⟨l, hl, rfl⟩ := h
  by_cases hlen : q + 1 ≤ l.length
  · obtain ⟨e, he, hlt, hs⟩ := parts_cut hq hl hlen
    have := up (e - 1) _ (by omega) hs
    have he2 : q * e = q * (e - 1) + q := by rw [← Nat.mul_succ]; congr 1; omega
    rwa [show l.sum - q * e + q * (e - 1) = l.sum - q by omega] at this
  · by_cases hall : ∀ a, a ∈ l → a ≤ G
    · have b1 := sum_bound hall
      have b2 : l.length * G ≤ q * G := Nat.mul_le_mul_right G (by omega)
      omega
    · obtain ⟨a, ha, hG⟩ : ∃ a, a ∈ l ∧ G < a := by
        refine Classical.byContradiction fun hno => hall fun a ha => ?_
        rcases Nat.lt_or_ge G a with x | x
        · exact absurd ⟨a, ha, x⟩ hno
        · exact x
      obtain ⟨a', e, h3, h4, h5, h6⟩ := h2 a hG (hl a ha).2
      obtain ⟨x, y, rfl⟩ := List.append_of_mem ha
      have hx : Parts f (x ++ a' :: y) := by
        intro b hb
        rcases List.mem_append.1 hb with c | c
        · exact hl b (List.mem_append.2 (.inl c))
        · rcases List.mem_cons.1 c with rfl | c
          · exact ⟨h3, h6⟩
          · exact hl b (List.mem_append.2 (.inr (List.mem_cons.2 (.inr c))))
      have hs : St f (x ++ a' :: y).sum := ⟨_, hx, rfl⟩
      have e1 : (x ++ a :: y).sum = x.sum + (a + y.sum) := by rw [List.sum_append, List.sum_cons]
      have e2 : (x ++ a' :: y).sum = x.sum + (a' + y.sum) := by rw [List.sum_append, List.sum_cons]
      rw [e2] at hs
      have := up (e - 1) _ (by omega) hs
      have he2 : q * e = q * (e - 1) + q := by rw [← Nat.mul_succ]; congr 1; omega
      rw [e1]
      rwa [show x.sum + (a' + y.sum) + q * (e - 1) = x.sum + (a + y.sum) - q by omega] at this
theorem per_sub {f : Nat → Bool} {m p : Nat} (h : Per f m p) : ∀ k a, m + k * p ≤ a → f a = true → f (a - k * p) = true
  | 0, a, _, hf => by rw [Nat.zero_mul, Nat.sub_zero]; exact hf
  | k + 1, a, ha, hf => by
    rw [Nat.succ_mul] at ha ⊢
    have := per_sub h k a (by omega) hf
    have := per_back h (by omega) this
    rwa [Nat.sub_sub] at this
/-- THE STAR COMES AGAIN by the least number of a small set. -/
theorem stq_per {f : Nat → Bool} {m p d : Nat} (hm : m ≤ 8) (hp : 0 < p) (hp8 : p ≤ 8) (hper : Per f m p) (hd : 0 < d) (hfd : f d = true) (hmin : ∀ k, 0 < k → k < d → f k = false) : Per (stq f) 584 d := by
  have hSd : St f d := St.of hd hfd
  by_cases h8 : d ≤ 8
  · have hpd : p * d ≤ 8 * 8 := Nat.mul_le_mul hp8 h8
    have hq := fun n (hn : 584 < n) (h : St f n) => St.back (G := m + p * d) hd (fun n _ h => h.add hSd) (fun a ha hf => by
      have hc : d * p = p * d := Nat.mul_comm _ _
      have := per_sub hper d a (by omega) hf
      exact ⟨a - d * p, p, by omega, hp, by omega, this⟩) (n := n) (by
        have : d * (m + p * d) ≤ 8 * (8 + 64) := Nat.mul_le_mul h8 (by omega)
        omega) h
    intro n hn
    rw [Bool.eq_iff_iff, stq_iff, stq_iff]
    constructor
    · intro h
      have := hq _ (by omega) h
      rwa [Nat.add_sub_cancel] at this
    · intro h; exact h.add hSd
  · have hge : ∀ a, 0 < a → f a = true → d ≤ a := fun a h0 ha => by
      rcases Nat.lt_or_ge a d with x | x
      · rw [hmin a h0 x] at ha; cases ha
      · exact x
    have hup : ∀ n, 0 < n → St f n → St f (n + p) := by
      intro n hn h
      obtain ⟨k, h1, h2, h3, h4⟩ := h.step hn
      have h5 := per_fwd hper (show m ≤ k by have := hge k (by omega) h3; omega) h3
      have := (St.of (show 0 < k + p by omega) h5).add h4
      rwa [show k + p + (n - k) = n + p by omega] at this
    have hq := fun n (hn : 128 < n) (h : St f n) => St.back (G := m + p) hp hup (fun a ha hf => by
      have h1 := hge a (by omega) hf
      exact ⟨a - p, 1, by omega, by omega, by rw [Nat.mul_one]; omega, per_back hper (by omega) hf⟩) (n := n) (by
        have : p * (m + p) ≤ 8 * 16 := Nat.mul_le_mul hp8 (by omega)
        omega) h
    have hper2 : Per (stq f) 584 p := by
      intro n hn
      rw [Bool.eq_iff_iff, stq_iff, stq_iff]
      constructor
      · intro h
        have := hq _ (by omega) h
        rwa [Nat.add_sub_cancel] at this
      · intro h; exact hup n (by omega) h
    intro n hn
    rw [Bool.eq_iff_iff]
    constructor
    · intro h
      rw [stq_iff] at h
      have h2 := (h.add (hSd.mul (p - 1)))
      have h3 := hper2.mul d n hn
      rw [← stq_iff] at h2
      have e : n + d + (p - 1) * d = n + d * p := by
        have : p * d = (p - 1) * d + d := by rw [← Nat.succ_mul]; congr 1; omega
        rw [Nat.mul_comm d p]; omega
      rw [e, h3] at h2; exact h2
    · intro h
      rw [stq_iff] at h ⊢
      exact h.add hSd
theorem stq_none {f : Nat → Bool} (h : ∀ k, 0 < k → f k = false) : stq f = fun n => decide (n = 0) := by
  funext n
  rcases Nat.eq_zero_or_pos n with rfl | hn
  · rw [stq_iff.2 (St.zero f)]; rfl
  · rw [decide_eq_false (by omega)]
    cases hx : stq f n with
    | false => rfl
    | true =>
      obtain ⟨k, h1, _, h3, _⟩ := (stq_iff.1 hx).step hn
      rw [h k (by omega)] at h3; cases h3
theorem stq_idem (f : Nat → Bool) : stq (stq f) = stq f := by
  funext n
  rw [Bool.eq_iff_iff, stq_iff, stq_iff]
  constructor
  · rintro ⟨l, h1, rfl⟩
    induction l with
    | nil => exact St.zero f
    | cons a l ih =>
      obtain ⟨⟨_, h2⟩, h3⟩ := parts_cons.1 h1
      rw [List.sum_cons]
      exact (stq_iff.1 h2).add (ih h3)
  · intro h
    rcases Nat.eq_zero_or_pos n with rfl | hn
    · exact St.zero _
    · exact St.of hn (stq_iff.2 h)
theorem stq_or (f g : Nat → Bool) : stq (fun n => f n || g n) = sumq (stq f) (stq g) := by
  funext n
  rw [Bool.eq_iff_iff, stq_iff, sumq_iff]
  constructor
  · rintro ⟨l, h1, rfl⟩
    induction l with
    | nil => exact ⟨0, 0, rfl, stq_iff.2 (St.zero f), stq_iff.2 (St.zero g)⟩
    | cons a l ih =>
      obtain ⟨⟨h0, h2⟩, h3⟩ := parts_cons.1 h1
      obtain ⟨i, j, e, hi, hj⟩ := ih h3
      rw [List.sum_cons]
      rcases Bool.or_eq_true_iff.1 h2 with h2 | h2
      · exact ⟨a + i, j, by omega, stq_iff.2 ((St.of h0 h2).add (stq_iff.1 hi)), hj⟩
      · exact ⟨i, a + j, by omega, hi, stq_iff.2 ((St.of h0 h2).add (stq_iff.1 hj))⟩
  · rintro ⟨i, j, rfl, hi, hj⟩
    have mono : ∀ (u v : Nat → Bool) m, (∀ k, u k = true → v k = true) → St u m → St v m := fun u v m h hs => by
      obtain ⟨l, h1, rfl⟩ := hs
      exact ⟨l, fun a ha => ⟨(h1 a ha).1, h a (h1 a ha).2⟩, rfl⟩
    exact (mono f _ i (fun k h => by rw [h]; rfl) (stq_iff.1 hi)).add (mono g _ j (fun k h => by rw [h, Bool.or_true]) (stq_iff.1 hj))
end Go.Proofs.Ytjjnckgdpdelkaa.P

-- Terms over one letter: their texts, how they are read, and what they tell.
namespace Go.Proofs.Ytjjnckgdpdelkaa.P
open Go.RowKit Go.Proofs.YtjjnckgdpdelkaaW.PrintWords Go.Proofs.YtjjnckgdpdelkaaW.PrintLast Go.Proofs.YtjjnckgdpdelkaaW.PrintMore
set_option linter.unusedVariables false
set_option linter.unusedSimpArgs false

/-- A term: a sign alone, a sign and a term, or two terms and a sign between. -/
inductive Tm where
  | leaf (c : UInt8) : Tm
  | one (c : UInt8) (t : Tm) : Tm
  | two (c : UInt8) (a b : Tm) : Tm
def isL (c : UInt8) : Bool := c == 48 || (c == 49 || c == 97)
def isO (c : UInt8) : Bool := c == 42 || (decide (50 ≤ c.toNat) && decide (c.toNat ≤ 53))
def isT (c : UInt8) : Bool := c == 43 || (c == 46 || c == 38)
def Tm.ok : Tm → Prop
  | .leaf c => isL c = true
  | .one c t => isO c = true ∧ t.ok
  | .two c a b => isT c = true ∧ a.ok ∧ b.ok
/-- The text of a term. -/
def Tm.txt : Tm → List UInt8
  | .leaf c => [c]
  | .one c t => c :: t.txt
  | .two c a b => 40 :: (a.txt ++ c :: (b.txt ++ [41]))
/-- A term from the beginning of a text, and what is left. -/
def prs : Nat → List UInt8 → Option (Tm × List UInt8)
  | 0, _ => none
  | _ + 1, [] => none
  | k + 1, c :: s =>
    if isL c = true then some (.leaf c, s)
    else if isO c = true then (match prs k s with | none => none | some (t, r) => some (.one c t, r))
    else if c = 40 then (match prs k s with
      | none => none
      | some (_, []) => none
      | some (a, d :: r1) => if isT d = true then (match prs k r1 with
          | none => none
          | some (_, []) => none
          | some (b, e :: r3) => if e = 41 then some (.two d a b, r3) else none) else none)
    else none
theorem isO_notL {c : UInt8} (h : isO c = true) : isL c = false := by
  unfold isO at h
  rw [Bool.or_eq_true, Bool.and_eq_true, beq_iff_eq, decide_eq_true_iff, decide_eq_true_iff] at h
  have hc : c.toNat = 42 ∨ (50 ≤ c.toNat ∧ c.toNat ≤ 53) := by
    rcases h with rfl | h
    · exact .inl rfl
    · exact .inr h
  have n1 : c ≠ 48 := fun e => by subst e; simp at hc
  have n2 : c ≠ 49 := fun e => by subst e; simp at hc
  have n3 : c ≠ 97 := fun e => by subst e; simp at hc
  unfold isL
  simp [n1, n2, n3]
theorem prs_spec : ∀ (k : Nat) (s : List UInt8) {t : Tm} {r : List UInt8}, prs k s = some (t, r) → t.ok ∧ s = t.txt ++ r
  | 0, s, t, r, h => by cases h
  | k + 1, [], t, r, h => by cases h
  | k + 1, c :: s, t, r, h => by
    unfold prs at h
    split at h
    · rename_i hL
      simp only [Option.some.injEq, Prod.mk.injEq] at h
      obtain ⟨rfl, rfl⟩ := h
      exact ⟨hL, rfl⟩
    · split at h
      · rename_i hL hO
        split at h
        · cases h
        · rename_i t' r' hp
          simp only [Option.some.injEq, Prod.mk.injEq] at h
          obtain ⟨rfl, rfl⟩ := h
          obtain ⟨h1, h2⟩ := prs_spec k s hp
          exact ⟨⟨hO, h1⟩, by rw [h2]; rfl⟩
      · split at h
        · rename_i h40
          split at h
          · cases h
          · cases h
          · rename_i a d r1 hp
            split at h
            · rename_i hT
              split at h
              · cases h
              · cases h
              · rename_i b e r3 hq
                split at h
                · rename_i h41
                  simp only [Option.some.injEq, Prod.mk.injEq] at h
                  obtain ⟨rfl, rfl⟩ := h
                  obtain ⟨h1, h2⟩ := prs_spec k s hp
                  obtain ⟨h3, h4⟩ := prs_spec k r1 hq
                  refine ⟨⟨hT, h1, h3⟩, ?_⟩
                  rw [h40, h2, h4, h41]
                  show _ = (40 :: (a.txt ++ d :: (b.txt ++ [41]))) ++ _
                  simp
                · cases h
            · cases h
        · cases h
theorem txt_pos (t : Tm) : 0 < t.txt.length := by cases t <;> simp [Tm.txt]
theorem prs_len {k : Nat} {s : List UInt8} {t : Tm} {r : List UInt8} (h : prs k s = some (t, r)) : r.length < s.length := by
  have := (prs_spec k s h).2
  have hp := txt_pos t
  rw [this, List.length_append]; omega
theorem prs_txt : ∀ (t : Tm) (k : Nat) (r : List UInt8), t.ok → t.txt.length ≤ k → prs k (t.txt ++ r) = some (t, r)
  | .leaf c, k, r, h, hk => by
    obtain ⟨k, rfl⟩ : ∃ j, k = j + 1 := ⟨k - 1, by simp [Tm.txt] at hk; omega⟩
    show prs (k + 1) (c :: r) = _
    unfold prs
    rw [if_pos (show isL c = true from h)]
  | .one c t, k, r, h, hk => by
    obtain ⟨k, rfl⟩ : ∃ j, k = j + 1 := ⟨k - 1, by simp [Tm.txt] at hk; omega⟩
    have hO : isO c = true := h.1
    have ih := prs_txt t k r h.2 (by simp [Tm.txt] at hk; omega)
    show prs (k + 1) (c :: (t.txt ++ r)) = _
    unfold prs
    rw [if_neg (by rw [isO_notL hO]; decide), if_pos hO, ih]
  | .two c a b, k, r, h, hk => by
    obtain ⟨k, rfl⟩ : ∃ j, k = j + 1 := ⟨k - 1, by simp [Tm.txt] at hk; omega⟩
    have hT : isT c = true := h.1
    have hl : a.txt.length + b.txt.length + 2 ≤ k := by simp [Tm.txt] at hk; omega
    have ih1 := prs_txt a k (c :: (b.txt ++ (41 :: r))) h.2.1 (by omega)
    have ih2 := prs_txt b k (41 :: r) h.2.2 (by omega)
    have e : (Tm.two c a b).txt ++ r = 40 :: (a.txt ++ (c :: (b.txt ++ (41 :: r)))) := by simp [Tm.txt]
    rw [e]
    unfold prs
    rw [if_neg (by decide), if_neg (by decide), if_pos rfl, ih1]
    dsimp only
    rw [if_pos hT, ih2]
    dsimp only
    rw [if_pos rfl]
/-- The term of a text, if it is one. -/
def trmO : Option (Tm × List UInt8) → Option Tm
  | some (t, []) => some t
  | some (_, _ :: _) => none
  | none => none
def trm (s : List UInt8) : Option Tm := if s.length ≤ 60 then trmO (prs (s.length + 1) s) else none
theorem trm_some {s : List UInt8} {t : Tm} (h : trm s = some t) : s.length ≤ 60 ∧ t.ok ∧ s = t.txt ∧ prs (s.length + 1) s = some (t, []) := by
  unfold trm at h
  split at h
  · rename_i hl
    cases hp : prs (s.length + 1) s with
    | none => rw [hp] at h; cases h
    | some x =>
      obtain ⟨t', r⟩ := x
      cases r with
      | cons d r => rw [hp] at h; cases h
      | nil =>
        rw [hp] at h
        have e : t' = t := by simpa [trmO] using h
        subst e
        obtain ⟨h1, h2⟩ := prs_spec _ _ hp
        exact ⟨hl, h1, by rw [List.append_nil] at h2; exact h2, by first | exact hp | rfl⟩
  · cases h
theorem trm_txt {t : Tm} (h : t.ok) (hl : t.txt.length ≤ 60) : trm t.txt = some t := by
  have := prs_txt t (t.txt.length + 1) [] h (by omega)
  rw [List.append_nil] at this
  unfold trm
  rw [if_pos hl, this]; rfl
/-- k of a set together. -/
noncomputable def mulq (f : Nat → Bool) : Nat → Nat → Bool
  | 0 => fun n => decide (n = 0)
  | k + 1 => sumq (mulq f k) f
/-- What a term tells. -/
noncomputable def tsem : Tm → Nat → Bool
  | .leaf c => fun n => (c == 49 && decide (n = 0)) || (c == 97 && decide (n = 1))
  | .one c t => if c = 42 then stq (tsem t) else mulq (tsem t) (c.toNat - 48)
  | .two c a b => if c = 46 then sumq (tsem a) (tsem b) else if c = 43 then (fun n => tsem a n || tsem b n) else (fun n => tsem a n && tsem b n)
theorem sumq_congr {f g f' g' : Nat → Bool} {N : Nat} (hf : ∀ n, n ≤ N → f n = f' n) (hg : ∀ n, n ≤ N → g n = g' n) {n : Nat} (hn : n ≤ N) : sumq f g n = sumq f' g' n := by
  rw [Bool.eq_iff_iff, sumq_iff, sumq_iff]
  constructor
  · rintro ⟨i, j, h1, h2, h3⟩; exact ⟨i, j, h1, by rw [← hf i (by omega)]; exact h2, by rw [← hg j (by omega)]; exact h3⟩
  · rintro ⟨i, j, h1, h2, h3⟩; exact ⟨i, j, h1, by rw [hf i (by omega)]; exact h2, by rw [hg j (by omega)]; exact h3⟩
theorem sumq_zero (f : Nat → Bool) : sumq (fun n => decide (n = 0)) f = f := by
  funext n
  rw [Bool.eq_iff_iff, sumq_iff]
  constructor
  · rintro ⟨i, j, h1, h2, h3⟩
    rw [decide_eq_true_iff] at h2
    rw [show n = j by omega]; exact h3
  · intro h; exact ⟨0, n, by omega, rfl, h⟩
theorem mulq_one (f : Nat → Bool) : mulq f 1 = f := sumq_zero f
end Go.Proofs.Ytjjnckgdpdelkaa.P

-- Terms as the reference reads them: a term, and the place behind it if there is one.
namespace Go.Proofs.Ytjjnckgdpdelkaa.P
open Go.RowKit Go.Proofs.YtjjnckgdpdelkaaW.PrintWords Go.Proofs.YtjjnckgdpdelkaaW.PrintLast Go.Proofs.YtjjnckgdpdelkaaW.PrintMore
set_option linter.unusedVariables false
set_option linter.unusedSimpArgs false

def no7 : Tm × Option (List UInt8) := (.leaf 48, none)
def two7 (a : Tm) (d : UInt8) : Tm × Option (List UInt8) → Tm × Option (List UInt8)
  | (_, none) => no7
  | (_, some []) => no7
  | (b, some (e :: r3)) => if e = 41 then (.two d a b, some r3) else no7
def one7 (P : List UInt8 → Tm × Option (List UInt8)) : Tm × Option (List UInt8) → Tm × Option (List UInt8)
  | (_, none) => no7
  | (_, some []) => no7
  | (a, some (d :: r1)) => if isT d = true then two7 a d (P r1) else no7
/-- What the reference reads. -/
def rd7 : Nat → List UInt8 → Tm × Option (List UInt8)
  | 0, _ => no7
  | _ + 1, [] => no7
  | k + 1, c :: s =>
    if isL c = true then (.leaf c, some s)
    else if isO c = true then (.one c (rd7 k s).1, (rd7 k s).2)
    else if c = 40 then one7 (rd7 k) (rd7 k s)
    else no7
/-- Both read the same. -/
theorem rd7_prs : ∀ (k : Nat) (s : List UInt8), (∀ t r, prs k s = some (t, r) → rd7 k s = (t, some r)) ∧ (prs k s = none → (rd7 k s).2 = none)
  | 0, s => ⟨fun t r h => (by cases h), fun _ => rfl⟩
  | k + 1, [] => ⟨fun t r h => (by cases h), fun _ => rfl⟩
  | k + 1, c :: s => by
    obtain ⟨i1, i2⟩ := rd7_prs k s
    unfold prs rd7
    by_cases h1 : isL c = true
    · rw [if_pos h1, if_pos h1]
      refine ⟨fun t r h => ?_, fun h => by cases h⟩
      simp only [Option.some.injEq, Prod.mk.injEq] at h
      rw [h.1, h.2]
    · rw [if_neg h1, if_neg h1]
      by_cases h2 : isO c = true
      · rw [if_pos h2, if_pos h2]
        cases hp : prs k s with
        | none => exact ⟨fun t r h => (by cases h), fun _ => i2 hp⟩
        | some x =>
          obtain ⟨t', r'⟩ := x
          rw [i1 t' r' hp]
          refine ⟨fun t r h => ?_, fun h => by cases h⟩
          simp only [Option.some.injEq, Prod.mk.injEq] at h
          rw [h.1, h.2]
      · rw [if_neg h2, if_neg h2]
        by_cases h3 : c = 40
        · rw [if_pos h3, if_pos h3]
          cases hp : prs k s with
          | none =>
            refine ⟨fun t r h => (by cases h), fun _ => ?_⟩
            have := i2 hp
            cases hx : rd7 k s with
            | mk a o => rw [hx] at this; simp only at this; rw [this]; rfl
          | some x =>
            obtain ⟨a, r'⟩ := x
            rw [i1 a r' hp]
            cases r' with
            | nil => exact ⟨fun t r h => (by cases h), fun _ => rfl⟩
            | cons d r1 =>
              obtain ⟨j1, j2⟩ := rd7_prs k r1
              show (∀ t r, (if isT d = true then _ else none) = some (t, r) → (if isT d = true then two7 a d (rd7 k r1) else no7) = (t, some r)) ∧ ((if isT d = true then _ else none) = none → (if isT d = true then two7 a d (rd7 k r1) else no7).2 = none)
              by_cases hT : isT d = true
              · rw [if_pos hT, if_pos hT]
                cases hq : prs k r1 with
                | none =>
                  refine ⟨fun t r h => (by cases h), fun _ => ?_⟩
                  have := j2 hq
                  cases hx : rd7 k r1 with
                  | mk b o => rw [hx] at this; simp only at this; rw [this]; rfl
                | some y =>
                  obtain ⟨b, r2⟩ := y
                  rw [j1 b r2 hq]
                  cases r2 with
                  | nil => exact ⟨fun t r h => (by cases h), fun _ => rfl⟩
                  | cons e r3 =>
                    show (∀ t r, (if e = 41 then some (Tm.two d a b, r3) else none) = some (t, r) → (if e = 41 then (Tm.two d a b, some r3) else no7) = (t, some r)) ∧ ((if e = 41 then some (Tm.two d a b, r3) else none) = none → (if e = 41 then (Tm.two d a b, some r3) else no7).2 = none)
                    by_cases h4 : e = 41
                    · rw [if_pos h4, if_pos h4]
                      refine ⟨fun t r h => ?_, fun h => by cases h⟩
                      simp only [Option.some.injEq, Prod.mk.injEq] at h
                      rw [h.1, h.2]
                    · rw [if_neg h4, if_neg h4]
                      exact ⟨fun t r h => (by cases h), fun _ => rfl⟩
              · rw [if_neg hT, if_neg hT]
                exact ⟨fun t r h => (by cases h), fun _ => rfl⟩
        · rw [if_neg h3, if_neg h3]
          exact ⟨fun t r h => (by cases h), fun _ => rfl⟩
theorem rd7_len {k : Nat} {s : List UInt8} {r : List UInt8} (h : (rd7 k s).2 = some r) : r.length < s.length := by
  cases hp : prs k s with
  | none => rw [(rd7_prs k s).2 hp] at h; cases h
  | some x =>
    obtain ⟨t, r'⟩ := x
    rw [(rd7_prs k s).1 t r' hp] at h
    simp only [Option.some.injEq] at h
    subst h
    exact prs_len hp
end Go.Proofs.Ytjjnckgdpdelkaa.P

-- The parts of a star; marks that are being made.
namespace Go.Proofs.Ytjjnckgdpdelkaa.P
open Go.RowKit Go.Proofs.YtjjnckgdpdelkaaW.PrintWords Go.Proofs.YtjjnckgdpdelkaaW.PrintLast Go.Proofs.YtjjnckgdpdelkaaW.PrintMore
set_option linter.unusedVariables false
set_option linter.unusedSimpArgs false

/-- Whether a number is the sum of two of the star, both above 0. -/
noncomputable def dcm (f : Nat → Bool) (n : Nat) : Bool := dec (∃ j, 1 ≤ j ∧ j < n ∧ stq f j = true ∧ stq f (n - j) = true)
/-- The parts: numbers of the set above 0 that are no such sum. -/
noncomputable def atm (f : Nat → Bool) (n : Nat) : Bool := decide (0 < n) && (f n && !dcm f n)
theorem stq_pos (f : Nat → Bool) {n : Nat} (hn : 0 < n) : stq f n = (dcm f n || f n) := by
  rw [Bool.eq_iff_iff, Bool.or_eq_true]
  constructor
  · intro h
    obtain ⟨k, h1, h2, h3, h4⟩ := (stq_iff.1 h).step hn
    rcases Nat.lt_or_ge k n with hk | hk
    · exact .inl (dec_true ⟨k, h1, hk, stq_iff.2 (St.of (by omega) h3), stq_iff.2 h4⟩)
    · rw [show k = n by omega] at h3; exact .inr h3
  · rintro (h | h)
    · obtain ⟨j, h1, h2, h3, h4⟩ := dec_iff.1 h
      have := (stq_iff.1 h3).add (stq_iff.1 h4)
      rw [show j + (n - j) = n by omega] at this
      exact stq_iff.2 this
    · exact stq_iff.2 (St.of hn h)
theorem atm_of {f : Nat → Bool} : ∀ j : Nat, 0 < j → stq f j = true → ∃ p, 1 ≤ p ∧ p ≤ j ∧ atm f p = true ∧ stq f (j - p) = true := by
  intro j
  induction j using Nat.strongRecOn with
  | ind j ih =>
    intro h0 h
    rw [stq_pos f h0] at h
    cases hd : dcm f j with
    | true =>
      obtain ⟨k, h1, h2, h3, h4⟩ := dec_iff.1 hd
      obtain ⟨p, p1, p2, p3, p4⟩ := ih k h2 h1 h3
      refine ⟨p, p1, by omega, p3, ?_⟩
      have := (stq_iff.1 p4).add (stq_iff.1 h4)
      rw [show k - p + (j - k) = j - p by omega] at this
      exact stq_iff.2 this
    | false =>
      rw [hd, Bool.false_or] at h
      refine ⟨j, h0, Nat.le_refl _, ?_, by rw [Nat.sub_self]; exact stq_iff.2 (St.zero f)⟩
      unfold atm
      rw [h, hd, decide_eq_true h0]; rfl
theorem dcm_parts {f : Nat → Bool} {n : Nat} : dcm f n = dec (∃ p, p < n ∧ atm f p = true ∧ stq f (n - p) = true) := by
  apply dec_congr
  constructor
  · rintro ⟨j, h1, h2, h3, h4⟩
    obtain ⟨p, p1, p2, p3, p4⟩ := atm_of j h1 h3
    refine ⟨p, by omega, p3, ?_⟩
    have := (stq_iff.1 p4).add (stq_iff.1 h4)
    rw [show j - p + (n - j) = n - p by omega] at this
    exact stq_iff.2 this
  · rintro ⟨p, h1, h2, h3⟩
    unfold atm at h2
    rw [Bool.and_eq_true, Bool.and_eq_true, decide_eq_true_iff] at h2
    exact ⟨p, h2.1, h1, stq_iff.2 (St.of h2.1 h2.2.1), h3⟩
/-- Marks that are made up to n, one that is being made, and others that are not. -/
def mid (q : Nat → Bool) (n : Nat) (v : Bool) (m : Nat) : List Bool := mkT q n ++ v :: List.replicate m false
theorem mid_length (q : Nat → Bool) (n : Nat) (v : Bool) (m : Nat) : (mid q n v m).length = n + 1 + m := by
  unfold mid; rw [List.length_append, mkT_length, List.length_cons, List.length_replicate]; omega
theorem mid_set (q : Nat → Bool) (n : Nat) (v u : Bool) (m : Nat) : (mid q n v m).set n u = mid q n u m := by
  unfold mid
  rw [List.set_append_right n u (by rw [mkT_length]; exact Nat.le_refl _), mkT_length, Nat.sub_self]; rfl
theorem mid_self (q : Nat → Bool) (n : Nat) (v : Bool) (m : Nat) : (mid q n v m).getD n false = v := by
  unfold mid
  rw [List.getD_eq_getElem?_getD, List.getElem?_append_right (by rw [mkT_length]; exact Nat.le_refl _), mkT_length, Nat.sub_self]; rfl
theorem mid_lt (q : Nat → Bool) {n i : Nat} (hi : i < n) (v : Bool) (m : Nat) : (mid q n v m).getD i false = q i := by
  unfold mid
  rw [List.getD_eq_getElem?_getD, List.getElem?_append_left (by rw [mkT_length]; exact hi), ← List.getD_eq_getElem?_getD, mkT_get q hi]
theorem mid_next (q : Nat → Bool) (n : Nat) (m : Nat) : mid q n (q n) (m + 1) = mid q (n + 1) false m := by
  unfold mid
  rw [mkT_succ, List.append_assoc]; rfl
theorem mid_start (q : Nat → Bool) (m : Nat) : List.replicate (m + 1) false = mid q 0 false m := by
  unfold mid mkT; rfl
theorem mid_end (q : Nat → Bool) (n : Nat) : mid q n (q n) 0 = mkT q (n + 1) := by
  unfold mid; rw [mkT_succ]; rfl
/-- The star's least number above 0, 0 if there is none. -/
def IsLeast (f : Nat → Bool) (d : Nat) : Prop := (d = 0 ∧ ∀ k, 0 < k → f k = false) ∨ (0 < d ∧ f d = true ∧ ∀ k, 0 < k → k < d → f k = false)
theorem isLeast_uniq {f : Nat → Bool} {d d' : Nat} (h : IsLeast f d) (h' : IsLeast f d') : d = d' := by
  rcases h with ⟨h1, h2⟩ | ⟨h1, h2, h3⟩
  · rcases h' with ⟨g1, g2⟩ | ⟨g1, g2, g3⟩
    · rw [h1, g1]
    · rw [h2 d' g1] at g2; cases g2
  · rcases h' with ⟨g1, g2⟩ | ⟨g1, g2, g3⟩
    · rw [g2 d h1] at h2; cases h2
    · rcases Nat.lt_trichotomy d d' with x | x | x
      · rw [g3 d h1 x] at h2; cases h2
      · exact x
      · rw [h3 d' g1 x] at g2; cases g2
theorem none_of {f : Nat → Bool} {m p : Nat} (hp : 0 < p) (h : Per f m p) (hn : ∀ k, 0 < k → k ≤ m + p → f k = false) : ∀ k, 0 < k → f k = false := fun k hk => by
  rcases Nat.lt_or_ge (m + p) k with h1 | h1
  · -- k = m + 1 + (k - m - 1), and the rest of that by p
    have h2 : Per f (m + 1) p := h.mono (by omega)
    rw [h2.mod k (by omega)]
    have := Nat.mod_lt (k - (m + 1)) hp
    exact hn _ (by omega) (by omega)
  · exact hn k hk h1
/-- The star, with 0 or not. -/
noncomputable def stz (z : Bool) (f : Nat → Bool) : Nat → Bool := fun n => if n = 0 then z else stq f n
theorem stz_true (f : Nat → Bool) : stz true f = stq f := by
  funext n
  unfold stz
  split
  · rename_i h; subst h; exact (stq_iff.2 (St.zero f)).symm
  · rfl
theorem stz_per {f : Nat → Bool} {m p d : Nat} (hm : m ≤ 8) (hp : 0 < p) (hp8 : p ≤ 8) (hper : Per f m p) (hd : IsLeast f d) (z : Bool) : Per (stz z f) 584 (max d 1) := by
  have key : Per (stq f) 584 (max d 1) := by
    rcases hd with ⟨rfl, h⟩ | ⟨h1, h2, h3⟩
    · rw [stq_none h]
      intro n hn
      show decide (n + max 0 1 = 0) = decide (n = 0)
      rw [decide_eq_false (by omega), decide_eq_false (by omega)]
    · rw [Nat.max_eq_left h1]
      exact stq_per hm hp hp8 hper h1 h2 h3
  intro n hn
  unfold stz
  rw [if_neg (by omega), if_neg (by omega)]
  exact key n hn
theorem isLeast_le {f : Nat → Bool} {m p d : Nat} (hp : 0 < p) (hper : Per f m p) (hd : IsLeast f d) : d ≤ m + p := by
  rcases hd with ⟨rfl, _⟩ | ⟨h1, h2, h3⟩
  · omega
  · refine Classical.byContradiction fun hlt => ?_
    have := none_of hp hper (fun k hk hk2 => h3 k hk (by omega)) d h1
    rw [h2] at this; cases this
/-- What StarOf (zero is in it) and StarPlus answer. -/
noncomputable def str (s : List UInt8) (z : Bool) : ByteArray × Bool := if smallB s then txt (cn (stz z (setf s))) else (⟨#[]⟩, false)
end Go.Proofs.Ytjjnckgdpdelkaa.P

-- Marks of sums and stars that are being made.
namespace Go.Proofs.Ytjjnckgdpdelkaa.P
open Go.RowKit Go.Proofs.YtjjnckgdpdelkaaW.PrintWords Go.Proofs.YtjjnckgdpdelkaaW.PrintLast Go.Proofs.YtjjnckgdpdelkaaW.PrintMore
set_option linter.unusedVariables false
set_option linter.unusedSimpArgs false

/-- Whether a number is 0, or a part less than k and one of the star. -/
noncomputable def stV (f : Nat → Bool) (n k : Nat) : Bool := dec (n = 0 ∨ ∃ j, 1 ≤ j ∧ j < k ∧ j ≤ n ∧ f j = true ∧ stq f (n - j) = true)
theorem stV_true {f : Nat → Bool} {n k : Nat} (h : stV f n k = true) : stq f n = true := by
  rcases dec_iff.1 h with rfl | ⟨j, h1, h2, h3, h4, h5⟩
  · exact stq_iff.2 (St.zero f)
  · have := (St.of (by omega) h4).add (stq_iff.1 h5)
    rw [show j + (n - j) = n by omega] at this
    exact stq_iff.2 this
theorem stV_end {f : Nat → Bool} {n k : Nat} (hk : n < k) : stV f n k = stq f n := by
  rw [Bool.eq_iff_iff]
  constructor
  · exact stV_true
  · intro h
    rcases Nat.eq_zero_or_pos n with rfl | hn
    · exact dec_true (.inl rfl)
    · obtain ⟨j, h1, h2, h3, h4⟩ := (stq_iff.1 h).step hn
      exact dec_true (.inr ⟨j, h1, by omega, h2, h3, stq_iff.2 h4⟩)
theorem stV_step {f : Nat → Bool} {n k : Nat} (h1 : 1 ≤ k) (hk : k ≤ n) : stV f n (k + 1) = (stV f n k || (f k && stq f (n - k))) := by
  rw [Bool.eq_iff_iff, Bool.or_eq_true, Bool.and_eq_true]
  constructor
  · intro h2
    rcases dec_iff.1 h2 with h3 | ⟨j, a, b, c, d, e⟩
    · omega
    · rcases Nat.lt_or_ge j k with x | x
      · exact .inl (dec_true (.inr ⟨j, a, x, c, d, e⟩))
      · rw [show j = k by omega] at d e; exact .inr ⟨d, e⟩
  · rintro (h | ⟨a, b⟩)
    · rcases dec_iff.1 h with h3 | ⟨j, a, b, c, d, e⟩
      · exact dec_true (.inl h3)
      · exact dec_true (.inr ⟨j, a, by omega, c, d, e⟩)
    · exact dec_true (.inr ⟨k, h1, by omega, hk, a, b⟩)
theorem stV_one {f : Nat → Bool} {n : Nat} : stV f n 1 = ((n : Int) == 0) := by
  rw [Bool.eq_iff_iff, beq_iff_eq]
  constructor
  · intro h
    rcases dec_iff.1 h with rfl | ⟨j, a, b, _⟩
    · rfl
    · omega
  · intro h; exact dec_true (.inl (by omega))
/-- The sums that are found when all parts less than x, and with x those less than y, are through. -/
noncomputable def qsm (f g : Nat → Bool) (x y : Nat) : Nat → Bool := fun n => dec (∃ i j, i + j = n ∧ f i = true ∧ g j = true ∧ (i < x ∨ (i = x ∧ j < y)))
theorem qsm_zero (f g : Nat → Bool) : qsm f g 0 0 = fun _ => false := by
  funext n; exact dec_false fun ⟨i, j, _, _, _, h⟩ => by omega
theorem qsm_step {f g : Nat → Bool} {x y : Nat} (hf : f x = true) (n : Nat) : qsm f g x (y + 1) n = if n = x + y then (qsm f g x y n || g y) else qsm f g x y n := by
  by_cases h : n = x + y
  · rw [if_pos h, Bool.eq_iff_iff, Bool.or_eq_true]
    constructor
    · intro h1
      obtain ⟨i, j, a, b, c, d⟩ := dec_iff.1 h1
      rcases d with d | ⟨d, e⟩
      · exact .inl (dec_true ⟨i, j, a, b, c, .inl d⟩)
      · exact .inr (by rw [show y = j by omega]; exact c)
    · rintro (h1 | h1)
      · obtain ⟨i, j, a, b, c, d⟩ := dec_iff.1 h1
        exact dec_true ⟨i, j, a, b, c, by omega⟩
      · exact dec_true ⟨x, y, h.symm, hf, h1, by omega⟩
  · rw [if_neg h]
    refine dec_congr ⟨fun ⟨i, j, a, b, c, d⟩ => ⟨i, j, a, b, c, by omega⟩, fun ⟨i, j, a, b, c, d⟩ => ⟨i, j, a, b, c, by omega⟩⟩
theorem qsm_next {f g : Nat → Bool} {x y N : Nat} (h : f x = false ∨ N ≤ x + y) {n : Nat} (hn : n < N) : qsm f g x y n = qsm f g (x + 1) 0 n := by
  refine dec_congr ⟨fun ⟨i, j, a, b, c, d⟩ => ⟨i, j, a, b, c, by omega⟩, fun ⟨i, j, a, b, c, d⟩ => ⟨i, j, a, b, c, ?_⟩⟩
  rcases d with d | d
  · rcases Nat.lt_or_ge i x with e | e
    · exact .inl e
    · have hx : i = x := by omega
      rcases h with h | h
      · rw [hx, h] at b; cases b
      · exact .inr ⟨hx, by omega⟩
  · omega
theorem qsm_end {f g : Nat → Bool} {N n : Nat} (hn : n < N) : qsm f g N 0 n = sumq f g n := by
  rw [Bool.eq_iff_iff, sumq_iff]
  constructor
  · intro h
    obtain ⟨i, j, a, b, c, d⟩ := dec_iff.1 h
    exact ⟨i, j, a, b, c⟩
  · rintro ⟨i, j, a, b, c⟩
    exact dec_true ⟨i, j, a, b, c, by omega⟩
theorem mkT_congr {f g : Nat → Bool} {N : Nat} (h : ∀ n, n < N → f n = g n) : mkT f N = mkT g N := by
  unfold mkT
  apply List.map_congr_left
  intro n hn
  exact h n (List.mem_range.1 hn)
theorem mkT_set (f : Nat → Bool) (N i : Nat) (v : Bool) : (mkT f N).set i v = mkT (fun n => if n = i then v else f n) N := by
  apply List.ext_getElem
  · rw [List.length_set, mkT_length, mkT_length]
  · intro n h1 h2
    simp only [mkT, List.getElem_set, List.getElem_map, List.getElem_range]
    by_cases e : i = n
    · rw [if_pos e, if_pos e.symm]
    · rw [if_neg e, if_neg (fun h => e h.symm)]
theorem mkT_none (N : Nat) : List.replicate N false = mkT (fun _ => false) N := by
  unfold mkT; rw [List.map_const', List.length_range]
theorem qsm_set {f g : Nat → Bool} {x y N : Nat} (hf : f x = true) : (mkT (qsm f g x y) N).set (x + y) (qsm f g x y (x + y) || g y) = mkT (qsm f g x (y + 1)) N := by
  rw [mkT_set]
  refine mkT_congr fun n _ => ?_
  rw [qsm_step hf]
  by_cases e : n = x + y
  · rw [if_pos e, if_pos e, e]
  · rw [if_neg e, if_neg e]
end Go.Proofs.Ytjjnckgdpdelkaa.P

-- impl.in: a number in a range.
namespace Go.Proofs.Ytjjnckgdpdelkaa.P
open Go.RowKit Go.Proofs.YtjjnckgdpdelkaaW.PrintWords Go.Proofs.YtjjnckgdpdelkaaW.PrintLast Go.Proofs.YtjjnckgdpdelkaaW.PrintMore
set_option linter.unusedVariables false
set_option linter.unusedSimpArgs false

theorem in_f (a b c : Int) : impl_in.f a b c = some (decide (b ≤ a ∧ a ≤ c)) := by
  unfold impl_in.f
  by_cases h : a ≥ b
  · rw [if_pos h]; congr 1; apply decide_eq_decide.2; omega
  · rw [if_neg h]; congr 1; symm; rw [decide_eq_false_iff_not]; omega

end Go.Proofs.Ytjjnckgdpdelkaa.P

-- spec.l7Sum marks sums.
namespace Go.Proofs.Ytjjnckgdpdelkaa.P
open Go.RowKit Go.Proofs.YtjjnckgdpdelkaaW.PrintWords Go.Proofs.YtjjnckgdpdelkaaW.PrintLast Go.Proofs.YtjjnckgdpdelkaaW.PrintMore
set_option linter.unusedVariables false
set_option linter.unusedSimpArgs false

theorem l7sum_l1 (f g : Nat → Bool) (N : Nat) (hN : N ≤ 1000) (x : Nat) (hx : x < N) (v : List Bool) (hv : Ev (fun k => spec_l7Sum.l0 k (mkT f N) (mkT g N) (mkT (qsm f g (x + 1) 0) N) ((x + 1 : Nat) : Int)) v) : ∀ (d y : Nat), N - (x + y) = d → x + y ≤ N →
    Ev (fun k => spec_l7Sum.l1 k (mkT f N) (mkT g N) (mkT (qsm f g x y) N) x y) v := by
  have l1 := mkT_length f N
  have l2 := mkT_length g N
  intro d
  induction d with
  | zero =>
    intro y hd hy
    have l3 := mkT_length (qsm f g x y) N
    rw [← mkT_congr (fun n hn => qsm_next (f := f) (g := g) (x := x) (y := y) (N := N) (.inr (by omega)) hn)] at hv
    refine Ev.step (fun k => ?_) hv
    simp only [spec_l7Sum.l1]
    rw [wadd (by omega), if_neg (by omega), wsucc (by omega)]
  | succ d ih =>
    intro y hd hy
    have l3 := mkT_length (qsm f g x y) N
    cases hf : f x with
    | false =>
      rw [← mkT_congr (fun n hn => qsm_next (f := f) (g := g) (x := x) (y := y) (N := N) (.inl hf) hn)] at hv
      refine Ev.step (fun k => ?_) hv
      simp only [spec_l7Sum.l1]
      rw [wadd (by omega), if_pos (by omega), if_pos (by omega), if_pos (by omega), rdOf_nat, mkT_get f hx, hf, if_neg (by decide), wsucc (by omega)]
    | true =>
      have h := ih (y + 1) (by omega) (by omega)
      rw [← qsm_set hf] at h
      refine Ev.step (fun k => ?_) h
      simp only [spec_l7Sum.l1]
      rw [wadd (by omega), if_pos (by omega), if_pos (by omega), if_pos (by omega), rdOf_nat, mkT_get f hx, hf, if_pos (by trivial), if_pos (by omega), if_pos (by omega), rdOf_nat, mkT_get _ (show x + y < N by omega)]
      cases hq : qsm f g x y (x + y) with
      | true => rw [if_pos (by trivial), Int.toNat_natCast, wsucc (by omega), Bool.true_or]
      | false => rw [if_neg (by decide), if_pos (by omega), if_pos (by omega), rdOf_nat, mkT_get g (by omega), Int.toNat_natCast, wsucc (by omega), Bool.false_or]
theorem l7sum_l0 (f g : Nat → Bool) (N : Nat) (hN : N ≤ 1000) : ∀ (d x : Nat), N - x = d → x ≤ N → Ev (fun k => spec_l7Sum.l0 k (mkT f N) (mkT g N) (mkT (qsm f g x 0) N) x) (mkT (sumq f g) N) := by
  have l1 := mkT_length f N
  intro d
  induction d with
  | zero =>
    intro x hd hx
    obtain rfl : x = N := by omega
    rw [← mkT_congr (fun n hn => qsm_end (f := f) (g := g) hn)]
    refine Ev.step (f := fun k => some _) (fun k => ?_) (Ev.now _)
    simp only [spec_l7Sum.l0]
    rw [if_neg (by omega)]
  | succ d ih =>
    intro x hd hx
    have h := l7sum_l1 f g N hN x (by omega) _ (ih (x + 1) (by omega) (by omega)) _ 0 rfl (by omega)
    refine Ev.step (fun k => ?_) h
    simp only [spec_l7Sum.l0]
    rw [if_pos (by omega)]; rfl
theorem l7sum_f (f g : Nat → Bool) (N : Nat) (hN : N ≤ 1000) : Ev (fun k => spec_l7Sum.f k (mkT f N) (mkT g N)) (mkT (sumq f g) N) := by
  have l1 := mkT_length f N
  have h := l7sum_l0 f g N hN _ 0 rfl (by omega)
  refine Ev.congr (fun k => ?_) h
  unfold spec_l7Sum.f
  rw [if_pos (by omega), l1, Int.toNat_natCast, if_pos (by omega), mkT_none, qsm_zero]; rfl
end Go.Proofs.Ytjjnckgdpdelkaa.P

-- spec.l7Marks marks what a term tells.
namespace Go.Proofs.Ytjjnckgdpdelkaa.P
open Go.RowKit Go.Proofs.YtjjnckgdpdelkaaW.PrintWords Go.Proofs.YtjjnckgdpdelkaaW.PrintLast Go.Proofs.YtjjnckgdpdelkaaW.PrintMore
set_option linter.unusedVariables false
set_option linter.unusedSimpArgs false

/-- A term as the reference keeps it. -/
def Tm.S : Tm → S44
  | .leaf c => ⟨(c.toNat : Int), []⟩
  | .one c t => ⟨(c.toNat : Int), [t.S]⟩
  | .two c a b => ⟨(c.toNat : Int), [a.S, b.S]⟩
theorem rdS_0 (x : S44) (l : List S44) : rd_T44 (x :: l) 0 = x := rfl
theorem rdS_1 (x y : S44) (l : List S44) : rd_T44 (x :: y :: l) 1 = y := rfl
theorem bit_f (b : Bool) : spec_l1Bit.f b = some (if b = true then 1 else 0) := by cases b <;> rfl
theorem l7marks_l1 (f : Nat → Bool) (n m : Nat) (hN : n + m + 1 ≤ 1000) (v : List Bool) (hv : Ev (fun k => spec_l7Marks.l0 k ((n + m + 1 : Nat) : Int) (mid (stq f) n (stq f n) m) (mkT f (n + m + 1)) ((n + 1 : Nat) : Int)) v) : ∀ (d y : Nat), n + 1 - y = d → 1 ≤ y → y ≤ n + 1 →
    Ev (fun k => spec_l7Marks.l1 k ((n + m + 1 : Nat) : Int) (mid (stq f) n (stV f n y) m) (mkT f (n + m + 1)) n y) v := by
  have hlen : ∀ u, ((mid (stq f) n u m).length : Int) = ((n + m + 1 : Nat) : Int) := fun u => by rw [mid_length]; omega
  have l1 := mkT_length f (n + m + 1)
  intro d
  induction d with
  | zero =>
    intro y hd h1 h2
    rw [stV_end (by omega)]
    refine Ev.step (fun k => ?_) hv
    simp only [spec_l7Marks.l1]
    rw [if_neg (by omega), wsucc (by omega)]
  | succ d ih =>
    intro y hd h1 h2
    have h := ih (y + 1) (by omega) (by omega) (by omega)
    rw [stV_step h1 (by omega)] at h
    refine Ev.step (fun k => ?_) h
    simp only [spec_l7Marks.l1]
    rw [if_pos (by omega), if_pos (by omega), hlen, if_pos (by omega), rdOf_nat, mid_self, wsucc (by omega)]
    cases hs : stV f n y with
    | true => rw [if_pos (by trivial), Int.toNat_natCast, mid_set, Bool.true_or]
    | false =>
      rw [if_neg (by decide), if_pos (by omega), if_pos (by omega), rdOf_nat, mkT_get f (by omega), Bool.false_or]
      cases hf : f y with
      | true => rw [if_pos (by trivial), wsub (by omega) (by omega), if_pos (by omega), if_pos (by omega), rdOf_nat, mid_lt _ (by omega), Int.toNat_natCast, mid_set, Bool.true_and]
      | false => rw [if_neg (by decide), Int.toNat_natCast, mid_set, Bool.false_and]
theorem l7marks_l0 (f : Nat → Bool) : ∀ (m n : Nat), n + m + 1 ≤ 1000 → Ev (fun k => spec_l7Marks.l0 k ((n + m + 1 : Nat) : Int) (mid (stq f) n false m) (mkT f (n + m + 1)) n) (mkT (stq f) (n + m + 1)) := by
  intro m
  induction m with
  | zero =>
    intro n hn
    have hfin : Ev (fun k => spec_l7Marks.l0 k ((n + 0 + 1 : Nat) : Int) (mid (stq f) n (stq f n) 0) (mkT f (n + 0 + 1)) ((n + 1 : Nat) : Int)) (mkT (stq f) (n + 0 + 1)) := by
      rw [mid_end]
      refine Ev.step (f := fun k => some (mkT (stq f) (n + 1))) (fun k => ?_) (Ev.now _)
      simp only [spec_l7Marks.l0]; rw [if_neg (by omega)]
    have hx := l7marks_l1 f n 0 hn _ hfin _ 1 rfl (Nat.le_refl _) (by omega)
    have hl := mid_length (stq f) n false 0
    refine Ev.step (fun k => ?_) hx
    simp only [spec_l7Marks.l0]
    rw [if_pos (by omega), if_pos (by omega), if_pos (by omega), Int.toNat_natCast, mid_set, stV_one]; rfl
  | succ m ih =>
    intro n hn
    have hih := ih (n + 1) (by omega)
    rw [← mid_next, show n + 1 + m + 1 = n + (m + 1) + 1 by omega] at hih
    have hx := l7marks_l1 f n (m + 1) hn _ hih _ 1 rfl (Nat.le_refl _) (by omega)
    have hl := mid_length (stq f) n false (m + 1)
    refine Ev.step (fun k => ?_) hx
    simp only [spec_l7Marks.l0]
    rw [if_pos (by omega), if_pos (by omega), if_pos (by omega), Int.toNat_natCast, mid_set, stV_one]; rfl
theorem l7marks_star (f : Nat → Bool) (N : Nat) (hN : N ≤ 1000) : Ev (fun k => spec_l7Marks.l0 k N (List.replicate N false) (mkT f N) 0) (mkT (stq f) N) := by
  rcases Nat.eq_zero_or_pos N with h | h
  · subst h
    refine Ev.step (f := fun k => some _) (fun k => ?_) (Ev.now _)
    simp only [spec_l7Marks.l0]; rw [if_neg (by omega)]; rfl
  · have := l7marks_l0 f (N - 1) 0 (by omega)
    rw [show 0 + (N - 1) + 1 = N by omega, ← mid_start, show N - 1 + 1 = N by omega] at this
    exact this
theorem l7marks_l2 (f : Nat → Bool) (N : Nat) (hN : N ≤ 1000) (s : Nat) (hs : s ≤ 200) (l : List S44) : ∀ (d j : Nat), 1 ≤ j → 48 + j + d = s → Ev (fun k => spec_l7Marks.l2 k (mkT (mulq f j) N) (mkT f N) ((48 + j : Nat) : Int) (s : Int) l) (mkT (mulq f (j + d)) N) := by
  intro d
  induction d with
  | zero =>
    intro j hj h
    refine Ev.step (f := fun k => some _) (fun k => ?_) (Ev.now _)
    simp only [spec_l7Marks.l2]; rw [if_neg (by omega)]; rfl
  | succ d ih =>
    intro j hj h
    have hih := ih (j + 1) (by omega) (by omega)
    rw [show j + 1 + d = j + (d + 1) by omega] at hih
    refine Ev.step (f := fun k => (spec_l7Sum.f k (mkT (mulq f j) N) (mkT f N)).bind fun t => spec_l7Marks.l2 k t (mkT f N) ((48 + (j + 1) : Nat) : Int) s l) (fun k => ?_) (Ev.bind (l7sum_f (mulq f j) f N hN) hih)
    simp only [spec_l7Marks.l2]
    rw [if_pos (by omega), show (((48 + j : Nat) : Int) + 1) % 256 = ((48 + (j + 1) : Nat) : Int) by omega]
/-- Marks that are made up to x. -/
def upT (h : Nat → Bool) (x N : Nat) : List Bool := mkT (fun n => decide (n < x) && h n) N
theorem upT_set (h : Nat → Bool) (x N : Nat) : (upT h x N).set x (h x) = upT h (x + 1) N := by
  unfold upT
  rw [mkT_set]
  refine mkT_congr fun n _ => ?_
  by_cases e : n = x
  · rw [if_pos e, e, decide_eq_true (by omega)]; rfl
  · rw [if_neg e]
    by_cases e2 : n < x
    · rw [decide_eq_true e2, decide_eq_true (by omega)]
    · rw [decide_eq_false e2, decide_eq_false (by omega)]
theorem upT_zero (h : Nat → Bool) (N : Nat) : upT h 0 N = List.replicate N false := by
  rw [mkT_none]; exact mkT_congr fun n _ => by rw [decide_eq_false (by omega)]; rfl
theorem upT_end (h : Nat → Bool) (N : Nat) : upT h N N = mkT h N := mkT_congr fun n hn => by rw [decide_eq_true hn]; rfl
theorem l7marks_l3 (f g : Nat → Bool) (N : Nat) (hN : N ≤ 1000) (c : Int) (l : List S44) : ∀ (d x : Nat), N - x = d → x ≤ N →
    Ev (fun k => spec_l7Marks.l3 k N (upT (fun n => if c = 43 then (f n || g n) else (f n && g n)) x N) (mkT f N) (mkT g N) x c l) (mkT (fun n => if c = 43 then (f n || g n) else (f n && g n)) N) := by
  have l1 := mkT_length f N
  have l2 := mkT_length g N
  intro d
  induction d with
  | zero =>
    intro x hd hx
    obtain rfl : x = N := by omega
    refine Ev.step (f := fun k => some _) (fun k => ?_) (Ev.now _)
    simp only [spec_l7Marks.l3]; rw [if_neg (by omega), upT_end]
  | succ d ih =>
    intro x hd hx
    have h := ih (x + 1) (by omega) (by omega)
    have l3 : (upT (fun n => if c = 43 then (f n || g n) else (f n && g n)) x N).length = N := mkT_length _ N
    rw [← upT_set] at h
    refine Ev.step (fun k => ?_) h
    simp only [spec_l7Marks.l3]
    by_cases hc : c = 43
    · rw [if_pos (by omega), if_pos hc, if_pos (by omega), if_pos (by omega), rdOf_nat, mkT_get f (by omega), wsucc (by omega)]
      simp only [if_pos hc] at l3 ⊢
      cases hf : f x with
      | true => rw [if_pos (by trivial), if_pos (by omega), Int.toNat_natCast, Bool.true_or]
      | false => rw [if_neg (by decide), if_pos (by omega), if_pos (by omega), rdOf_nat, mkT_get g (by omega), Int.toNat_natCast, Bool.false_or]
    · rw [if_pos (by omega), if_neg hc, if_pos (by omega), if_pos (by omega), rdOf_nat, mkT_get f (by omega), wsucc (by omega)]
      simp only [if_neg hc] at l3 ⊢
      cases hf : f x with
      | true => rw [if_pos (by trivial), if_pos (by omega), if_pos (by omega), rdOf_nat, mkT_get g (by omega), Int.toNat_natCast, Bool.true_and]
      | false => rw [if_neg (by decide), if_pos (by omega), Int.toNat_natCast, Bool.false_and]
theorem isO_cases {c : UInt8} (h : isO c = true) : c = 42 ∨ (c ≠ 42 ∧ 50 ≤ c.toNat ∧ c.toNat ≤ 53) := by
  unfold isO at h
  rw [Bool.or_eq_true, Bool.and_eq_true, beq_iff_eq, decide_eq_true_iff, decide_eq_true_iff] at h
  rcases h with h | h
  · exact .inl h
  · refine .inr ⟨fun e => ?_, h⟩
    subst e; simp at h
theorem isL_cases {c : UInt8} (h : isL c = true) : c = 48 ∨ c = 49 ∨ c = 97 := by
  unfold isL at h
  rw [Bool.or_eq_true, Bool.or_eq_true, beq_iff_eq, beq_iff_eq, beq_iff_eq] at h; exact h
theorem isT_cases {c : UInt8} (h : isT c = true) : c = 43 ∨ c = 46 ∨ c = 38 := by
  unfold isT at h
  rw [Bool.or_eq_true, Bool.or_eq_true, beq_iff_eq, beq_iff_eq, beq_iff_eq] at h; exact h
theorem l7marks_f (N : Nat) (hN : N ≤ 1000) : ∀ t : Tm, t.ok → Ev (fun k => spec_l7Marks.f k t.S.f0 t.S.f1 N) (mkT (tsem t) N)
  | .leaf c, h => by
    have hl : (List.replicate N false).length = N := List.length_replicate
    rcases isL_cases h with rfl | rfl | rfl
    · refine Ev.step (f := fun k => some (List.replicate N false)) (fun k => ?_) ?_
      · show spec_l7Marks.f (k + 1) 48 [] (N : Int) = _
        simp only [spec_l7Marks.f]
        rw [if_pos (by omega), Int.toNat_natCast, if_pos (by omega), Option.bind_some, if_pos (by trivial)]
      · rw [mkT_none]; exact Ev.congr (fun k => rfl) (Ev.now _)
    · refine Ev.step (f := fun k => spec_l7Marks.j0 k N (List.replicate N false) true 49 []) (fun k => ?_) (Ev.step (f := fun k => some (mkT (tsem (.leaf 49)) N)) (fun k => ?_) (Ev.now _))
      · show spec_l7Marks.f (k + 1) 49 [] (N : Int) = _
        simp only [spec_l7Marks.f]
        rw [if_pos (by omega), Int.toNat_natCast, if_pos (by omega), Option.bind_some, if_neg (by omega), if_pos (by trivial)]
      · have e9 : ((49 : Int) == 97) = false := by decide
        simp only [spec_l7Marks.j0, bit_f, e9, if_true, Option.bind_some, Bool.false_eq_true, if_false]
        by_cases h0 : 0 < N
        · rw [if_pos (by omega), if_pos (by omega), if_pos (by rw [hl]; omega), mkT_none, show ((0 : Int)).toNat = 0 from rfl, mkT_set]
          exact congrArg some (mkT_congr fun n _ => by by_cases e : n = 0 <;> simp [tsem, e])
        · obtain rfl : N = 0 := by omega
          rw [if_neg (by omega)]; rfl
    · refine Ev.step (f := fun k => spec_l7Marks.j0 k N (List.replicate N false) true 97 []) (fun k => ?_) (Ev.step (f := fun k => some (mkT (tsem (.leaf 97)) N)) (fun k => ?_) (Ev.now _))
      · show spec_l7Marks.f (k + 1) 97 [] (N : Int) = _
        simp only [spec_l7Marks.f]
        rw [if_pos (by omega), Int.toNat_natCast, if_pos (by omega), Option.bind_some, if_neg (by omega), if_neg (by omega)]; rfl
      · have e9 : ((97 : Int) == 97) = true := by decide
        simp only [spec_l7Marks.j0, bit_f, e9, if_true, Option.bind_some]
        by_cases h0 : 1 < N
        · rw [if_pos (by omega), if_pos (by omega), if_pos (by rw [hl]; omega), mkT_none, show ((1 : Int)).toNat = 1 from rfl, mkT_set]
          exact congrArg some (mkT_congr fun n _ => by by_cases e : n = 1 <;> simp [tsem, e])
        · rw [if_neg (by omega), mkT_none]
          congr 1
          refine mkT_congr fun n hn => ?_
          obtain rfl : n = 0 := by omega
          rfl
  | .one c t, h => by
    have hO : isO c = true := h.1
    have ih := l7marks_f N hN t h.2
    have hn : ¬ ((c.toNat : Int) = 48) ∧ ¬ ((c.toNat : Int) = 49) ∧ ((c.toNat : Int) == 97) = false ∧ ((c = 42 ∧ (c.toNat : Int) = 42) ∨ (c ≠ 42 ∧ 50 ≤ c.toNat ∧ c.toNat ≤ 53)) := by
      rcases isO_cases hO with rfl | ⟨h1, h2, h3⟩
      · exact ⟨by decide, by decide, by decide, .inl ⟨rfl, rfl⟩⟩
      · exact ⟨by omega, by omega, by rw [beq_eq_false_iff_ne]; omega, .inr ⟨h1, h2, h3⟩⟩
    obtain ⟨n1, n2, n3, n4⟩ := hn
    have key : Ev (fun k => spec_l7Marks.j0 k N (List.replicate N false) false (c.toNat : Int) [t.S]) (mkT (tsem (.one c t)) N) := by
      rcases n4 with ⟨rfl, e⟩ | ⟨h1, h2, h3⟩
      · refine Ev.step (f := fun k => (spec_l7Marks.f k t.S.f0 t.S.f1 N).bind fun t210 => spec_l7Marks.l0 k N (List.replicate N false) t210 0) (fun k => ?_) (Ev.bind ih (l7marks_star (tsem t) N hN))
        simp only [spec_l7Marks.j0, rdS_0]
        rw [if_neg (by decide), if_pos (by simp)]
        simp only [if_pos e]
      · have hm := l7marks_l2 (tsem t) N hN c.toNat (by omega) [t.S] (c.toNat - 49) 1 (Nat.le_refl _) (by omega)
        rw [mulq_one, show 1 + (c.toNat - 49) = c.toNat - 48 by omega] at hm
        have e2 : mkT (tsem (.one c t)) N = mkT (mulq (tsem t) (c.toNat - 48)) N := by
          show mkT (if c = 42 then _ else _) N = _
          rw [if_neg h1]
        rw [e2]
        have hm2 : Ev (fun k => spec_l7Marks.j3 k N (List.replicate N false) (mkT (tsem t) N) true (c.toNat : Int) [t.S]) (mkT (mulq (tsem t) (c.toNat - 48)) N) := by
          refine Ev.step (fun k => ?_) hm
          simp only [spec_l7Marks.j3]; rw [if_pos (by trivial)]; rfl
        refine Ev.step (f := fun k => (spec_l7Marks.f k t.S.f0 t.S.f1 N).bind fun t210 => spec_l7Marks.j3 k N (List.replicate N false) t210 true (c.toNat : Int) [t.S]) (fun k => ?_) (Ev.bind ih hm2)
        simp only [spec_l7Marks.j0, rdS_0]
        rw [if_neg (by decide), if_pos (by simp)]
        have e3 : decide ((c.toNat : Int) ≤ 53) = true := decide_eq_true (by omega)
        simp only [if_neg (show ¬ (c.toNat : Int) = 42 by omega), if_pos (show (c.toNat : Int) ≥ 50 by omega), e3]
    refine Ev.step (fun k => ?_) key
    show spec_l7Marks.f (k + 1) (c.toNat : Int) [t.S] (N : Int) = _
    simp only [spec_l7Marks.f]
    rw [if_pos (by omega), Int.toNat_natCast, if_pos (by omega), Option.bind_some, if_neg n1, if_neg n2, n3]
  | .two c a b, h => by
    have hT : isT c = true := h.1
    have iha := l7marks_f N hN a h.2.1
    have ihb := l7marks_f N hN b h.2.2
    have hn : ¬ ((c.toNat : Int) = 48) ∧ ¬ ((c.toNat : Int) = 49) ∧ ((c.toNat : Int) == 97) = false ∧ ¬ ((c.toNat : Int) = 42) ∧ ¬ ((c.toNat : Int) ≥ 50) ∧ ((c = 46 ∧ (c.toNat : Int) = 46) ∨ (c ≠ 46 ∧ ¬ (c.toNat : Int) = 46 ∧ ((c = 43) ↔ (c.toNat : Int) = 43))) := by
      rcases isT_cases hT with rfl | rfl | rfl
      · exact ⟨by decide, by decide, by decide, by decide, by decide, .inr ⟨by decide, by decide, by decide⟩⟩
      · exact ⟨by decide, by decide, by decide, by decide, by decide, .inl ⟨rfl, rfl⟩⟩
      · exact ⟨by decide, by decide, by decide, by decide, by decide, .inr ⟨by decide, by decide, by decide⟩⟩
    obtain ⟨n1, n2, n3, n4, n5, n6⟩ := hn
    have key : Ev (fun k => spec_l7Marks.j3 k N (List.replicate N false) (mkT (tsem a) N) false (c.toNat : Int) [a.S, b.S]) (mkT (tsem (.two c a b)) N) := by
      rcases n6 with ⟨rfl, e⟩ | ⟨h1, h2, h3⟩
      · refine Ev.step (f := fun k => (spec_l7Marks.f k b.S.f0 b.S.f1 N).bind fun t224 => (spec_l7Sum.f k (mkT (tsem a) N) t224).bind fun t227 => some t227) (fun k => ?_) (Ev.bind ihb (Ev.bind (l7sum_f (tsem a) (tsem b) N hN) (Ev.now _)))
        simp only [spec_l7Marks.j3, rdS_1]
        rw [if_neg (by decide), if_pos (by simp)]
        simp only [if_pos e]
      · have hm := l7marks_l3 (tsem a) (tsem b) N hN (c.toNat : Int) [a.S, b.S] N 0 rfl (by omega)
        rw [upT_zero] at hm
        have e2 : mkT (tsem (.two c a b)) N = mkT (fun n => if (c.toNat : Int) = 43 then (tsem a n || tsem b n) else (tsem a n && tsem b n)) N := by
          show mkT (if c = 46 then _ else if c = 43 then _ else _) N = _
          rw [if_neg h1]
          by_cases h4 : c = 43
          · rw [if_pos h4]; simp only [if_pos (h3.1 h4)]
          · rw [if_neg h4]; simp only [if_neg (fun x => h4 (h3.2 x))]
        rw [e2]
        refine Ev.step (f := fun k => (spec_l7Marks.f k b.S.f0 b.S.f1 N).bind fun t224 => spec_l7Marks.l3 k N (List.replicate N false) (mkT (tsem a) N) t224 0 (c.toNat : Int) [a.S, b.S]) (fun k => ?_) (Ev.bind ihb hm)
        simp only [spec_l7Marks.j3, rdS_1]
        rw [if_neg (by decide), if_pos (by simp)]
        simp only [if_neg h2]
    refine Ev.step (f := fun k => spec_l7Marks.j0 k N (List.replicate N false) false (c.toNat : Int) [a.S, b.S]) (fun k => ?_) (Ev.step (f := fun k => (spec_l7Marks.f k a.S.f0 a.S.f1 N).bind fun t210 => spec_l7Marks.j3 k N (List.replicate N false) t210 false (c.toNat : Int) [a.S, b.S]) (fun k => ?_) (Ev.bind iha key))
    · show spec_l7Marks.f (k + 1) (c.toNat : Int) [a.S, b.S] (N : Int) = _
      simp only [spec_l7Marks.f]
      rw [if_pos (by omega), Int.toNat_natCast, if_pos (by omega), Option.bind_some, if_neg n1, if_neg n2, n3]
    · simp only [spec_l7Marks.j0, rdS_0]
      rw [if_neg (by decide), if_pos (by simp)]
      simp only [if_neg n4, if_neg n5]
end Go.Proofs.Ytjjnckgdpdelkaa.P
