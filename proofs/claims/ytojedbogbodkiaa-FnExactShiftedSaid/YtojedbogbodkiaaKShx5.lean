/- Contracts of functions of the program and of the reference, each a Lean function and the proof that Go comes to its answer. Written by wip/pp/pp.py out of the kit's print, for this claim; nothing of it is trusted: Lean checks it. -/
import Derived.Test.YtojedbogbodkiaaKShx0
import Derived.Test.YtojedbogbodkiaaKShx3
import Derived.Test.YtojedbogbodkiaaKShx4
namespace Go.Proofs.Ytojedbogbodkiaa.KSh
open Go.RowKit Go.Proofs.YtojedbogbodkiaaW.PrintWords Go.Proofs.YtojedbogbodkiaaW.PrintLast Go.Proofs.YtojedbogbodkiaaW.PrintMore
attribute [local go_sem] max2_int min2_int max_two min_two max_three min_three max_four min_four   -- for this text's walks alone
set_option linter.unusedVariables false
set_option linter.unusedSimpArgs false

set_option linter.unusedSectionVars false
variable [fk_laws_szTerm] [fk_laws_toTerm] [fk_laws_eqTerm] [fk_spec_l34Term] [fk_impl_copyTerm_1]
/-! ### spec_l03Shift: function 122 -/
mutual
def spec_l03Shift.j0 : Nat → Int → Int → ByteArray → Int → List (S29) → Int → ByteArray → Int → List (S29) → Option (Int × ByteArray × Int × (List (S29)))
 | 0,_,_,_,_,_,_,_,_,_ => none
 | k + 1,x1,x176000,x176001,x176002,x176003,x178000,x178001,x178002,x178003 => spec_l03Shift.l0 k x1 0 x176000 x176001 x176002 x176003 x178000 x178001 x178002 (([] : List (S29)))
def spec_l03Shift.l0 : Nat → Int → Int → Int → ByteArray → Int → List (S29) → Int → ByteArray → Int → List (S29) → Option (Int × ByteArray × Int × (List (S29)))
 | 0,_,_,_,_,_,_,_,_,_,_ => none
 | k + 1,x1,x6,x176000,x176001,x176002,x176003,x178000,x178001,x178002,x178003 => if x6 < (x176003.length : Int) then (if 0 ≤ x6 then ((spec_l03Shift.f k ((rd_T29 x176003 x6).f0) ((rd_T29 x176003 x6).f1) ((rd_T29 x176003 x6).f2) ((rd_T29 x176003 x6).f3) x1).bind fun bt182 => (if x178003.length < 2513169434916 then (spec_l03Shift.l0 k x1 (wrap64 (x6 + 1)) x176000 x176001 x176002 x176003 x178000 x178001 x178002 (x178003 ++ [(⟨bt182.1,bt182.2.1,bt182.2.2.1,bt182.2.2.2⟩ : S29)])) else (none))) else (none)) else (some (x178000,x178001,x178002,x178003))
def spec_l03Shift.f : Nat → Int → ByteArray → Int → List (S29) → Int → Option (Int × ByteArray × Int × (List (S29)))
 | 0,_,_,_,_,_ => none
 | k + 1,a0_0,a0_1,a0_2,l0_3,a1 => if a0_0 = 1 then (spec_l03Shift.j0 k a1 a0_0 a0_1 a0_2 l0_3 a0_0 a0_1 (wrap64 (a0_2 + a1)) l0_3) else (spec_l03Shift.j0 k a1 a0_0 a0_1 a0_2 l0_3 a0_0 a0_1 a0_2 l0_3)
end
theorem spec_l03Shift.mono_l : ∀ k,(∀ y0 y1 y2 y3 y4,LeO (spec_l03Shift.f k y0 y1 y2 y3 y4) (spec_l03Shift.f (k + 1) y0 y1 y2 y3 y4)) ∧ (∀ y0 y1 y2 y3 y4 y5 y6 y7 y8,LeO (spec_l03Shift.j0 k y0 y1 y2 y3 y4 y5 y6 y7 y8) (spec_l03Shift.j0 (k + 1) y0 y1 y2 y3 y4 y5 y6 y7 y8)) ∧ (∀ y0 y1 y2 y3 y4 y5 y6 y7 y8 y9,LeO (spec_l03Shift.l0 k y0 y1 y2 y3 y4 y5 y6 y7 y8 y9) (spec_l03Shift.l0 (k + 1) y0 y1 y2 y3 y4 y5 y6 y7 y8 y9))
 | 0 => ⟨fun _ _ _ _ _ r h => by simp [spec_l03Shift.f] at h,fun _ _ _ _ _ _ _ _ _ r h => by simp [spec_l03Shift.j0] at h,fun _ _ _ _ _ _ _ _ _ _ r h => by simp [spec_l03Shift.l0] at h⟩
 | k + 1 => by
  obtain ⟨ih0,ih1,ih2⟩:=spec_l03Shift.mono_l k
  refine ⟨?_,?_,?_⟩
  ·intro y0 y1 y2 y3 y4
   unfold spec_l03Shift.f
   repeat' first
   | (with_reducible exact ih0 _ _ _ _ _)
   | (with_reducible exact ih1 _ _ _ _ _ _ _ _ _)
   | (with_reducible exact ih2 _ _ _ _ _ _ _ _ _ _)
   | (with_reducible exact LeO.refl _)
   | (with_reducible exact LeO.none _)
   | (with_reducible refine LeO.ite ?_ ?_)
   | (with_reducible refine LeO.bind ?_ (fun _ => ?_))
   | exact ih0 _ _ _ _ _
   | exact ih1 _ _ _ _ _ _ _ _ _
   | exact ih2 _ _ _ _ _ _ _ _ _ _
   | exact LeO.none _
   | refine LeO.ite ?_ ?_
   | refine LeO.bind ?_ (fun _ => ?_)
  ·intro y0 y1 y2 y3 y4 y5 y6 y7 y8
   unfold spec_l03Shift.j0
   repeat' first
   | (with_reducible exact ih0 _ _ _ _ _)
   | (with_reducible exact ih1 _ _ _ _ _ _ _ _ _)
   | (with_reducible exact ih2 _ _ _ _ _ _ _ _ _ _)
   | (with_reducible exact LeO.refl _)
   | (with_reducible exact LeO.none _)
   | (with_reducible refine LeO.ite ?_ ?_)
   | (with_reducible refine LeO.bind ?_ (fun _ => ?_))
   | exact ih0 _ _ _ _ _
   | exact ih1 _ _ _ _ _ _ _ _ _
   | exact ih2 _ _ _ _ _ _ _ _ _ _
   | exact LeO.none _
   | refine LeO.ite ?_ ?_
   | refine LeO.bind ?_ (fun _ => ?_)
  ·intro y0 y1 y2 y3 y4 y5 y6 y7 y8 y9
   unfold spec_l03Shift.l0
   repeat' first
   | (with_reducible exact ih0 _ _ _ _ _)
   | (with_reducible exact ih1 _ _ _ _ _ _ _ _ _)
   | (with_reducible exact ih2 _ _ _ _ _ _ _ _ _ _)
   | (with_reducible exact LeO.refl _)
   | (with_reducible exact LeO.none _)
   | (with_reducible refine LeO.ite ?_ ?_)
   | (with_reducible refine LeO.bind ?_ (fun _ => ?_))
   | exact ih0 _ _ _ _ _
   | exact ih1 _ _ _ _ _ _ _ _ _
   | exact ih2 _ _ _ _ _ _ _ _ _ _
   | exact LeO.none _
   | refine LeO.ite ?_ ?_
   | refine LeO.bind ?_ (fun _ => ?_)
theorem spec_l03Shift.mono : ∀ a0 a1 a2 a3 a4 k,LeO (spec_l03Shift.f k a0 a1 a2 a3 a4) (spec_l03Shift.f (k + 1) a0 a1 a2 a3 a4):=by
 intro a0 a1 a2 a3 a4 k
 obtain ⟨ih0,ih1,ih2⟩:=spec_l03Shift.mono_l k
 exact ih0 a0 a1 a2 a3 a4
def spec_l03Shift.T8 : Bool × List (List Nat × List Nat):=(true,[([],[]),([0],[0]),([],[]),([2],[2]),([],[]),([3,4],[3,4]),([5],[5]),([],[]),([6,7],[6,7]),([8],[8]),([1,9,8],[1,9]),([0,1,2,3,4,5,6,7,8,9,10],[]),([11,10,10,0,1,2,3,4,5,6,7,8,9,10],[10,11])])
def spec_l03Shift.B8 : List Nat:=[0,1,0,4,0,28,60,0,252,508,1023,2047,4095]
theorem spec_l03Shift.tab8 : rtab .any (opsOf Try.f122 8) = spec_l03Shift.T8:=by kernel_rfl
theorem spec_l03Shift.bits8 : waitsOk spec_l03Shift.T8.2 spec_l03Shift.B8 = true:=by kernel_rfl
set_option maxHeartbeats 8000000 in
set_option maxRecDepth 100000 in
theorem spec_l03Shift.calls (k : Nat) : ∀ (a0_0 : Int) (a0_1 : ByteArray) (a0_2 : Int) (A0_3 : Option Addr) (c0_3 : Nat) (l0_3 : List (S29)) (a1 : Int) (r1 : Int) (r2 : ByteArray) (r3 : Int) (r4 : List (S29)) (w : World) (hr0_3 : Kd.C k29 w A0_3 l0_3.length l0_3) (hc0_3 : l0_3.length ≤ c0_3) (h : spec_l03Shift.f k a0_0 a0_1 a0_2 l0_3 a1 = some (r1,r2,r3,r4)),
  Calls Try.prog 122 #[.agg #[.int .i64 a0_0,.string a0_1,.int .i64 a0_2,.slice A0_3 l0_3.length c0_3],.int .i64 a1] w fun e w' => ∃ v3_ : Value,e = .returned (.agg #[.int .i64 r1,.string r2,.int .i64 r3,v3_]) ∧ Kd.R k29 29 w' w.heap.size (fun _ => True) v3_ r4 ∧ Below w.heap.size w w':=by
 induction k using Nat.strongRecOn with
 | _ k ih =>
 intro a0_0 a0_1 a0_2 A0_3 c0_3 l0_3 a1 r1 r2 r3 r4 w hr0_3 hc0_3 h
 cases k with
 | zero => exact absurd h (by simp [spec_l03Shift.f])
 | succ k =>
 simp only [spec_l03Shift.f] at h
 have hu29:=Try.underlying29
 have HR0_3:=Aside0.mk hr0_3
 have HC0_3:=Aside0.mk hc0_3
 clear hr0_3 hc0_3
 have HB:=Aside0.mk (Below.refl w.heap.size w)
 have H : (if a0_0 = 1 then (spec_l03Shift.j0 k a1 a0_0 a0_1 a0_2 l0_3 a0_0 a0_1 (wrap64 (a0_2 + a1)) l0_3) else (spec_l03Shift.j0 k a1 a0_0 a0_1 a0_2 l0_3 a0_0 a0_1 a0_2 l0_3)) = some (r1,r2,r3,r4):=h
 clear h
 have HC3:=Aside0.mk H
 clear H
 go_enter Try.func122,Try.ntmps122
 go_upto_if 10 with (first|((with_reducible refine gate_dst (N:=2) rfl ?_);refine box_event ?hg (N:=2) ?hd (cs:=#[.int .i64 a0_0,.string a0_1,.int .i64 a0_2,.slice A0_3 l0_3.length c0_3]) (t:=29) ?hr ?_;(case hd => rfl);(case hg => rfl);(case hr => first|(go_simp;done)|(go_simp;rfl));intro gb175 hg w4 hbox hb;have n0_:=Aside0.mk (below_step (by repeat (first|(with_reducible first|exact HB.out|apply below_alloc|apply pw_below_drewN|apply below_drew1)|exact HB.out)) hb);have n1_:=Aside0.mk (hbox);have n2_:=Aside0.mk ((by rw [hg];exact (below_size (by repeat (first|(with_reducible first|exact HB.out|apply below_alloc|apply pw_below_drewN|apply below_drew1)|exact HB.out))) : w.heap.size ≤ gb175));have n3_:=Aside0.mk ((by rw [hg];exact (below_size (by repeat (first|(with_reducible first|exact HB.out|apply below_alloc|apply pw_below_drewN|apply below_drew1)|exact HB.out))) : w.heap.size ≤ gb175));clear HB;have HB:=n0_;have BK175:=n1_;have GW175:=n2_;have GE175:=n3_;clear n0_ n1_ n2_ n3_;clear hb hbox hg)|((with_reducible refine gate_dst (N:=4) rfl ?_);refine box_event ?hg (N:=4) ?hd (cs:=#[.int .i64 0,.string (⟨#[]⟩ : ByteArray),.int .i64 0,.slice none 0 0]) (t:=29) ?hr ?_;(case hd => rfl);(case hg => rfl);(case hr => first|(go_simp;done)|(go_simp;rfl));intro gb176 hg w5 hbox hb;have n0_:=Aside0.mk (blk_below (g:=gb175) (o:=.cells #[.int .i64 a0_0,.string a0_1,.int .i64 a0_2,.slice A0_3 l0_3.length c0_3] 29 (0,0)) (by (with_reducible repeat (first|refine blk_drewN ?_ _|refine blk_drew ?_|refine blk_alloc ?_ _));exact BK175.out) hb);have n1_:=Aside0.mk (below_step (by repeat (first|(with_reducible first|exact HB.out|apply below_alloc|apply pw_below_drewN|apply below_drew1|refine below_set ?_ GE175.out)|exact HB.out)) hb);have n2_:=Aside0.mk (hbox);have n3_:=Aside0.mk ((by rw [hg];exact (below_size (by repeat (first|(with_reducible first|exact HB.out|apply below_alloc|apply pw_below_drewN|apply below_drew1|refine below_set ?_ GE175.out)|exact HB.out))) : w.heap.size ≤ gb176));have n4_:=Aside0.mk ((by rw [hg];exact (below_size (by repeat (first|(with_reducible first|exact HB.out|apply below_alloc|apply pw_below_drewN|apply below_drew1|refine below_set ?_ GE175.out)|exact HB.out))) : w.heap.size ≤ gb176));have n5_:=Aside0.mk ((by rw [hg];exact Nat.ne_of_lt (blk_lt (g:=gb175) (o:=.cells #[.int .i64 a0_0,.string a0_1,.int .i64 a0_2,.slice A0_3 l0_3.length c0_3] 29 (0,0)) (by (with_reducible repeat (first|refine blk_drewN ?_ _|refine blk_drew ?_|refine blk_alloc ?_ _));exact BK175.out)) : gb175 ≠ gb176));have n6_:=Aside0.mk ((by rw [hg];exact Nat.ne_of_gt (blk_lt (g:=gb175) (o:=.cells #[.int .i64 a0_0,.string a0_1,.int .i64 a0_2,.slice A0_3 l0_3.length c0_3] 29 (0,0)) (by (with_reducible repeat (first|refine blk_drewN ?_ _|refine blk_drew ?_|refine blk_alloc ?_ _));exact BK175.out)) : gb176 ≠ gb175));clear BK175;clear HB;have BK175:=n0_;have HB:=n1_;have BK176:=n2_;have GW176:=n3_;have GE176:=n4_;have NB175_176:=n5_;have NB176_175:=n6_;clear n0_ n1_ n2_ n3_ n4_ n5_ n6_;clear hb hbox hg;have hnb6:=NB175_176.out;have hnc6:=NB176_175.out;have hcz7_0 : w5.cell? ⟨gb175,0,none⟩ = some (.int .i64 a0_0):=(blk_cell BK175.out 0).trans rfl;have hcz7_1 : w5.cell? ⟨gb175,1,none⟩ = some (.string a0_1):=(blk_cell BK175.out 1).trans rfl;have hcz7_2 : w5.cell? ⟨gb175,2,none⟩ = some (.int .i64 a0_2):=(blk_cell BK175.out 2).trans rfl;have hcz7_3 : w5.cell? ⟨gb175,3,none⟩ = some (.slice A0_3 l0_3.length c0_3):=(blk_cell BK175.out 3).trans rfl;have hfz7_0:=blk_frozen BK175.out 0;have hfz7_1:=blk_frozen BK175.out 1;have hfz7_2:=blk_frozen BK175.out 2;have hfz7_3:=blk_frozen BK175.out 3)|((with_reducible refine gate_dst (N:=5) rfl ?_);refine box_event ?hg (N:=5) ?hd (cs:=#[.int .i64 0,.string (⟨#[]⟩ : ByteArray),.int .i64 0,.slice none 0 0]) (t:=29) ?hr ?_;(case hd => rfl);(case hg => rfl);(case hr => first|(go_simp;done)|(go_simp;rfl));intro gb177 hg w8 hbox hb;have n0_:=Aside0.mk (blk_below (g:=gb175) (o:=.cells #[.int .i64 a0_0,.string a0_1,.int .i64 a0_2,.slice A0_3 l0_3.length c0_3] 29 (0,0)) (by (with_reducible repeat (first|refine blk_drewN ?_ _|refine blk_drew ?_|refine blk_alloc ?_ _));exact BK175.out) hb);have n1_:=Aside0.mk (blk_below (g:=gb176) (o:=.cells #[.int .i64 0,.string (⟨#[]⟩ : ByteArray),.int .i64 0,.slice none 0 0] 29 (0,0)) (by (with_reducible repeat (first|refine blk_drewN ?_ _|refine blk_drew ?_|refine blk_alloc ?_ _));exact BK176.out) hb);have n2_:=Aside0.mk (below_step (by repeat (first|(with_reducible first|exact HB.out|apply below_alloc|apply pw_below_drewN|apply below_drew1|refine below_set ?_ GE175.out|refine below_set ?_ GE176.out)|exact HB.out)) hb);have n3_:=Aside0.mk (hbox);have n4_:=Aside0.mk ((by rw [hg];exact (below_size (by repeat (first|(with_reducible first|exact HB.out|apply below_alloc|apply pw_below_drewN|apply below_drew1|refine below_set ?_ GE175.out|refine below_set ?_ GE176.out)|exact HB.out))) : w.heap.size ≤ gb177));have n5_:=Aside0.mk ((by rw [hg];exact (below_size (by repeat (first|(with_reducible first|exact HB.out|apply below_alloc|apply pw_below_drewN|apply below_drew1|refine below_set ?_ GE175.out|refine below_set ?_ GE176.out)|exact HB.out))) : w.heap.size ≤ gb177));have n6_:=Aside0.mk ((by rw [hg];exact Nat.ne_of_lt (blk_lt (g:=gb175) (o:=.cells #[.int .i64 a0_0,.string a0_1,.int .i64 a0_2,.slice A0_3 l0_3.length c0_3] 29 (0,0)) (by (with_reducible repeat (first|refine blk_drewN ?_ _|refine blk_drew ?_|refine blk_alloc ?_ _));exact BK175.out)) : gb175 ≠ gb177));have n7_:=Aside0.mk ((by rw [hg];exact Nat.ne_of_gt (blk_lt (g:=gb175) (o:=.cells #[.int .i64 a0_0,.string a0_1,.int .i64 a0_2,.slice A0_3 l0_3.length c0_3] 29 (0,0)) (by (with_reducible repeat (first|refine blk_drewN ?_ _|refine blk_drew ?_|refine blk_alloc ?_ _));exact BK175.out)) : gb177 ≠ gb175));have n8_:=Aside0.mk ((by rw [hg];exact Nat.ne_of_lt (blk_lt (g:=gb176) (o:=.cells #[.int .i64 0,.string (⟨#[]⟩ : ByteArray),.int .i64 0,.slice none 0 0] 29 (0,0)) (by (with_reducible repeat (first|refine blk_drewN ?_ _|refine blk_drew ?_|refine blk_alloc ?_ _));exact BK176.out)) : gb176 ≠ gb177));have n9_:=Aside0.mk ((by rw [hg];exact Nat.ne_of_gt (blk_lt (g:=gb176) (o:=.cells #[.int .i64 0,.string (⟨#[]⟩ : ByteArray),.int .i64 0,.slice none 0 0] 29 (0,0)) (by (with_reducible repeat (first|refine blk_drewN ?_ _|refine blk_drew ?_|refine blk_alloc ?_ _));exact BK176.out)) : gb177 ≠ gb176));clear BK175;clear BK176;clear HB;have BK175:=n0_;have BK176:=n1_;have HB:=n2_;have BK177:=n3_;have GW177:=n4_;have GE177:=n5_;have NB175_177:=n6_;have NB177_175:=n7_;have NB176_177:=n8_;have NB177_176:=n9_;clear n0_ n1_ n2_ n3_ n4_ n5_ n6_ n7_ n8_ n9_;clear hb hbox hg;have hnb9:=NB177_175.out;have hnc9:=NB175_177.out;have hnb10:=NB177_176.out;have hnc10:=NB176_177.out;have hcz11_0 : w8.cell? ⟨gb177,0,none⟩ = some (.int .i64 0):=(blk_cell BK177.out 0).trans rfl;have hcz11_1 : w8.cell? ⟨gb177,1,none⟩ = some (.string (⟨#[]⟩ : ByteArray)):=(blk_cell BK177.out 1).trans rfl;have hcz11_2 : w8.cell? ⟨gb177,2,none⟩ = some (.int .i64 0):=(blk_cell BK177.out 2).trans rfl;have hcz11_3 : w8.cell? ⟨gb177,3,none⟩ = some (.slice none 0 0):=(blk_cell BK177.out 3).trans rfl;have hfz11_0:=blk_frozen BK177.out 0;have hfz11_1:=blk_frozen BK177.out 1;have hfz11_2:=blk_frozen BK177.out 2;have hfz11_3:=blk_frozen BK177.out 3;have hcz12_0 : w8.cell? ⟨gb175,0,none⟩ = some (.int .i64 a0_0):=(blk_cell BK175.out 0).trans rfl;have hcz12_1 : w8.cell? ⟨gb175,1,none⟩ = some (.string a0_1):=(blk_cell BK175.out 1).trans rfl;have hcz12_2 : w8.cell? ⟨gb175,2,none⟩ = some (.int .i64 a0_2):=(blk_cell BK175.out 2).trans rfl;have hcz12_3 : w8.cell? ⟨gb175,3,none⟩ = some (.slice A0_3 l0_3.length c0_3):=(blk_cell BK175.out 3).trans rfl;have hfz12_0:=blk_frozen BK175.out 0;have hfz12_1:=blk_frozen BK175.out 1;have hfz12_2:=blk_frozen BK175.out 2;have hfz12_3:=blk_frozen BK175.out 3))
 (try simp only [Act.put,List.setIfInBounds_toArray,List.set_cons_zero,List.set_cons_succ])
 go_cut [] (fun wc => ∃ (kq : Nat) (x178002_2 : Int),Aside0 (spec_l03Shift.j0 kq a1 a0_0 a0_1 a0_2 l0_3 a0_0 a0_1 x178002_2 l0_3 = some (r1,r2,r3,r4)) ∧ Aside0 (kq ≤ k) ∧ Aside0 (wc.heap[gb175]? = some (.cells #[.int .i64 a0_0,.string a0_1,.int .i64 a0_2,(.slice A0_3 l0_3.length c0_3)] 29 (0,0))) ∧ Aside0 (wc.heap[gb176]? = some (.cells #[.int .i64 0,.string (⟨#[]⟩ : ByteArray),.int .i64 0,(.slice none 0 0)] 29 (0,0))) ∧ Aside0 (wc.heap[gb177]? = some (.cells #[.int .i64 a0_0,.string a0_1,.int .i64 x178002_2,(.slice A0_3 l0_3.length c0_3)] 29 (0,0))) ∧ Aside0 (Below w.heap.size w wc))
 case first =>
  have H:=HC3.out
  clear HC3
  by_cases c13 : a0_0 = 1
  ·rw [if_pos c13] at H
   have c13b0 : (a0_0 == 1) = true:=beq_iff_eq.mpr c13
   have c13b1 : (a0_0 != 1) = false:=bne_eq_false_iff_eq.mpr c13
   clear c13
   (first|rw [c13b0]|(simp only [i64_w,i32_w];rw [c13b0])|skip)
   have H':=Aside0.mk H
   clear H
   have hnb14:=NB175_176.out
   have hnc14:=NB176_175.out
   have hnb15:=NB175_177.out
   have hnc15:=NB177_175.out
   have hcz16_0 : w8.cell? ⟨gb175,0,none⟩ = some (.int .i64 a0_0):=(blk_cell BK175.out 0).trans rfl
   have hcz16_1 : w8.cell? ⟨gb175,1,none⟩ = some (.string a0_1):=(blk_cell BK175.out 1).trans rfl
   have hcz16_2 : w8.cell? ⟨gb175,2,none⟩ = some (.int .i64 a0_2):=(blk_cell BK175.out 2).trans rfl
   have hcz16_3 : w8.cell? ⟨gb175,3,none⟩ = some (.slice A0_3 l0_3.length c0_3):=(blk_cell BK175.out 3).trans rfl
   have hfz16_0:=blk_frozen BK175.out 0
   have hfz16_1:=blk_frozen BK175.out 1
   have hfz16_2:=blk_frozen BK175.out 2
   have hfz16_3:=blk_frozen BK175.out 3
   have hnb17:=NB177_176.out
   have hnc17:=NB176_177.out
   have hcz18_0 : w8.cell? ⟨gb177,0,none⟩ = some (.int .i64 0):=(blk_cell BK177.out 0).trans rfl
   have hcz18_1 : w8.cell? ⟨gb177,1,none⟩ = some (.string (⟨#[]⟩ : ByteArray)):=(blk_cell BK177.out 1).trans rfl
   have hcz18_2 : w8.cell? ⟨gb177,2,none⟩ = some (.int .i64 0):=(blk_cell BK177.out 2).trans rfl
   have hcz18_3 : w8.cell? ⟨gb177,3,none⟩ = some (.slice none 0 0):=(blk_cell BK177.out 3).trans rfl
   have hfz18_0:=blk_frozen BK177.out 0
   have hfz18_1:=blk_frozen BK177.out 1
   have hfz18_2:=blk_frozen BK177.out 2
   have hfz18_3:=blk_frozen BK177.out 3
   go_wp2
   go_meet
   case rel => exact ⟨_,(wrap64 (a0_2 + a1)),H',⟨by first|omega|exact Nat.le_refl _⟩,⟨by (with_reducible repeat (first|refine blk_drewN ?_ _|refine blk_drew ?_|refine blk_alloc ?_ _));refine blk_far ?_ NB175_177.out _;(with_reducible repeat (first|refine blk_drewN ?_ _|refine blk_drew ?_|refine blk_alloc ?_ _));refine blk_far ?_ NB175_177.out _;(with_reducible repeat (first|refine blk_drewN ?_ _|refine blk_drew ?_|refine blk_alloc ?_ _));refine blk_far ?_ NB175_177.out _;(with_reducible repeat (first|refine blk_drewN ?_ _|refine blk_drew ?_|refine blk_alloc ?_ _));refine blk_far ?_ NB175_177.out _;(with_reducible repeat (first|refine blk_drewN ?_ _|refine blk_drew ?_|refine blk_alloc ?_ _));refine blk_far ?_ NB175_177.out _;(with_reducible repeat (first|refine blk_drewN ?_ _|refine blk_drew ?_|refine blk_alloc ?_ _));exact BK175.out⟩,⟨by (with_reducible repeat (first|refine blk_drewN ?_ _|refine blk_drew ?_|refine blk_alloc ?_ _));refine blk_far ?_ NB176_177.out _;(with_reducible repeat (first|refine blk_drewN ?_ _|refine blk_drew ?_|refine blk_alloc ?_ _));refine blk_far ?_ NB176_177.out _;(with_reducible repeat (first|refine blk_drewN ?_ _|refine blk_drew ?_|refine blk_alloc ?_ _));refine blk_far ?_ NB176_177.out _;(with_reducible repeat (first|refine blk_drewN ?_ _|refine blk_drew ?_|refine blk_alloc ?_ _));refine blk_far ?_ NB176_177.out _;(with_reducible repeat (first|refine blk_drewN ?_ _|refine blk_drew ?_|refine blk_alloc ?_ _));refine blk_far ?_ NB176_177.out _;(with_reducible repeat (first|refine blk_drewN ?_ _|refine blk_drew ?_|refine blk_alloc ?_ _));exact BK176.out⟩,⟨by (with_reducible repeat (first|refine blk_drewN ?_ _|refine blk_drew ?_|refine blk_alloc ?_ _));refine blk_put (cs:=#[.int .i64 a0_0,.string a0_1,.int .i64 a0_2,.slice A0_3 l0_3.length c0_3]) ?_ 2 _ rfl;(with_reducible repeat (first|refine blk_drewN ?_ _|refine blk_drew ?_|refine blk_alloc ?_ _));refine blk_put (cs:=#[.int .i64 a0_0,.string a0_1,.int .i64 a0_2,.slice none 0 0]) ?_ 3 _ rfl;(with_reducible repeat (first|refine blk_drewN ?_ _|refine blk_drew ?_|refine blk_alloc ?_ _));refine blk_put (cs:=#[.int .i64 a0_0,.string a0_1,.int .i64 0,.slice none 0 0]) ?_ 2 _ rfl;(with_reducible repeat (first|refine blk_drewN ?_ _|refine blk_drew ?_|refine blk_alloc ?_ _));refine blk_put (cs:=#[.int .i64 a0_0,.string (⟨#[]⟩ : ByteArray),.int .i64 0,.slice none 0 0]) ?_ 1 _ rfl;(with_reducible repeat (first|refine blk_drewN ?_ _|refine blk_drew ?_|refine blk_alloc ?_ _));refine blk_put (cs:=#[.int .i64 0,.string (⟨#[]⟩ : ByteArray),.int .i64 0,.slice none 0 0]) ?_ 0 _ rfl;(with_reducible repeat (first|refine blk_drewN ?_ _|refine blk_drew ?_|refine blk_alloc ?_ _));exact BK177.out⟩,⟨by repeat (first|(with_reducible first|exact HB.out|apply below_alloc|apply pw_below_drewN|apply below_drew1|refine below_set ?_ GE175.out|refine below_set ?_ GE176.out|refine below_set ?_ GE177.out)|exact HB.out)⟩⟩
  ·rw [if_neg c13] at H
   have c13b0 : (a0_0 == 1) = false:=beq_eq_false_iff_ne.mpr c13
   have c13b1 : (a0_0 != 1) = true:=bne_iff_ne.mpr c13
   (first|rw [c13b0]|(simp only [i64_w,i32_w];rw [c13b0])|skip)
   have H':=Aside0.mk H
   clear H
   go_wp2
   go_meet
   case rel => exact ⟨_,(a0_2),H',⟨by first|omega|exact Nat.le_refl _⟩,⟨by (with_reducible repeat (first|refine blk_drewN ?_ _|refine blk_drew ?_|refine blk_alloc ?_ _));refine blk_far ?_ NB175_177.out _;(with_reducible repeat (first|refine blk_drewN ?_ _|refine blk_drew ?_|refine blk_alloc ?_ _));refine blk_far ?_ NB175_177.out _;(with_reducible repeat (first|refine blk_drewN ?_ _|refine blk_drew ?_|refine blk_alloc ?_ _));refine blk_far ?_ NB175_177.out _;(with_reducible repeat (first|refine blk_drewN ?_ _|refine blk_drew ?_|refine blk_alloc ?_ _));refine blk_far ?_ NB175_177.out _;(with_reducible repeat (first|refine blk_drewN ?_ _|refine blk_drew ?_|refine blk_alloc ?_ _));exact BK175.out⟩,⟨by (with_reducible repeat (first|refine blk_drewN ?_ _|refine blk_drew ?_|refine blk_alloc ?_ _));refine blk_far ?_ NB176_177.out _;(with_reducible repeat (first|refine blk_drewN ?_ _|refine blk_drew ?_|refine blk_alloc ?_ _));refine blk_far ?_ NB176_177.out _;(with_reducible repeat (first|refine blk_drewN ?_ _|refine blk_drew ?_|refine blk_alloc ?_ _));refine blk_far ?_ NB176_177.out _;(with_reducible repeat (first|refine blk_drewN ?_ _|refine blk_drew ?_|refine blk_alloc ?_ _));refine blk_far ?_ NB176_177.out _;(with_reducible repeat (first|refine blk_drewN ?_ _|refine blk_drew ?_|refine blk_alloc ?_ _));exact BK176.out⟩,⟨by (with_reducible repeat (first|refine blk_drewN ?_ _|refine blk_drew ?_|refine blk_alloc ?_ _));refine blk_put (cs:=#[.int .i64 a0_0,.string a0_1,.int .i64 a0_2,.slice none 0 0]) ?_ 3 _ rfl;(with_reducible repeat (first|refine blk_drewN ?_ _|refine blk_drew ?_|refine blk_alloc ?_ _));refine blk_put (cs:=#[.int .i64 a0_0,.string a0_1,.int .i64 0,.slice none 0 0]) ?_ 2 _ rfl;(with_reducible repeat (first|refine blk_drewN ?_ _|refine blk_drew ?_|refine blk_alloc ?_ _));refine blk_put (cs:=#[.int .i64 a0_0,.string (⟨#[]⟩ : ByteArray),.int .i64 0,.slice none 0 0]) ?_ 1 _ rfl;(with_reducible repeat (first|refine blk_drewN ?_ _|refine blk_drew ?_|refine blk_alloc ?_ _));refine blk_put (cs:=#[.int .i64 0,.string (⟨#[]⟩ : ByteArray),.int .i64 0,.slice none 0 0]) ?_ 0 _ rfl;(with_reducible repeat (first|refine blk_drewN ?_ _|refine blk_drew ?_|refine blk_alloc ?_ _));exact BK177.out⟩,⟨by repeat (first|(with_reducible first|exact HB.out|apply below_alloc|apply pw_below_drewN|apply below_drew1|refine below_set ?_ GE175.out|refine below_set ?_ GE176.out|refine below_set ?_ GE177.out)|exact HB.out)⟩⟩
 case rest =>
  clear HC3
  try clear c13
  try clear c13b0
  try clear c13b1
  try clear hcz11_0
  try clear hcz11_1
  try clear hcz11_2
  try clear hcz11_3
  try clear hcz12_0
  try clear hcz12_1
  try clear hcz12_2
  try clear hcz12_3
  try clear hcz16_0
  try clear hcz16_1
  try clear hcz16_2
  try clear hcz16_3
  try clear hcz18_0
  try clear hcz18_1
  try clear hcz18_2
  try clear hcz18_3
  try clear hcz7_0
  try clear hcz7_1
  try clear hcz7_2
  try clear hcz7_3
  try clear hfz11_0
  try clear hfz11_1
  try clear hfz11_2
  try clear hfz11_3
  try clear hfz12_0
  try clear hfz12_1
  try clear hfz12_2
  try clear hfz12_3
  try clear hfz16_0
  try clear hfz16_1
  try clear hfz16_2
  try clear hfz16_3
  try clear hfz18_0
  try clear hfz18_1
  try clear hfz18_2
  try clear hfz18_3
  try clear hfz7_0
  try clear hfz7_1
  try clear hfz7_2
  try clear hfz7_3
  try clear BK175
  try clear BK176
  try clear BK177
  obtain ⟨kq,x178002_2,HA,HJ2,BK175,BK176,BK177,HB⟩:=hcut
  cases kq with
  | zero => exact absurd HA.out (by simp [spec_l03Shift.j0])
  | succ kj2 =>
   have H:=HA.out
   clear HA
   simp only [spec_l03Shift.j0] at H
   obtain ⟨y178,hy178⟩ : ∃ y_ : List (S29),y_ = (([] : List (S29))):=⟨_,rfl⟩
   replace H : (spec_l03Shift.l0 kj2 a1 0 a0_0 a0_1 a0_2 l0_3 a0_0 a0_1 x178002_2 y178) = some (r1,r2,r3,r4):=by first|(rw [hy178];with_reducible exact H)|(have H2_:=(Option.bind_some _ _).symm.trans H;rw [hy178];with_reducible exact H2_)|(have H2_:=(Option.bind_some _ _).symm.trans H;with_reducible exact H2_)|with_reducible exact H|(rw [hy178];exact H)|exact H
   have Ny178:=Aside0.mk hy178
   clear hy178
   have H':=Aside0.mk H
   clear H
   go_wp2_with (first|((with_reducible refine gate_dst (N:=16) rfl ?_);refine Kd.R_lit k29 _ 29 ?hg (N:=16) ?hd (xs:=([] : List (S29))) (inner:=[]) (ok:=fun _ => True) (okp:=fun _ => True) ?hr ?hp (fun _ hk => hk) trivial (Below.refl _ _) (Nat.le_refl _) (by simp) ?_;(case hd => rfl);(case hg => rfl);(case hr => first|(go_simp;done)|(go_simp;rfl));(case hp => exact (Reps.none _ _));intro v179 w19 ho20 hb hg_ hnew_;clear hg_ hnew_;(first|rw [← Ny178.out] at ho20|(simp only [Int.reduceToNat] at ho20;rw [← Ny178.out] at ho20));have n0_:=Aside0.mk (Kd.R_lower (Kd.R_newB (Kd.R_newB (Kd.R_newB ho20 (g:=gb175) (o:=.cells #[.int .i64 a0_0,.string a0_1,.int .i64 a0_2,.slice A0_3 l0_3.length c0_3] 29 (0,0)) (by (with_reducible repeat (first|refine blk_drewN ?_ _|refine blk_drew ?_|refine blk_alloc ?_ _));exact BK175.out)) (g:=gb176) (o:=.cells #[.int .i64 0,.string (⟨#[]⟩ : ByteArray),.int .i64 0,.slice none 0 0] 29 (0,0)) (by (with_reducible repeat (first|refine blk_drewN ?_ _|refine blk_drew ?_|refine blk_alloc ?_ _));exact BK176.out)) (g:=gb177) (o:=.cells #[.int .i64 a0_0,.string a0_1,.int .i64 x178002_2,.slice A0_3 l0_3.length c0_3] 29 (0,0)) (by (with_reducible repeat (first|refine blk_drewN ?_ _|refine blk_drew ?_|refine blk_alloc ?_ _));exact BK177.out)) (below_size (by repeat (first|(with_reducible first|exact HB.out|apply below_alloc|apply pw_below_drewN|apply below_drew1|refine below_set ?_ GE175.out|refine below_set ?_ GE176.out|refine below_set ?_ GE177.out)|exact HB.out))));have n1_:=Aside0.mk (blk_below (g:=gb175) (o:=.cells #[.int .i64 a0_0,.string a0_1,.int .i64 a0_2,.slice A0_3 l0_3.length c0_3] 29 (0,0)) (by (with_reducible repeat (first|refine blk_drewN ?_ _|refine blk_drew ?_|refine blk_alloc ?_ _));exact BK175.out) hb);have n2_:=Aside0.mk (blk_below (g:=gb176) (o:=.cells #[.int .i64 0,.string (⟨#[]⟩ : ByteArray),.int .i64 0,.slice none 0 0] 29 (0,0)) (by (with_reducible repeat (first|refine blk_drewN ?_ _|refine blk_drew ?_|refine blk_alloc ?_ _));exact BK176.out) hb);have n3_:=Aside0.mk (blk_below (g:=gb177) (o:=.cells #[.int .i64 a0_0,.string a0_1,.int .i64 x178002_2,.slice A0_3 l0_3.length c0_3] 29 (0,0)) (by (with_reducible repeat (first|refine blk_drewN ?_ _|refine blk_drew ?_|refine blk_alloc ?_ _));exact BK177.out) hb);have n4_:=Aside0.mk (below_step (by repeat (first|(with_reducible first|exact HB.out|apply below_alloc|apply pw_below_drewN|apply below_drew1|refine below_set ?_ GE175.out|refine below_set ?_ GE176.out|refine below_set ?_ GE177.out)|exact HB.out)) hb);clear BK175;clear BK176;clear BK177;clear HB;have HO180:=n0_;have BK175:=n1_;have BK176:=n2_;have BK177:=n3_;have HB:=n4_;clear n0_ n1_ n2_ n3_ n4_;clear hb ho20;obtain ⟨Ao21,co21,eo21⟩:=Kd.R_slice HO180.out;subst eo21;have hnb22:=NB177_175.out;have hnc22:=NB175_177.out;have hnb23:=NB177_176.out;have hnc23:=NB176_177.out;have hcz24_0 : w19.cell? ⟨gb177,0,none⟩ = some (.int .i64 a0_0):=(blk_cell BK177.out 0).trans rfl;have hcz24_1 : w19.cell? ⟨gb177,1,none⟩ = some (.string a0_1):=(blk_cell BK177.out 1).trans rfl;have hcz24_2 : w19.cell? ⟨gb177,2,none⟩ = some (.int .i64 x178002_2):=(blk_cell BK177.out 2).trans rfl;have hcz24_3 : w19.cell? ⟨gb177,3,none⟩ = some (.slice A0_3 l0_3.length c0_3):=(blk_cell BK177.out 3).trans rfl;have hfz24_0:=blk_frozen BK177.out 0;have hfz24_1:=blk_frozen BK177.out 1;have hfz24_2:=blk_frozen BK177.out 2;have hfz24_3:=blk_frozen BK177.out 3))
   go_loopg [6] kj2 (fun kq v6 w' => ∃ (x6_2 : Int) (x178003_2 : List (S29)) (u178003 : Value),v6 = .int .i64 x6_2 ∧ Aside0 (spec_l03Shift.l0 kq a1 x6_2 a0_0 a0_1 a0_2 l0_3 a0_0 a0_1 x178002_2 x178003_2 = some (r1,r2,r3,r4)) ∧ Aside0 (kq ≤ kj2) ∧ Aside0 (Kd.R k29 29 w' w.heap.size (fun k_ => k_ ≠ gb175 ∧ k_ ≠ gb176 ∧ k_ ≠ gb177) u178003 x178003_2) ∧ Aside0 (w'.heap[gb175]? = some (.cells #[.int .i64 a0_0,.string a0_1,.int .i64 a0_2,(.slice A0_3 l0_3.length c0_3)] 29 (0,0))) ∧ Aside0 (w'.heap[gb176]? = some (.cells #[.int .i64 0,.string (⟨#[]⟩ : ByteArray),.int .i64 0,(.slice none 0 0)] 29 (0,0))) ∧ Aside0 (w'.heap[gb177]? = some (.cells #[.int .i64 a0_0,.string a0_1,.int .i64 x178002_2,u178003] 29 (0,0))) ∧ Aside0 (Below w.heap.size w w'))
   case atStart => exact ⟨(0),(y178),(.slice Ao21 y178.length co21),(by first|rfl|(simp;done)|(simp [*];done)),H',⟨Nat.le_refl _⟩,⟨by (with_reducible repeat (first|apply Kd.R_alloc|apply Kd.R_drewN|apply Kd.R_drew));exact Kd.R_mono (Kd.R_far (p:=⟨gb177,3,none⟩) (Kd.R_mono HO180.out (fun k_ hk => (⟨hk,hk.2⟩ : _ ∧ k_ ≠ gb177))) (fun _ hk => hk.2) (.slice Ao21 y178.length co21)) (fun _ hk => ⟨hk.1.1.1.2,⟨hk.1.1.2,hk.1.2⟩⟩)⟩,⟨by (with_reducible repeat (first|refine blk_drewN ?_ _|refine blk_drew ?_|refine blk_alloc ?_ _));refine blk_far ?_ NB175_177.out _;(with_reducible repeat (first|refine blk_drewN ?_ _|refine blk_drew ?_|refine blk_alloc ?_ _));exact BK175.out⟩,⟨by (with_reducible repeat (first|refine blk_drewN ?_ _|refine blk_drew ?_|refine blk_alloc ?_ _));refine blk_far ?_ NB176_177.out _;(with_reducible repeat (first|refine blk_drewN ?_ _|refine blk_drew ?_|refine blk_alloc ?_ _));exact BK176.out⟩,⟨by (with_reducible repeat (first|refine blk_drewN ?_ _|refine blk_drew ?_|refine blk_alloc ?_ _));refine blk_put (cs:=#[.int .i64 a0_0,.string a0_1,.int .i64 x178002_2,.slice A0_3 l0_3.length c0_3]) ?_ 3 _ rfl;(with_reducible repeat (first|refine blk_drewN ?_ _|refine blk_drew ?_|refine blk_alloc ?_ _));exact BK177.out⟩,⟨by repeat (first|(with_reducible first|exact HB.out|apply below_alloc|apply pw_below_drewN|apply below_drew1|refine below_set ?_ GE175.out|refine below_set ?_ GE176.out|refine below_set ?_ GE177.out)|exact HB.out)⟩⟩
   case round =>
    clear H'
    try clear c13
    try clear c13b0
    try clear c13b1
    try clear hcz11_0
    try clear hcz11_1
    try clear hcz11_2
    try clear hcz11_3
    try clear hcz12_0
    try clear hcz12_1
    try clear hcz12_2
    try clear hcz12_3
    try clear hcz16_0
    try clear hcz16_1
    try clear hcz16_2
    try clear hcz16_3
    try clear hcz18_0
    try clear hcz18_1
    try clear hcz18_2
    try clear hcz18_3
    try clear hcz24_0
    try clear hcz24_1
    try clear hcz24_2
    try clear hcz24_3
    try clear hcz7_0
    try clear hcz7_1
    try clear hcz7_2
    try clear hcz7_3
    try clear hfz11_0
    try clear hfz11_1
    try clear hfz11_2
    try clear hfz11_3
    try clear hfz12_0
    try clear hfz12_1
    try clear hfz12_2
    try clear hfz12_3
    try clear hfz16_0
    try clear hfz16_1
    try clear hfz16_2
    try clear hfz16_3
    try clear hfz18_0
    try clear hfz18_1
    try clear hfz18_2
    try clear hfz18_3
    try clear hfz24_0
    try clear hfz24_1
    try clear hfz24_2
    try clear hfz24_3
    try clear hfz7_0
    try clear hfz7_1
    try clear hfz7_2
    try clear hfz7_3
    try clear BK175
    try clear BK176
    try clear BK177
    obtain ⟨x6_2,x178003_2,u178003,rfl,HA,HK2,HO_178003,BK175,BK176,BK177,HB⟩:=hrel
    cases gk with
    | zero => exact absurd HA.out (by simp [spec_l03Shift.l0])
    | succ k2 =>
     have H:=HA.out
     clear HA
     simp only [spec_l03Shift.l0] at H
     by_cases c25 : x6_2 < (l0_3.length : Int)
     ·rw [if_pos c25] at H
      have c25b0 : decide (x6_2 < (l0_3.length : Int)) = true:=decide_eq_true c25
      clear c25
      by_cases c26 : 0 ≤ x6_2
      rotate_left
      ·rw [if_neg c26] at H
       exact absurd H (by simp)
      rw [if_pos c26] at H
      have c26b0 : decide (0 ≤ x6_2) = true:=decide_eq_true c26
      clear c26
      replace H:=Option.bind_eq_some_iff.mp H
      obtain ⟨⟨t182,t183,t184,t185⟩,A270,H⟩:=H
      replace H : (if x178003_2.length < 2513169434916 then (spec_l03Shift.l0 k2 a1 (wrap64 (x6_2 + 1)) a0_0 a0_1 a0_2 l0_3 a0_0 a0_1 x178002_2 (x178003_2 ++ [(⟨t182,t183,t184,t185⟩ : S29)])) else (none)) = some (r1,r2,r3,r4):=H
      have A27:=Aside0.mk A270
      clear A270
      by_cases c28 : x178003_2.length < 2513169434916
      rotate_left
      ·rw [if_neg c28] at H
       exact absurd H (by simp)
      rw [if_pos c28] at H
      have LMc28:=Aside0.mk c28
      clear c28
      obtain ⟨y188,hy188⟩ : ∃ y_ : List (S29),y_ = (x178003_2 ++ [(⟨t182,t183,t184,t185⟩ : S29)]):=⟨_,rfl⟩
      replace H : (spec_l03Shift.l0 k2 a1 (wrap64 (x6_2 + 1)) a0_0 a0_1 a0_2 l0_3 a0_0 a0_1 x178002_2 y188) = some (r1,r2,r3,r4):=by first|(rw [hy188];with_reducible exact H)|(have H2_:=(Option.bind_some _ _).symm.trans H;rw [hy188];with_reducible exact H2_)|(have H2_:=(Option.bind_some _ _).symm.trans H;with_reducible exact H2_)|with_reducible exact H|(rw [hy188];exact H)|exact H
      have Ny188:=Aside0.mk hy188
      clear hy188
      have H':=Aside0.mk H
      clear H
      have hnb29:=NB175_176.out
      have hnc29:=NB176_175.out
      have hnb30:=NB175_177.out
      have hnc30:=NB177_175.out
      have hcz31_0 : wr.cell? ⟨gb175,0,none⟩ = some (.int .i64 a0_0):=(blk_cell BK175.out 0).trans rfl
      have hcz31_1 : wr.cell? ⟨gb175,1,none⟩ = some (.string a0_1):=(blk_cell BK175.out 1).trans rfl
      have hcz31_2 : wr.cell? ⟨gb175,2,none⟩ = some (.int .i64 a0_2):=(blk_cell BK175.out 2).trans rfl
      have hcz31_3 : wr.cell? ⟨gb175,3,none⟩ = some (.slice A0_3 l0_3.length c0_3):=(blk_cell BK175.out 3).trans rfl
      have hfz31_0:=blk_frozen BK175.out 0
      have hfz31_1:=blk_frozen BK175.out 1
      have hfz31_2:=blk_frozen BK175.out 2
      have hfz31_3:=blk_frozen BK175.out 3
      try go_wp2
      have n0_:=Aside0.mk (Kd.R_drew HO_178003.out)
      have n1_:=Aside0.mk (blk_drew BK175.out)
      have n2_:=Aside0.mk (blk_drew BK176.out)
      have n3_:=Aside0.mk (blk_drew BK177.out)
      have n4_:=Aside0.mk (below_drew1 HB.out)
      clear HO_178003
      clear BK175
      clear BK176
      clear BK177
      clear HB
      have HO_178003:=n0_
      have BK175:=n1_
      have BK176:=n2_
      have BK177:=n3_
      have HB:=n4_
      clear n0_ n1_ n2_ n3_ n4_
      have p181 : 0 ≤ (x6_2 : Int):=of_decide_eq_true (by first|(with_reducible assumption)|assumption)
      have q181 : x6_2 < (l0_3.length : Int):=of_decide_eq_true (by first|(with_reducible assumption)|assumption)
      obtain ⟨ad181,A181_3,c181_3,e181,hx181_0,hx181_1,hx181_2,hx181_3,hl181_3,hi181_3⟩:=at_T29 HR0_3.out x6_2 p181 q181
      have hw181_3:=hx181_3
      have hw181_2:=hx181_2
      have hw181_1:=hx181_1
      have hw181_0:=hx181_0
      cases e181
      replace hx181_0:=(HB.out.cell (World.block_lt_of_cell? w _ hx181_0)).trans hx181_0
      replace hx181_1:=(HB.out.cell (World.block_lt_of_cell? w _ hx181_1)).trans hx181_1
      replace hx181_2:=(HB.out.cell (World.block_lt_of_cell? w _ hx181_2)).trans hx181_2
      replace hx181_3:=(HB.out.cell (World.block_lt_of_cell? w _ hx181_3)).trans hx181_3
      have HR181_3:=Aside0.mk hi181_3
      have HC181_3:=Aside0.mk hl181_3
      clear hi181_3 hl181_3
      replace p181:=eq_true p181
      replace q181:=eq_true q181
      refine start_ (n:=13) (S:=fun w' => w'.cell? ⟨gb177,0,none⟩ = some (.int .i64 a0_0) ∧ w'.cell? ⟨gb177,1,none⟩ = some (.string a0_1) ∧ w'.cell? ⟨gb177,2,none⟩ = some (.int .i64 x178002_2) ∧ w'.cell? ⟨gb177,3,none⟩ = some (u178003) ∧ w'.cell? ⟨gb175,0,none⟩ = some (.int .i64 a0_0) ∧ w'.cell? ⟨gb175,1,none⟩ = some (.string a0_1) ∧ w'.cell? ⟨gb175,2,none⟩ = some (.int .i64 a0_2) ∧ w'.cell? ⟨gb175,3,none⟩ = some (.slice (some ad181) l0_3.length c0_3) ∧ w'.cell? (ad181.add ((x6_2).toNat * 4)) = some (.int .i64 ((rd_T29 l0_3 x6_2).f0)) ∧ w'.cell? ⟨(ad181.add ((x6_2).toNat * 4)).block,(ad181.add ((x6_2).toNat * 4)).off + 1,none⟩ = some (.string ((rd_T29 l0_3 x6_2).f1)) ∧ w'.cell? ⟨(ad181.add ((x6_2).toNat * 4)).block,(ad181.add ((x6_2).toNat * 4)).off + 2,none⟩ = some (.int .i64 ((rd_T29 l0_3 x6_2).f2)) ∧ w'.cell? ⟨(ad181.add ((x6_2).toNat * 4)).block,(ad181.add ((x6_2).toNat * 4)).off + 3,none⟩ = some (.slice A181_3 ((rd_T29 l0_3 x6_2).f3).length c181_3)) (ds:=[12]) #[false,false,false,false,false,false,false,false,false,false,false,false,false] (by kernel_rfl) rfl rfl ⟨(blk_cell BK177.out 0).trans rfl,(blk_cell BK177.out 1).trans rfl,(blk_cell BK177.out 2).trans rfl,(blk_cell BK177.out 3).trans rfl,(blk_cell BK175.out 0).trans rfl,(blk_cell BK175.out 1).trans rfl,(blk_cell BK175.out 2).trans rfl,(blk_cell BK175.out 3).trans rfl,((HB.out.cell (World.block_lt_of_cell? w _ hw181_0)).trans hw181_0),((HB.out.cell (World.block_lt_of_cell? w _ hw181_1)).trans hw181_1),((HB.out.cell (World.block_lt_of_cell? w _ hw181_2)).trans hw181_2),((HB.out.cell (World.block_lt_of_cell? w _ hw181_3)).trans hw181_3)⟩ (fun hHeld => ?_);refine with_tabW spec_l03Shift.tab8 spec_l03Shift.bits8 (fun HT_ HW_ => ?_)
      generalize wr.drew = w32 at HO_178003 BK175 BK176 BK177 HB HR181_3 hx181_0 hx181_1 hx181_2 hx181_3 hHeld ⊢
      refine pure_ (i:=0) (N:=some 25) (v:=?_) (a':=?_) #[true,false,false,false,false,false,false,false,false,false,false,false,false] rfl rfl (any_of HT_.out (by kernel_rfl)) (fun _ _ _ h => h) (Or.inl ⟨by rfl,?_⟩) ?_ ?_
      rotate_left
      ·intro w'
       go_simp
       with_reducible rfl
      rotate_left
      ·simp only [Act.put,List.setIfInBounds_toArray,List.set_cons_zero,List.set_cons_succ,i64_w,i32_w]
       rfl
      refine pure_ (i:=2) (N:=some 27) (v:=?_) (a':=?_) #[true,false,true,false,false,false,false,false,false,false,false,false,false] rfl rfl (any_of HT_.out (by kernel_rfl)) (fun _ _ _ h => h) (Or.inl ⟨by rfl,?_⟩) ?_ ?_
      rotate_left
      ·intro w'
       go_simp
       with_reducible rfl
      rotate_left
      ·simp only [Act.put,List.setIfInBounds_toArray,List.set_cons_zero,List.set_cons_succ,i64_w,i32_w]
       rfl
      refine pure_ (i:=4) (N:=some 29) (v:=?_) (a':=?_) #[true,false,true,false,true,false,false,false,false,false,false,false,false] rfl rfl (any_of HT_.out (by kernel_rfl)) (fun _ _ _ h => h) (Or.inl ⟨by rfl,?_⟩) ?_ ?_
      rotate_left
      ·intro w'
       go_simp
       with_reducible rfl
      rotate_left
      ·simp only [Act.put,List.setIfInBounds_toArray,List.set_cons_zero,List.set_cons_succ,i64_w,i32_w]
       rfl
      refine pure_ (i:=7) (N:=some 32) (v:=?_) (a':=?_) #[true,false,true,false,true,false,false,true,false,false,false,false,false] rfl rfl (any_of HT_.out (by kernel_rfl)) (fun _ _ _ h => h) (Or.inl ⟨by rfl,?_⟩) ?_ ?_
      rotate_left
      ·intro w'
       go_simp
       with_reducible rfl
      rotate_left
      ·simp only [Act.put,List.setIfInBounds_toArray,List.set_cons_zero,List.set_cons_succ,i64_w,i32_w]
       rfl
      refine take_ (i:=1) (N:=some 26) (v:=?_) (a':=?_) #[true,true,true,false,true,false,false,true,false,false,false,false,false] rfl rfl (take_ofW HT_.out HW_.out (by kernel_rfl)) (fun _ _ _ h => h) (Or.inl ⟨by rfl,?_⟩) hHeld ?_ ?_
      rotate_left
      ·rintro w' ⟨s0,s1,s2,s3,s4,s5,s6,s7,s8,s9,s10,s11⟩
       go_simp
       with_reducible rfl
      rotate_left
      ·simp only [Act.put,List.setIfInBounds_toArray,List.set_cons_zero,List.set_cons_succ,i64_w,i32_w]
       rfl
      refine take_ (i:=3) (N:=some 28) (v:=?_) (a':=?_) #[true,true,true,true,true,false,false,true,false,false,false,false,false] rfl rfl (take_ofW HT_.out HW_.out (by kernel_rfl)) (fun _ _ _ h => h) (Or.inl ⟨by rfl,?_⟩) hHeld ?_ ?_
      rotate_left
      ·rintro w' ⟨s0,s1,s2,s3,s4,s5,s6,s7,s8,s9,s10,s11⟩
       go_simp
       with_reducible rfl
      rotate_left
      ·simp only [Act.put,List.setIfInBounds_toArray,List.set_cons_zero,List.set_cons_succ,i64_w,i32_w]
       rfl
      refine pure_ (i:=5) (N:=some 30) (v:=?_) (a':=?_) #[true,true,true,true,true,true,false,true,false,false,false,false,false] rfl rfl (any_of HT_.out (by kernel_rfl)) (fun _ _ _ h => h) (Or.inl ⟨by rfl,?_⟩) ?_ ?_
      rotate_left
      ·intro w'
       go_simp
       with_reducible rfl
      rotate_left
      ·simp only [Act.put,List.setIfInBounds_toArray,List.set_cons_zero,List.set_cons_succ,i64_w,i32_w]
       rfl
      refine take_ (i:=6) (N:=some 31) (v:=?_) (a':=?_) #[true,true,true,true,true,true,true,true,false,false,false,false,false] rfl rfl (take_ofW HT_.out HW_.out (by kernel_rfl)) (fun _ _ _ h => h) (Or.inl ⟨by rfl,?_⟩) hHeld ?_ ?_
      rotate_left
      ·rintro w' ⟨s0,s1,s2,s3,s4,s5,s6,s7,s8,s9,s10,s11⟩
       go_simp
       with_reducible rfl
      rotate_left
      ·simp only [Act.put,List.setIfInBounds_toArray,List.set_cons_zero,List.set_cons_succ,i64_w,i32_w]
       rfl
      refine one_ (i:=8) (N:=some 33) #[true,true,true,true,true,true,true,true,true,false,false,false,false] rfl rfl (one_of HT_.out (by kernel_rfl)) (by decide) (fun K hK => ?_)
      refine goes_ Try.func122 (by kernel_rfl) rfl #[.agg #[.int .i64 ((rd_T29 l0_3 x6_2).f0),.string ((rd_T29 l0_3 x6_2).f1),.int .i64 ((rd_T29 l0_3 x6_2).f2),.slice A181_3 ((rd_T29 l0_3 x6_2).f3).length c181_3],.int .i64 a1] (by rfl) rfl rfl (by (try simp only [List.map_toArray,List.map_cons,List.map_nil]);first|done|rfl|(simp only [List.length_drop,List.length_take];rfl)) ?_
      with_reducible refine (ih k2 (by have:=HJ2.out;have:=HK2.out;omega) ((rd_T29 l0_3 x6_2).f0) ((rd_T29 l0_3 x6_2).f1) ((rd_T29 l0_3 x6_2).f2) _ _ ((rd_T29 l0_3 x6_2).f3) a1 t182 t183 t184 t185 _ ?side1 ?side2 A27.out).mono ?_
      (case side1 => repeat (first|exact (Kd.C_below HR181_3.out HB.out)|(with_reducible refine Kd.C_alloc ?_ _)|(with_reducible refine Kd.C_drewN ?_ _)|(with_reducible refine Kd.C_drew ?_)))
      (case side2 => exact HC181_3.out)
      rintro e w33 ⟨v186,rfl,ho0,hb⟩
      refine ⟨_,rfl,?_⟩
      have n0_:=Aside0.mk (Kd.R_elder' (by (with_reducible repeat (first|apply Kd.R_alloc|apply Kd.R_drewN|apply Kd.R_drew));exact HO_178003.out) (Kd.R_base ho0) hb)
      have n1_:=Aside0.mk (Kd.R_lower (Kd.R_newB (Kd.R_newB (Kd.R_newB (Kd.R_new' ho0 (Kd.R_lt (by (with_reducible repeat (first|apply Kd.R_alloc|apply Kd.R_drewN|apply Kd.R_drew));exact HO_178003.out))) (g:=gb175) (o:=.cells #[.int .i64 a0_0,.string a0_1,.int .i64 a0_2,.slice (some ad181) l0_3.length c0_3] 29 (0,0)) (by (with_reducible repeat (first|refine blk_drewN ?_ _|refine blk_drew ?_|refine blk_alloc ?_ _));exact BK175.out)) (g:=gb176) (o:=.cells #[.int .i64 0,.string (⟨#[]⟩ : ByteArray),.int .i64 0,.slice none 0 0] 29 (0,0)) (by (with_reducible repeat (first|refine blk_drewN ?_ _|refine blk_drew ?_|refine blk_alloc ?_ _));exact BK176.out)) (g:=gb177) (o:=.cells #[.int .i64 a0_0,.string a0_1,.int .i64 x178002_2,u178003] 29 (0,0)) (by (with_reducible repeat (first|refine blk_drewN ?_ _|refine blk_drew ?_|refine blk_alloc ?_ _));exact BK177.out)) (below_size (by repeat (first|(with_reducible first|exact HB.out|apply below_alloc|apply pw_below_drewN|apply below_drew1|refine below_set ?_ GE175.out|refine below_set ?_ GE176.out|refine below_set ?_ GE177.out)|exact HB.out))))
      have n2_:=Aside0.mk (blk_below (g:=gb175) (o:=.cells #[.int .i64 a0_0,.string a0_1,.int .i64 a0_2,.slice (some ad181) l0_3.length c0_3] 29 (0,0)) (by (with_reducible repeat (first|refine blk_drewN ?_ _|refine blk_drew ?_|refine blk_alloc ?_ _));exact BK175.out) hb)
      have n3_:=Aside0.mk (blk_below (g:=gb176) (o:=.cells #[.int .i64 0,.string (⟨#[]⟩ : ByteArray),.int .i64 0,.slice none 0 0] 29 (0,0)) (by (with_reducible repeat (first|refine blk_drewN ?_ _|refine blk_drew ?_|refine blk_alloc ?_ _));exact BK176.out) hb)
      have n4_:=Aside0.mk (blk_below (g:=gb177) (o:=.cells #[.int .i64 a0_0,.string a0_1,.int .i64 x178002_2,u178003] 29 (0,0)) (by (with_reducible repeat (first|refine blk_drewN ?_ _|refine blk_drew ?_|refine blk_alloc ?_ _));exact BK177.out) hb)
      have n5_:=Aside0.mk (below_step (by repeat (first|(with_reducible first|exact HB.out|apply below_alloc|apply pw_below_drewN|apply below_drew1|refine below_set ?_ GE175.out|refine below_set ?_ GE176.out|refine below_set ?_ GE177.out)|exact HB.out)) hb)
      clear HO_178003
      clear BK175
      clear BK176
      clear BK177
      clear HB
      have HO_178003:=n0_
      have HO187:=n1_
      have BK175:=n2_
      have BK176:=n3_
      have BK177:=n4_
      have HB:=n5_
      clear n0_ n1_ n2_ n3_ n4_ n5_
      (try clear hb)
      (try clear hk)
      (try clear ho0)
      obtain ⟨Ao35,co35,eo35⟩:=Kd.R_slice HO187.out
      (first|subst eo35|(injection eo35 with f1_ f2_ f3_;have f4_:=f1_.symm;have f5_:=f3_.symm;clear f1_ f2_ f3_;subst f4_;subst f5_))
      refine hK.out _ _ ⟨(blk_cell BK177.out 0).trans rfl,(blk_cell BK177.out 1).trans rfl,(blk_cell BK177.out 2).trans rfl,(blk_cell BK177.out 3).trans rfl,(blk_cell BK175.out 0).trans rfl,(blk_cell BK175.out 1).trans rfl,(blk_cell BK175.out 2).trans rfl,(blk_cell BK175.out 3).trans rfl,((HB.out.cell (World.block_lt_of_cell? w _ hw181_0)).trans hw181_0),((HB.out.cell (World.block_lt_of_cell? w _ hw181_1)).trans hw181_1),((HB.out.cell (World.block_lt_of_cell? w _ hw181_2)).trans hw181_2),((HB.out.cell (World.block_lt_of_cell? w _ hw181_3)).trans hw181_3)⟩ (fun hHeld => ?_)
      clear hK K
      refine norm_ (a':=?_) ?_ ?_
      rotate_left
      ·show Act.put _ (some 33) _ = _
       simp only [Act.put,List.setIfInBounds_toArray,List.set_cons_zero,List.set_cons_succ,i64_w,i32_w]
       rfl
      refine one_ (i:=9) (N:=some 34) #[true,true,true,true,true,true,true,true,true,true,false,false,false] rfl rfl (one_of HT_.out (by kernel_rfl)) (by decide) (fun K hK => ?_)
      refine value_ (w1:=?_) (v:=?_) (by rfl) rfl ?_ ?_
      rotate_left 2
      ·go_simp
       constructor
       ·rfl
       ·rfl
      refine hK.out _ _ ⟨(blk_cell (blk_alloc BK177.out _) 0).trans rfl,(blk_cell (blk_alloc BK177.out _) 1).trans rfl,(blk_cell (blk_alloc BK177.out _) 2).trans rfl,(blk_cell (blk_alloc BK177.out _) 3).trans rfl,(blk_cell (blk_alloc BK175.out _) 0).trans rfl,(blk_cell (blk_alloc BK175.out _) 1).trans rfl,(blk_cell (blk_alloc BK175.out _) 2).trans rfl,(blk_cell (blk_alloc BK175.out _) 3).trans rfl,(World.cell?_alloc_lt _ _ _ (World.block_lt_of_cell? _ _ (((HB.out.cell (World.block_lt_of_cell? w _ hw181_0)).trans hw181_0)))).trans (((HB.out.cell (World.block_lt_of_cell? w _ hw181_0)).trans hw181_0)),(World.cell?_alloc_lt _ _ _ (World.block_lt_of_cell? _ _ (((HB.out.cell (World.block_lt_of_cell? w _ hw181_1)).trans hw181_1)))).trans (((HB.out.cell (World.block_lt_of_cell? w _ hw181_1)).trans hw181_1)),(World.cell?_alloc_lt _ _ _ (World.block_lt_of_cell? _ _ (((HB.out.cell (World.block_lt_of_cell? w _ hw181_2)).trans hw181_2)))).trans (((HB.out.cell (World.block_lt_of_cell? w _ hw181_2)).trans hw181_2)),(World.cell?_alloc_lt _ _ _ (World.block_lt_of_cell? _ _ (((HB.out.cell (World.block_lt_of_cell? w _ hw181_3)).trans hw181_3)))).trans (((HB.out.cell (World.block_lt_of_cell? w _ hw181_3)).trans hw181_3))⟩ (fun hHeld => ?_)
      clear hK K
      refine norm_ (a':=?_) ?_ ?_
      rotate_left
      ·show Act.put _ (some 34) _ = _
       simp only [Act.put,List.setIfInBounds_toArray,List.set_cons_zero,List.set_cons_succ,i64_w,i32_w]
       rfl
      refine one_ (i:=10) (N:=some 35) #[true,true,true,true,true,true,true,true,true,true,true,false,false] rfl rfl (one_of HT_.out (by kernel_rfl)) (by decide) (fun K hK => ?_)
      refine Kd.R_append_step k29 (w0:=w) w.heap.size (by rfl) (.tmp 26) (.tmp 34) 27 29 (.agg #[(.int .i64 0),(.string ⟨#[]⟩),(.int .i64 0),(.slice none 0 0)]) 56 rfl Try.underlying27 info29 rfl (by decide) (by omega) u178003 x178003_2 (⟨t182,t183,t184,t185⟩ : S29) [.int .i64 t182,.string t183,.int .i64 t184,.slice Ao35 t185.length co35] (fun k_ => k_ ≠ gb175 ∧ k_ ≠ gb176 ∧ k_ ≠ gb177) (fun k_ => ((fun k_ => k_ ≠ gb175 ∧ k_ ≠ gb176 ∧ k_ ≠ gb177)) k_ ∧ some k_ ≠ (u178003 : Value).ownBlock) rfl rfl ?aP (fun _ hk => hk) ?aF ?aO ?aB ?aS ?aL ?_
      (case aP => exact k29_mkM _ _ _ (⟨t182,t183,t184,t185⟩ : S29) (Kd.R_mono (HO187.out) (fun k_ hk => ⟨⟨hk.1.1.2,⟨hk.1.2,hk.2⟩⟩,hk.1.1.1.2⟩)))
      (case aB => exact (by repeat (first|(with_reducible first|exact HB.out|apply below_alloc|apply pw_below_drewN|apply below_drew1|refine below_set ?_ GE175.out|refine below_set ?_ GE176.out|refine below_set ?_ GE177.out)|exact HB.out)))
      (case aF => exact (fun k_ hk => ⟨Kd.freshB (g:=gb175) (o:=.cells #[.int .i64 a0_0,.string a0_1,.int .i64 a0_2,.slice (some ad181) l0_3.length c0_3] 29 (0,0)) (by (with_reducible repeat (first|refine blk_drewN ?_ _|refine blk_drew ?_|refine blk_alloc ?_ _));exact BK175.out) k_ hk,Kd.freshB (g:=gb176) (o:=.cells #[.int .i64 0,.string (⟨#[]⟩ : ByteArray),.int .i64 0,.slice none 0 0] 29 (0,0)) (by (with_reducible repeat (first|refine blk_drewN ?_ _|refine blk_drew ?_|refine blk_alloc ?_ _));exact BK176.out) k_ hk,Kd.freshB (g:=gb177) (o:=.cells #[.int .i64 a0_0,.string a0_1,.int .i64 x178002_2,u178003] 29 (0,0)) (by (with_reducible repeat (first|refine blk_drewN ?_ _|refine blk_drew ?_|refine blk_alloc ?_ _));exact BK177.out) k_ hk⟩))
      (case aO => exact (by (with_reducible repeat (first|apply Kd.R_alloc|apply Kd.R_drewN|apply Kd.R_drew));exact Kd.R_mono HO_178003.out (fun _ hk => ⟨hk.1.1,⟨hk.1.2.1,hk.1.2.2⟩⟩)))
      (case aS => exact (below_size (by repeat (first|(with_reducible first|exact HB.out|apply below_alloc|apply pw_below_drewN|apply below_drew1|refine below_set ?_ GE175.out|refine below_set ?_ GE176.out|refine below_set ?_ GE177.out)|exact HB.out))))
      (case aL => have:=LMc28.out;omega)
      intro v189 w34 ho hb hg hat
      rw [← Ny188.out] at ho
      have n0_:=Aside0.mk (blk_grown (g:=gb175) (o:=.cells #[.int .i64 a0_0,.string a0_1,.int .i64 a0_2,.slice (some ad181) l0_3.length c0_3] 29 (0,0)) (by (with_reducible repeat (first|refine blk_drewN ?_ _|refine blk_drew ?_|refine blk_alloc ?_ _));exact BK175.out) hg (Kd.R_away HO_178003.out (fun _ hk => hk.1.1)))
      have n1_:=Aside0.mk (blk_grown (g:=gb176) (o:=.cells #[.int .i64 0,.string (⟨#[]⟩ : ByteArray),.int .i64 0,.slice none 0 0] 29 (0,0)) (by (with_reducible repeat (first|refine blk_drewN ?_ _|refine blk_drew ?_|refine blk_alloc ?_ _));exact BK176.out) hg (Kd.R_away HO_178003.out (fun _ hk => hk.1.2.1)))
      have n2_:=Aside0.mk (blk_grown (g:=gb177) (o:=.cells #[.int .i64 a0_0,.string a0_1,.int .i64 x178002_2,u178003] 29 (0,0)) (by (with_reducible repeat (first|refine blk_drewN ?_ _|refine blk_drew ?_|refine blk_alloc ?_ _));exact BK177.out) hg (Kd.R_away HO_178003.out (fun _ hk => hk.1.2.2)))
      have n3_:=Aside0.mk (hb)
      have n4_:=Aside0.mk (ho)
      clear BK175
      clear BK176
      clear BK177
      clear HB
      clear HO_178003
      clear HO187
      have BK175:=n0_
      have BK176:=n1_
      have BK177:=n2_
      have HB:=n3_
      have HO190:=n4_
      clear n0_ n1_ n2_ n3_ n4_
      clear ho hb hg hat
      obtain ⟨Ao36,co36,eo36⟩:=Kd.R_slice HO190.out
      (first|subst eo36|(injection eo36 with f1_ f2_ f3_;have f4_:=f1_.symm;have f5_:=f3_.symm;clear f1_ f2_ f3_;subst f4_;subst f5_))
      refine hK.out _ _ ⟨(blk_cell BK177.out 0).trans rfl,(blk_cell BK177.out 1).trans rfl,(blk_cell BK177.out 2).trans rfl,(blk_cell BK177.out 3).trans rfl,(blk_cell BK175.out 0).trans rfl,(blk_cell BK175.out 1).trans rfl,(blk_cell BK175.out 2).trans rfl,(blk_cell BK175.out 3).trans rfl,((HB.out.cell (World.block_lt_of_cell? w _ hw181_0)).trans hw181_0),((HB.out.cell (World.block_lt_of_cell? w _ hw181_1)).trans hw181_1),((HB.out.cell (World.block_lt_of_cell? w _ hw181_2)).trans hw181_2),((HB.out.cell (World.block_lt_of_cell? w _ hw181_3)).trans hw181_3)⟩ (fun hHeld => ?_)
      clear hK K
      refine norm_ (a':=?_) ?_ ?_
      rotate_left
      ·show Act.put _ (some 35) _ = _
       simp only [Act.put,List.setIfInBounds_toArray,List.set_cons_zero,List.set_cons_succ,i64_w,i32_w]
       rfl
      refine pure_ (i:=11) (N:=some 36) (v:=?_) (a':=?_) #[true,true,true,true,true,true,true,true,true,true,true,true,false] rfl rfl (any_of HT_.out (by kernel_rfl)) (fun _ _ _ h => h) (Or.inl ⟨by rfl,?_⟩) ?_ ?_
      rotate_left
      ·intro w'
       go_simp
       with_reducible rfl
      rotate_left
      ·simp only [Act.put,List.setIfInBounds_toArray,List.set_cons_zero,List.set_cons_succ,i64_w,i32_w]
       rfl
      refine last_ (i:=12) (N:=none) #[true,true,true,true,true,true,true,true,true,true,true,true,true] rfl rfl (one_of HT_.out (by kernel_rfl)) (by decide) (fun K hK => ?_)
      have hs37 : w34.cell? ⟨gb177,3,none⟩ = some (u178003):=(blk_cell BK177.out 3).trans rfl
      have hfs37:=blk_frozen BK177.out 3
      have hns37_0:=NB175_177.out
      have hns37_1:=NB176_177.out
      have hms37_0:=NB177_175.out
      have hms37_1:=NB177_176.out
      refine skip_ (w1:=?_) (by rfl) rfl ?_ ?_
      rotate_left
      ·go_simp
       rfl
      refine hK.out _ _ ?_
      clear hK K
      refine done_ (done_of HT_.out (by kernel_rfl)) ?_
      try go_wp2
      go_roundg k2
      case measure => have:=HJ2.out;have:=HK2.out;omega
      case rel => exact ⟨(wrap64 (x6_2 + 1)),(y188),(.slice Ao36 y188.length co36),(by first|rfl|(simp;done)|(simp [*];done)),H',⟨by have:=HJ2.out;have:=HK2.out;omega⟩,⟨by (with_reducible repeat (first|apply Kd.R_alloc|apply Kd.R_drewN|apply Kd.R_drew));exact Kd.R_mono (Kd.R_far (p:=⟨gb177,3,none⟩) (Kd.R_mono HO190.out (fun k_ hk => (⟨hk,hk.2.2⟩ : _ ∧ k_ ≠ gb177))) (fun _ hk => hk.2) (.slice Ao36 y188.length co36)) (fun _ hk => ⟨hk.1.1,⟨hk.1.2.1,hk.1.2.2⟩⟩)⟩,⟨by (with_reducible repeat (first|refine blk_drewN ?_ _|refine blk_drew ?_|refine blk_alloc ?_ _));refine blk_far ?_ NB175_177.out _;(with_reducible repeat (first|refine blk_drewN ?_ _|refine blk_drew ?_|refine blk_alloc ?_ _));exact BK175.out⟩,⟨by (with_reducible repeat (first|refine blk_drewN ?_ _|refine blk_drew ?_|refine blk_alloc ?_ _));refine blk_far ?_ NB176_177.out _;(with_reducible repeat (first|refine blk_drewN ?_ _|refine blk_drew ?_|refine blk_alloc ?_ _));exact BK176.out⟩,⟨by (with_reducible repeat (first|refine blk_drewN ?_ _|refine blk_drew ?_|refine blk_alloc ?_ _));refine blk_put (cs:=#[.int .i64 a0_0,.string a0_1,.int .i64 x178002_2,u178003]) ?_ 3 _ rfl;(with_reducible repeat (first|refine blk_drewN ?_ _|refine blk_drew ?_|refine blk_alloc ?_ _));exact BK177.out⟩,⟨by repeat (first|(with_reducible first|exact HB.out|apply below_alloc|apply pw_below_drewN|apply below_drew1|refine below_set ?_ GE175.out|refine below_set ?_ GE176.out|refine below_set ?_ GE177.out)|exact HB.out)⟩⟩
     ·rw [if_neg c25] at H
      have c25b0 : decide (x6_2 < (l0_3.length : Int)) = false:=decide_eq_false c25
      clear c25
      simp only [Option.some.injEq,Prod.mk.injEq] at H
      obtain ⟨rfl,rfl,rfl,rfl⟩:=H
      have hnb38:=NB175_176.out
      have hnc38:=NB176_175.out
      have hnb39:=NB175_177.out
      have hnc39:=NB177_175.out
      have hcz40_0 : wr.cell? ⟨gb175,0,none⟩ = some (.int .i64 a0_0):=(blk_cell BK175.out 0).trans rfl
      have hcz40_1 : wr.cell? ⟨gb175,1,none⟩ = some (.string a0_1):=(blk_cell BK175.out 1).trans rfl
      have hcz40_2 : wr.cell? ⟨gb175,2,none⟩ = some (.int .i64 a0_2):=(blk_cell BK175.out 2).trans rfl
      have hcz40_3 : wr.cell? ⟨gb175,3,none⟩ = some (.slice A0_3 l0_3.length c0_3):=(blk_cell BK175.out 3).trans rfl
      have hfz40_0:=blk_frozen BK175.out 0
      have hfz40_1:=blk_frozen BK175.out 1
      have hfz40_2:=blk_frozen BK175.out 2
      have hfz40_3:=blk_frozen BK175.out 3
      have hnb41:=NB177_176.out
      have hnc41:=NB176_177.out
      have hcz42_0 : wr.cell? ⟨gb177,0,none⟩ = some (.int .i64 a0_0):=(blk_cell BK177.out 0).trans rfl
      have hcz42_1 : wr.cell? ⟨gb177,1,none⟩ = some (.string a0_1):=(blk_cell BK177.out 1).trans rfl
      have hcz42_2 : wr.cell? ⟨gb177,2,none⟩ = some (.int .i64 x178002_2):=(blk_cell BK177.out 2).trans rfl
      have hcz42_3 : wr.cell? ⟨gb177,3,none⟩ = some (u178003):=(blk_cell BK177.out 3).trans rfl
      have hfz42_0:=blk_frozen BK177.out 0
      have hfz42_1:=blk_frozen BK177.out 1
      have hfz42_2:=blk_frozen BK177.out 2
      have hfz42_3:=blk_frozen BK177.out 3
      have hcz43_0 : wr.cell? ⟨gb176,0,none⟩ = some (.int .i64 0):=(blk_cell BK176.out 0).trans rfl
      have hcz43_1 : wr.cell? ⟨gb176,1,none⟩ = some (.string (⟨#[]⟩ : ByteArray)):=(blk_cell BK176.out 1).trans rfl
      have hcz43_2 : wr.cell? ⟨gb176,2,none⟩ = some (.int .i64 0):=(blk_cell BK176.out 2).trans rfl
      have hcz43_3 : wr.cell? ⟨gb176,3,none⟩ = some (.slice none 0 0):=(blk_cell BK176.out 3).trans rfl
      have hfz43_0:=blk_frozen BK176.out 0
      have hfz43_1:=blk_frozen BK176.out 1
      have hfz43_2:=blk_frozen BK176.out 2
      have hfz43_3:=blk_frozen BK176.out 3
      obtain ⟨Ao44,co44,eo44⟩:=Kd.R_slice HO_178003.out
      subst eo44
      go_wp2
      refine bodyPost_ret (results_cell_row rfl _ _ gb176 29 #[.int .i64 a0_0,.string a0_1,.int .i64 x178002_2,.slice Ao44 x178003_2.length co44] (0,0) _ rfl (by (with_reducible repeat (first|refine blk_drewN ?_ _|refine blk_drew ?_|refine blk_alloc ?_ _));refine blk_put (cs:=#[.int .i64 a0_0,.string a0_1,.int .i64 x178002_2,.slice none 0 0]) ?_ 3 _ rfl;(with_reducible repeat (first|refine blk_drewN ?_ _|refine blk_drew ?_|refine blk_alloc ?_ _));refine blk_put (cs:=#[.int .i64 a0_0,.string a0_1,.int .i64 0,.slice none 0 0]) ?_ 2 _ rfl;(with_reducible repeat (first|refine blk_drewN ?_ _|refine blk_drew ?_|refine blk_alloc ?_ _));refine blk_put (cs:=#[.int .i64 a0_0,.string (⟨#[]⟩ : ByteArray),.int .i64 0,.slice none 0 0]) ?_ 1 _ rfl;(with_reducible repeat (first|refine blk_drewN ?_ _|refine blk_drew ?_|refine blk_alloc ?_ _));refine blk_put (cs:=#[.int .i64 0,.string (⟨#[]⟩ : ByteArray),.int .i64 0,.slice none 0 0]) ?_ 0 _ rfl;(with_reducible repeat (first|refine blk_drewN ?_ _|refine blk_drew ?_|refine blk_alloc ?_ _));exact BK176.out) Try.underlying29 rfl (by kernel_rfl)) rfl ?_
      exact ⟨_,by first|rfl|(simp [errW_none,errW_some] <;> rfl)|(simp [*,errW_none,errW_some] <;> rfl),by (with_reducible repeat (first|apply Kd.R_alloc|apply Kd.R_drewN|apply Kd.R_drew));exact Kd.R_mono (Kd.R_far (p:=⟨gb176,3,none⟩) (Kd.R_far (p:=⟨gb176,2,none⟩) (Kd.R_far (p:=⟨gb176,1,none⟩) (Kd.R_far (p:=⟨gb176,0,none⟩) (Kd.R_mono HO_178003.out (fun k_ hk => (⟨hk,hk.2.1⟩ : _ ∧ k_ ≠ gb176))) (fun _ hk => hk.2) (.int .i64 a0_0)) (fun _ hk => hk.2) (.string a0_1)) (fun _ hk => hk.2) (.int .i64 x178002_2)) (fun _ hk => hk.2) (.slice Ao44 x178003_2.length co44)) (fun _ hk => trivial),by repeat (first|(with_reducible first|exact HB.out|apply below_alloc|apply pw_below_drewN|apply below_drew1|refine below_set ?_ GE175.out|refine below_set ?_ GE176.out|refine below_set ?_ GE177.out)|exact HB.out)⟩

/-! ### spec_l03ShiftedRaw: function 88 -/
def spec_l03ShiftedRaw.j0 : Nat → Int → Bool → Int → ByteArray → Int → List (S29) → Option (Int × ByteArray × Int × (List (S29)))
 | 0,_,_,_,_,_,_ => none
 | k + 1,x1,x13,x192000,x192001,x192002,x192003 => if x13 = true then (some (x192000,x192001,x192002,x192003)) else ((spec_l03Shift.f k x192000 x192001 x192002 x192003 x1).bind fun bt195 => ((spec_TermOk.f k bt195.1 bt195.2.1 bt195.2.2.1 bt195.2.2.2).bind fun t202 => (if t202 = true then (some (bt195.1,bt195.2.1,bt195.2.2.1,bt195.2.2.2)) else (some (x192000,x192001,x192002,x192003)))))
def spec_l03ShiftedRaw.f (k : Nat) (a0_0 : Int) (a0_1 : ByteArray) (a0_2 : Int) (l0_3 : List (S29)) (a1 : Int) : Option (Int × ByteArray × Int × (List (S29))):=(spec_TermOk.f k a0_0 a0_1 a0_2 l0_3).bind fun t193 => (if t193 = true then ((spec_l01In.f a1 (-99999) 99999).bind fun t194 => (spec_l03ShiftedRaw.j0 k a1 (!t194) a0_0 a0_1 a0_2 l0_3)) else (spec_l03ShiftedRaw.j0 k a1 true a0_0 a0_1 a0_2 l0_3))
theorem spec_l03ShiftedRaw.mono_l : ∀ k,(∀ y0 y1 y2 y3 y4 y5,LeO (spec_l03ShiftedRaw.j0 k y0 y1 y2 y3 y4 y5) (spec_l03ShiftedRaw.j0 (k + 1) y0 y1 y2 y3 y4 y5))
 | 0 => fun _ _ _ _ _ _ r h => by simp [spec_l03ShiftedRaw.j0] at h
 | k + 1 => by
  have ih0:=spec_l03ShiftedRaw.mono_l k
  ·intro y0 y1 y2 y3 y4 y5
   unfold spec_l03ShiftedRaw.j0
   repeat' first
   | (with_reducible exact ih0 _ _ _ _ _ _)
   | (with_reducible exact spec_TermOk.mono _ _ _ _ _)
   | (with_reducible exact spec_l03Shift.mono _ _ _ _ _ _)
   | (with_reducible exact LeO.refl _)
   | (with_reducible exact LeO.none _)
   | (with_reducible refine LeO.ite ?_ ?_)
   | (with_reducible refine LeO.bind ?_ (fun _ => ?_))
   | exact ih0 _ _ _ _ _ _
   | exact spec_TermOk.mono _ _ _ _ _
   | exact spec_l03Shift.mono _ _ _ _ _ _
   | exact LeO.none _
   | refine LeO.ite ?_ ?_
   | refine LeO.bind ?_ (fun _ => ?_)
theorem spec_l03ShiftedRaw.mono : ∀ a0 a1 a2 a3 a4 k,LeO (spec_l03ShiftedRaw.f k a0 a1 a2 a3 a4) (spec_l03ShiftedRaw.f (k + 1) a0 a1 a2 a3 a4):=by
 intro a0 a1 a2 a3 a4 k
 have ih0:=spec_l03ShiftedRaw.mono_l k
 unfold spec_l03ShiftedRaw.f
 repeat' first
   | (with_reducible exact ih0 _ _ _ _ _ _)
   | (with_reducible exact spec_TermOk.mono _ _ _ _ _)
   | (with_reducible exact spec_l03Shift.mono _ _ _ _ _ _)
   | (with_reducible exact LeO.refl _)
   | (with_reducible exact LeO.none _)
   | (with_reducible refine LeO.ite ?_ ?_)
   | (with_reducible refine LeO.bind ?_ (fun _ => ?_))
   | exact ih0 _ _ _ _ _ _
   | exact spec_TermOk.mono _ _ _ _ _
   | exact spec_l03Shift.mono _ _ _ _ _ _
   | exact LeO.none _
   | refine LeO.ite ?_ ?_
   | refine LeO.bind ?_ (fun _ => ?_)
set_option maxHeartbeats 8000000 in
set_option maxRecDepth 100000 in
theorem spec_l03ShiftedRaw.calls (k : Nat) (a0_0 : Int) (a0_1 : ByteArray) (a0_2 : Int) (P0_3_ : Nat → Prop) (A0_3 : Option Addr) (c0_3 : Nat) (l0_3 : List (S29)) (a1 : Int) (r1 : Int) (r2 : ByteArray) (r3 : Int) (r4 : List (S29)) (w : World) (hs0_3 : Kd.V k29 29 w w.heap.size (fun k_ => P0_3_ k_) (.slice A0_3 l0_3.length c0_3) l0_3) (h : spec_l03ShiftedRaw.f k a0_0 a0_1 a0_2 l0_3 a1 = some (r1,r2,r3,r4)) :
  Calls Try.prog 88 #[.agg #[.int .i64 a0_0,.string a0_1,.int .i64 a0_2,.slice A0_3 l0_3.length c0_3],.int .i64 a1] w fun e w' => ∃ v3_ : Value,e = .returned (.agg #[.int .i64 r1,.string r2,.int .i64 r3,v3_]) ∧ Kd.V k29 29 w' w.heap.size (fun k_ => (P0_3_ k_ ∨ w.heap.size ≤ k_)) v3_ r4 ∧ Below w.heap.size w w':=by
 have hu29:=Try.underlying29
 have HO0_3:=Aside0.mk (show Kd.V k29 29 w w.heap.size (fun k_ => (P0_3_ k_ ∨ w.heap.size ≤ k_)) (.slice A0_3 l0_3.length c0_3) l0_3 from Kd.V_mono hs0_3 (fun k_ hk => .inl hk))
 have HB:=Aside0.mk (Below.refl w.heap.size w)
 have H : ((spec_TermOk.f k a0_0 a0_1 a0_2 l0_3).bind fun t193 => (if t193 = true then ((spec_l01In.f a1 (-99999) 99999).bind fun t194 => (spec_l03ShiftedRaw.j0 k a1 (!t194) a0_0 a0_1 a0_2 l0_3)) else (spec_l03ShiftedRaw.j0 k a1 true a0_0 a0_1 a0_2 l0_3))) = some (r1,r2,r3,r4):=h
 clear h
 have HC3:=Aside0.mk H
 clear H
 go_enter Try.func88,Try.ntmps88
 go_upto_region 1 with (first|((with_reducible refine gate_dst (N:=2) rfl ?_);refine box_event ?hg (N:=2) ?hd (cs:=#[.int .i64 a0_0,.string a0_1,.int .i64 a0_2,.slice A0_3 l0_3.length c0_3]) (t:=29) ?hr ?_;(case hd => rfl);(case hg => rfl);(case hr => first|(go_simp;done)|(go_simp;rfl));intro gb191 hg w4 hbox hb;have n0_:=Aside0.mk (Kd.V_below (Kd.V_elderB (by (with_reducible repeat (first|apply Kd.V_alloc|apply Kd.V_drewN|apply Kd.V_drew));exact HO0_3.out) gb191 (Nat.le_of_eq hg.symm)) hb);have n1_:=Aside0.mk (below_step (by repeat (first|(with_reducible first|exact HB.out|apply below_alloc|apply pw_below_drewN|apply below_drew1)|exact HB.out)) hb);have n2_:=Aside0.mk (hbox);have n3_:=Aside0.mk ((by rw [hg];exact (below_size (by repeat (first|(with_reducible first|exact HB.out|apply below_alloc|apply pw_below_drewN|apply below_drew1)|exact HB.out))) : w.heap.size ≤ gb191));have n4_:=Aside0.mk ((by rw [hg];exact (below_size (by repeat (first|(with_reducible first|exact HB.out|apply below_alloc|apply pw_below_drewN|apply below_drew1)|exact HB.out))) : w.heap.size ≤ gb191));clear HO0_3;clear HB;have HO0_3:=n0_;have HB:=n1_;have BK191:=n2_;have GW191:=n3_;have GE191:=n4_;clear n0_ n1_ n2_ n3_ n4_;clear hb hbox hg)|((with_reducible refine gate_dst (N:=4) rfl ?_);refine box_event ?hg (N:=4) ?hd (cs:=#[.int .i64 0,.string (⟨#[]⟩ : ByteArray),.int .i64 0,.slice none 0 0]) (t:=29) ?hr ?_;(case hd => rfl);(case hg => rfl);(case hr => first|(go_simp;done)|(go_simp;rfl));intro gb192 hg w5 hbox hb;have n0_:=Aside0.mk (Kd.V_below (Kd.V_elderB (by (with_reducible repeat (first|apply Kd.V_alloc|apply Kd.V_drewN|apply Kd.V_drew));exact HO0_3.out) gb192 (Nat.le_of_eq hg.symm)) hb);have n1_:=Aside0.mk (blk_below (g:=gb191) (o:=.cells #[.int .i64 a0_0,.string a0_1,.int .i64 a0_2,.slice A0_3 l0_3.length c0_3] 29 (0,0)) (by (with_reducible repeat (first|refine blk_drewN ?_ _|refine blk_drew ?_|refine blk_alloc ?_ _));exact BK191.out) hb);have n2_:=Aside0.mk (below_step (by repeat (first|(with_reducible first|exact HB.out|apply below_alloc|apply pw_below_drewN|apply below_drew1|refine below_set ?_ GE191.out)|exact HB.out)) hb);have n3_:=Aside0.mk (hbox);have n4_:=Aside0.mk ((by rw [hg];exact (below_size (by repeat (first|(with_reducible first|exact HB.out|apply below_alloc|apply pw_below_drewN|apply below_drew1|refine below_set ?_ GE191.out)|exact HB.out))) : w.heap.size ≤ gb192));have n5_:=Aside0.mk ((by rw [hg];exact (below_size (by repeat (first|(with_reducible first|exact HB.out|apply below_alloc|apply pw_below_drewN|apply below_drew1|refine below_set ?_ GE191.out)|exact HB.out))) : w.heap.size ≤ gb192));have n6_:=Aside0.mk ((by rw [hg];exact Nat.ne_of_lt (blk_lt (g:=gb191) (o:=.cells #[.int .i64 a0_0,.string a0_1,.int .i64 a0_2,.slice A0_3 l0_3.length c0_3] 29 (0,0)) (by (with_reducible repeat (first|refine blk_drewN ?_ _|refine blk_drew ?_|refine blk_alloc ?_ _));exact BK191.out)) : gb191 ≠ gb192));have n7_:=Aside0.mk ((by rw [hg];exact Nat.ne_of_gt (blk_lt (g:=gb191) (o:=.cells #[.int .i64 a0_0,.string a0_1,.int .i64 a0_2,.slice A0_3 l0_3.length c0_3] 29 (0,0)) (by (with_reducible repeat (first|refine blk_drewN ?_ _|refine blk_drew ?_|refine blk_alloc ?_ _));exact BK191.out)) : gb192 ≠ gb191));clear HO0_3;clear BK191;clear HB;have HO0_3:=n0_;have BK191:=n1_;have HB:=n2_;have BK192:=n3_;have GW192:=n4_;have GE192:=n5_;have NB191_192:=n6_;have NB192_191:=n7_;clear n0_ n1_ n2_ n3_ n4_ n5_ n6_ n7_;clear hb hbox hg))
 (try simp only [Act.put,List.setIfInBounds_toArray,List.set_cons_zero,List.set_cons_succ])
 go_cut [13] (fun v13 wc => ∃ (kq : Nat) (x13_2 : Bool),v13 = .bool x13_2 ∧ Aside0 (spec_l03ShiftedRaw.j0 kq a1 x13_2 a0_0 a0_1 a0_2 l0_3 = some (r1,r2,r3,r4)) ∧ Aside0 (kq ≤ k) ∧ Aside0 (Kd.V k29 29 wc w.heap.size (fun k_ => (P0_3_ k_ ∨ w.heap.size ≤ k_) ∧ k_ ≠ gb191 ∧ k_ ≠ gb192) (.slice A0_3 l0_3.length c0_3) l0_3) ∧ Aside0 (wc.heap[gb191]? = some (.cells #[.int .i64 a0_0,.string a0_1,.int .i64 a0_2,(.slice A0_3 l0_3.length c0_3)] 29 (0,0))) ∧ Aside0 (wc.heap[gb192]? = some (.cells #[.int .i64 0,.string (⟨#[]⟩ : ByteArray),.int .i64 0,(.slice none 0 0)] 29 (0,0))) ∧ Aside0 (Below w.heap.size w wc))
 case first =>
  have H:=HC3.out
  clear HC3
  replace H:=Option.bind_eq_some_iff.mp H
  obtain ⟨t193,A60,H⟩:=H
  replace H : (if t193 = true then ((spec_l01In.f a1 (-99999) 99999).bind fun t194 => (spec_l03ShiftedRaw.j0 k a1 (!t194) a0_0 a0_1 a0_2 l0_3)) else (spec_l03ShiftedRaw.j0 k a1 true a0_0 a0_1 a0_2 l0_3)) = some (r1,r2,r3,r4):=H
  have A6:=Aside0.mk A60
  clear A60
  by_cases c7 : t193 = true
  ·subst c7
   have H1 : ((spec_l01In.f a1 (-99999) 99999).bind fun t194 => (spec_l03ShiftedRaw.j0 k a1 (!t194) a0_0 a0_1 a0_2 l0_3)) = some (r1,r2,r3,r4):=by rw [if_pos rfl] at H;exact H
   clear H
   have H:=H1
   clear H1
   replace H:=Option.bind_eq_some_iff.mp H
   obtain ⟨t194,A80,H⟩:=H
   replace H : (spec_l03ShiftedRaw.j0 k a1 (!t194) a0_0 a0_1 a0_2 l0_3) = some (r1,r2,r3,r4):=H
   have A8:=Aside0.mk A80
   clear A80
   have H':=Aside0.mk H
   clear H
   have hnb9:=NB191_192.out
   have hnc9:=NB192_191.out
   have hcz10_0 : w5.cell? ⟨gb191,0,none⟩ = some (.int .i64 a0_0):=(blk_cell BK191.out 0).trans rfl
   have hcz10_1 : w5.cell? ⟨gb191,1,none⟩ = some (.string a0_1):=(blk_cell BK191.out 1).trans rfl
   have hcz10_2 : w5.cell? ⟨gb191,2,none⟩ = some (.int .i64 a0_2):=(blk_cell BK191.out 2).trans rfl
   have hcz10_3 : w5.cell? ⟨gb191,3,none⟩ = some (.slice A0_3 l0_3.length c0_3):=(blk_cell BK191.out 3).trans rfl
   have hfz10_0:=blk_frozen BK191.out 0
   have hfz10_1:=blk_frozen BK191.out 1
   have hfz10_2:=blk_frozen BK191.out 2
   have hfz10_3:=blk_frozen BK191.out 3
   go_wp2_with (first|((with_reducible refine gate_callee (f:=31) rfl ?_);refine goesL_ (some 7) rfl rfl Try.func31 (by kernel_rfl) rfl #[.agg #[.int .i64 a0_0,.string a0_1,.int .i64 a0_2,.slice A0_3 l0_3.length c0_3]] rfl (by (try simp only [List.map_toArray,List.map_cons,List.map_nil]);first|done|rfl|(simp only [List.length_drop,List.length_take];rfl)) ?_;(with_reducible refine (spec_TermOk.calls k a0_0 a0_1 a0_2 _ _ l0_3 true _ ?side1 ?side2 A6.out).mono ?_);(case side1 => repeat (first|exact (Kd.V_reads' HO0_3.out).2.2|(with_reducible refine Kd.C_alloc ?_ _)|(with_reducible refine Kd.C_drewN ?_ _)|(with_reducible refine Kd.C_drew ?_)));(case side2 => exact (Kd.V_reads' HO0_3.out).2.1);rintro e w11 ⟨rfl,hb⟩;refine ⟨_,rfl,?_⟩;have n0_:=Aside0.mk (Kd.V_below (by (with_reducible repeat (first|apply Kd.V_alloc|apply Kd.V_drewN|apply Kd.V_drew));exact HO0_3.out) hb);have n1_:=Aside0.mk (blk_below (g:=gb191) (o:=.cells #[.int .i64 a0_0,.string a0_1,.int .i64 a0_2,.slice A0_3 l0_3.length c0_3] 29 (0,0)) (by (with_reducible repeat (first|refine blk_drewN ?_ _|refine blk_drew ?_|refine blk_alloc ?_ _));exact BK191.out) hb);have n2_:=Aside0.mk (blk_below (g:=gb192) (o:=.cells #[.int .i64 0,.string (⟨#[]⟩ : ByteArray),.int .i64 0,.slice none 0 0] 29 (0,0)) (by (with_reducible repeat (first|refine blk_drewN ?_ _|refine blk_drew ?_|refine blk_alloc ?_ _));exact BK192.out) hb);have n3_:=Aside0.mk (below_step (by repeat (first|(with_reducible first|exact HB.out|apply below_alloc|apply pw_below_drewN|apply below_drew1|refine below_set ?_ GE191.out|refine below_set ?_ GE192.out)|exact HB.out)) hb);clear HO0_3;clear BK191;clear BK192;clear HB;have HO0_3:=n0_;have BK191:=n1_;have BK192:=n2_;have HB:=n3_;clear n0_ n1_ n2_ n3_;(try clear hb))|(go_at_call 106;(with_reducible refine (spec_l01In.calls a1 (-99999) 99999 t194 _ A8.out).mono ?_);rintro e w' ⟨rfl,⟨nd,rfl⟩⟩))
   go_meet
   case rel => exact ⟨_,(!t194),(by first|rfl|(simp;done)|(simp [*];done)),H',⟨by first|omega|exact Nat.le_refl _⟩,⟨by (with_reducible repeat (first|apply Kd.V_alloc|apply Kd.V_drewN|apply Kd.V_drew));exact Kd.V_mono HO0_3.out (fun _ hk => ⟨hk.1.1,⟨hk.1.2,hk.2⟩⟩)⟩,⟨by (with_reducible repeat (first|refine blk_drewN ?_ _|refine blk_drew ?_|refine blk_alloc ?_ _));exact BK191.out⟩,⟨by (with_reducible repeat (first|refine blk_drewN ?_ _|refine blk_drew ?_|refine blk_alloc ?_ _));exact BK192.out⟩,⟨by repeat (first|(with_reducible first|exact HB.out|apply below_alloc|apply pw_below_drewN|apply below_drew1|refine below_set ?_ GE191.out|refine below_set ?_ GE192.out)|exact HB.out)⟩⟩
  ·replace c7:=Bool.eq_false_iff.mpr c7
   subst c7
   have H1 : (spec_l03ShiftedRaw.j0 k a1 true a0_0 a0_1 a0_2 l0_3) = some (r1,r2,r3,r4):=by rw [if_neg (show ¬ (false = true) by decide)] at H;exact H
   clear H
   have H:=H1
   clear H1
   have H':=Aside0.mk H
   clear H
   have hnb12:=NB191_192.out
   have hnc12:=NB192_191.out
   have hcz13_0 : w5.cell? ⟨gb191,0,none⟩ = some (.int .i64 a0_0):=(blk_cell BK191.out 0).trans rfl
   have hcz13_1 : w5.cell? ⟨gb191,1,none⟩ = some (.string a0_1):=(blk_cell BK191.out 1).trans rfl
   have hcz13_2 : w5.cell? ⟨gb191,2,none⟩ = some (.int .i64 a0_2):=(blk_cell BK191.out 2).trans rfl
   have hcz13_3 : w5.cell? ⟨gb191,3,none⟩ = some (.slice A0_3 l0_3.length c0_3):=(blk_cell BK191.out 3).trans rfl
   have hfz13_0:=blk_frozen BK191.out 0
   have hfz13_1:=blk_frozen BK191.out 1
   have hfz13_2:=blk_frozen BK191.out 2
   have hfz13_3:=blk_frozen BK191.out 3
   go_wp2_with (first|((with_reducible refine gate_callee (f:=31) rfl ?_);refine goesL_ (some 7) rfl rfl Try.func31 (by kernel_rfl) rfl #[.agg #[.int .i64 a0_0,.string a0_1,.int .i64 a0_2,.slice A0_3 l0_3.length c0_3]] rfl (by (try simp only [List.map_toArray,List.map_cons,List.map_nil]);first|done|rfl|(simp only [List.length_drop,List.length_take];rfl)) ?_;(with_reducible refine (spec_TermOk.calls k a0_0 a0_1 a0_2 _ _ l0_3 false _ ?side1 ?side2 A6.out).mono ?_);(case side1 => repeat (first|exact (Kd.V_reads' HO0_3.out).2.2|(with_reducible refine Kd.C_alloc ?_ _)|(with_reducible refine Kd.C_drewN ?_ _)|(with_reducible refine Kd.C_drew ?_)));(case side2 => exact (Kd.V_reads' HO0_3.out).2.1);rintro e w14 ⟨rfl,hb⟩;refine ⟨_,rfl,?_⟩;have n0_:=Aside0.mk (Kd.V_below (by (with_reducible repeat (first|apply Kd.V_alloc|apply Kd.V_drewN|apply Kd.V_drew));exact HO0_3.out) hb);have n1_:=Aside0.mk (blk_below (g:=gb191) (o:=.cells #[.int .i64 a0_0,.string a0_1,.int .i64 a0_2,.slice A0_3 l0_3.length c0_3] 29 (0,0)) (by (with_reducible repeat (first|refine blk_drewN ?_ _|refine blk_drew ?_|refine blk_alloc ?_ _));exact BK191.out) hb);have n2_:=Aside0.mk (blk_below (g:=gb192) (o:=.cells #[.int .i64 0,.string (⟨#[]⟩ : ByteArray),.int .i64 0,.slice none 0 0] 29 (0,0)) (by (with_reducible repeat (first|refine blk_drewN ?_ _|refine blk_drew ?_|refine blk_alloc ?_ _));exact BK192.out) hb);have n3_:=Aside0.mk (below_step (by repeat (first|(with_reducible first|exact HB.out|apply below_alloc|apply pw_below_drewN|apply below_drew1|refine below_set ?_ GE191.out|refine below_set ?_ GE192.out)|exact HB.out)) hb);clear HO0_3;clear BK191;clear BK192;clear HB;have HO0_3:=n0_;have BK191:=n1_;have BK192:=n2_;have HB:=n3_;clear n0_ n1_ n2_ n3_;(try clear hb)))
   go_meet
   case rel => exact ⟨_,(true),(by first|rfl|(simp;done)|(simp [*];done)),H',⟨by first|omega|exact Nat.le_refl _⟩,⟨by (with_reducible repeat (first|apply Kd.V_alloc|apply Kd.V_drewN|apply Kd.V_drew));exact Kd.V_mono HO0_3.out (fun _ hk => ⟨hk.1.1,⟨hk.1.2,hk.2⟩⟩)⟩,⟨by (with_reducible repeat (first|refine blk_drewN ?_ _|refine blk_drew ?_|refine blk_alloc ?_ _));exact BK191.out⟩,⟨by (with_reducible repeat (first|refine blk_drewN ?_ _|refine blk_drew ?_|refine blk_alloc ?_ _));exact BK192.out⟩,⟨by repeat (first|(with_reducible first|exact HB.out|apply below_alloc|apply pw_below_drewN|apply below_drew1|refine below_set ?_ GE191.out|refine below_set ?_ GE192.out)|exact HB.out)⟩⟩
 case rest =>
  clear HC3
  try clear c7
  try clear hcz10_0
  try clear hcz10_1
  try clear hcz10_2
  try clear hcz10_3
  try clear hcz13_0
  try clear hcz13_1
  try clear hcz13_2
  try clear hcz13_3
  try clear hfz10_0
  try clear hfz10_1
  try clear hfz10_2
  try clear hfz10_3
  try clear hfz13_0
  try clear hfz13_1
  try clear hfz13_2
  try clear hfz13_3
  try clear BK191
  try clear BK192
  obtain ⟨kq,x13_2,rfl,HA,HJ2,HO_192003,BK191,BK192,HB⟩:=hcut
  cases kq with
  | zero => exact absurd HA.out (by simp [spec_l03ShiftedRaw.j0])
  | succ kj2 =>
   have H:=HA.out
   clear HA
   simp only [spec_l03ShiftedRaw.j0] at H
   by_cases c15 : x13_2 = true
   ·subst c15
    have H1 : (some (a0_0,a0_1,a0_2,l0_3)) = some (r1,r2,r3,r4):=by rw [if_pos rfl] at H;exact H
    clear H
    have H:=H1
    clear H1
    simp only [Option.some.injEq,Prod.mk.injEq] at H
    obtain ⟨rfl,rfl,rfl,rfl⟩:=H
    have hnb16:=NB191_192.out
    have hnc16:=NB192_191.out
    have hcz17_0 : wc.cell? ⟨gb191,0,none⟩ = some (.int .i64 a0_0):=(blk_cell BK191.out 0).trans rfl
    have hcz17_1 : wc.cell? ⟨gb191,1,none⟩ = some (.string a0_1):=(blk_cell BK191.out 1).trans rfl
    have hcz17_2 : wc.cell? ⟨gb191,2,none⟩ = some (.int .i64 a0_2):=(blk_cell BK191.out 2).trans rfl
    have hcz17_3 : wc.cell? ⟨gb191,3,none⟩ = some (.slice A0_3 l0_3.length c0_3):=(blk_cell BK191.out 3).trans rfl
    have hfz17_0:=blk_frozen BK191.out 0
    have hfz17_1:=blk_frozen BK191.out 1
    have hfz17_2:=blk_frozen BK191.out 2
    have hfz17_3:=blk_frozen BK191.out 3
    have hcz18_0 : wc.cell? ⟨gb192,0,none⟩ = some (.int .i64 0):=(blk_cell BK192.out 0).trans rfl
    have hcz18_1 : wc.cell? ⟨gb192,1,none⟩ = some (.string (⟨#[]⟩ : ByteArray)):=(blk_cell BK192.out 1).trans rfl
    have hcz18_2 : wc.cell? ⟨gb192,2,none⟩ = some (.int .i64 0):=(blk_cell BK192.out 2).trans rfl
    have hcz18_3 : wc.cell? ⟨gb192,3,none⟩ = some (.slice none 0 0):=(blk_cell BK192.out 3).trans rfl
    have hfz18_0:=blk_frozen BK192.out 0
    have hfz18_1:=blk_frozen BK192.out 1
    have hfz18_2:=blk_frozen BK192.out 2
    have hfz18_3:=blk_frozen BK192.out 3
    go_wp2
    refine bodyPost_ret (results_cell_row rfl _ _ gb192 29 #[.int .i64 a0_0,.string a0_1,.int .i64 a0_2,.slice A0_3 l0_3.length c0_3] (0,0) _ rfl (by (with_reducible repeat (first|refine blk_drewN ?_ _|refine blk_drew ?_|refine blk_alloc ?_ _));refine blk_put (cs:=#[.int .i64 a0_0,.string a0_1,.int .i64 a0_2,.slice none 0 0]) ?_ 3 _ rfl;(with_reducible repeat (first|refine blk_drewN ?_ _|refine blk_drew ?_|refine blk_alloc ?_ _));refine blk_put (cs:=#[.int .i64 a0_0,.string a0_1,.int .i64 0,.slice none 0 0]) ?_ 2 _ rfl;(with_reducible repeat (first|refine blk_drewN ?_ _|refine blk_drew ?_|refine blk_alloc ?_ _));refine blk_put (cs:=#[.int .i64 a0_0,.string (⟨#[]⟩ : ByteArray),.int .i64 0,.slice none 0 0]) ?_ 1 _ rfl;(with_reducible repeat (first|refine blk_drewN ?_ _|refine blk_drew ?_|refine blk_alloc ?_ _));refine blk_put (cs:=#[.int .i64 0,.string (⟨#[]⟩ : ByteArray),.int .i64 0,.slice none 0 0]) ?_ 0 _ rfl;(with_reducible repeat (first|refine blk_drewN ?_ _|refine blk_drew ?_|refine blk_alloc ?_ _));exact BK192.out) Try.underlying29 rfl (by kernel_rfl)) rfl ?_
    exact ⟨_,by first|rfl|(simp [errW_none,errW_some] <;> rfl)|(simp [*,errW_none,errW_some] <;> rfl),by (with_reducible repeat (first|apply Kd.V_alloc|apply Kd.V_drewN|apply Kd.V_drew));exact Kd.V_mono (Kd.V_far (p:=⟨gb192,3,none⟩) (Kd.V_far (p:=⟨gb192,2,none⟩) (Kd.V_far (p:=⟨gb192,1,none⟩) (Kd.V_far (p:=⟨gb192,0,none⟩) (Kd.V_mono HO_192003.out (fun k_ hk => (⟨hk,hk.2.2⟩ : _ ∧ k_ ≠ gb192))) (fun _ hk => hk.2) (.int .i64 a0_0)) (fun _ hk => hk.2) (.string a0_1)) (fun _ hk => hk.2) (.int .i64 a0_2)) (fun _ hk => hk.2) (.slice A0_3 l0_3.length c0_3)) (fun _ hk => hk.1.1),by repeat (first|(with_reducible first|exact HB.out|apply below_alloc|apply pw_below_drewN|apply below_drew1|refine below_set ?_ GE191.out|refine below_set ?_ GE192.out)|exact HB.out)⟩
   ·replace c15:=Bool.eq_false_iff.mpr c15
    subst c15
    have H1 : ((spec_l03Shift.f kj2 a0_0 a0_1 a0_2 l0_3 a1).bind fun bt195 => ((spec_TermOk.f kj2 bt195.1 bt195.2.1 bt195.2.2.1 bt195.2.2.2).bind fun t202 => (if t202 = true then (some (bt195.1,bt195.2.1,bt195.2.2.1,bt195.2.2.2)) else (some (a0_0,a0_1,a0_2,l0_3))))) = some (r1,r2,r3,r4):=by rw [if_neg (show ¬ (false = true) by decide)] at H;exact H
    clear H
    have H:=H1
    clear H1
    replace H:=Option.bind_eq_some_iff.mp H
    obtain ⟨⟨t195,t196,t197,t198⟩,A190,H⟩:=H
    replace H : ((spec_TermOk.f kj2 t195 t196 t197 t198).bind fun t202 => (if t202 = true then (some (t195,t196,t197,t198)) else (some (a0_0,a0_1,a0_2,l0_3)))) = some (r1,r2,r3,r4):=H
    have A19:=Aside0.mk A190
    clear A190
    replace H:=Option.bind_eq_some_iff.mp H
    obtain ⟨t202,A200,H⟩:=H
    replace H : (if t202 = true then (some (t195,t196,t197,t198)) else (some (a0_0,a0_1,a0_2,l0_3))) = some (r1,r2,r3,r4):=H
    have A20:=Aside0.mk A200
    clear A200
    by_cases c21 : t202 = true
    ·subst c21
     have H1 : (some (t195,t196,t197,t198)) = some (r1,r2,r3,r4):=by rw [if_pos rfl] at H;exact H
     clear H
     have H:=H1
     clear H1
     simp only [Option.some.injEq,Prod.mk.injEq] at H
     obtain ⟨rfl,rfl,rfl,rfl⟩:=H
     have hnb22:=NB191_192.out
     have hnc22:=NB192_191.out
     have hcz23_0 : wc.cell? ⟨gb191,0,none⟩ = some (.int .i64 a0_0):=(blk_cell BK191.out 0).trans rfl
     have hcz23_1 : wc.cell? ⟨gb191,1,none⟩ = some (.string a0_1):=(blk_cell BK191.out 1).trans rfl
     have hcz23_2 : wc.cell? ⟨gb191,2,none⟩ = some (.int .i64 a0_2):=(blk_cell BK191.out 2).trans rfl
     have hcz23_3 : wc.cell? ⟨gb191,3,none⟩ = some (.slice A0_3 l0_3.length c0_3):=(blk_cell BK191.out 3).trans rfl
     have hfz23_0:=blk_frozen BK191.out 0
     have hfz23_1:=blk_frozen BK191.out 1
     have hfz23_2:=blk_frozen BK191.out 2
     have hfz23_3:=blk_frozen BK191.out 3
     go_wp2_with (first|((with_reducible refine gate_callee (f:=122) rfl ?_);refine goesL_ (some 17) rfl rfl Try.func122 (by kernel_rfl) rfl #[.agg #[.int .i64 a0_0,.string a0_1,.int .i64 a0_2,.slice A0_3 l0_3.length c0_3],.int .i64 a1] rfl (by (try simp only [List.map_toArray,List.map_cons,List.map_nil]);first|done|rfl|(simp only [List.length_drop,List.length_take];rfl)) ?_;(with_reducible refine (spec_l03Shift.calls kj2 a0_0 a0_1 a0_2 _ _ l0_3 a1 t195 t196 t197 t198 _ ?side1 ?side2 A19.out).mono ?_);(case side1 => repeat (first|exact (Kd.V_reads' HO_192003.out).2.2|(with_reducible refine Kd.C_alloc ?_ _)|(with_reducible refine Kd.C_drewN ?_ _)|(with_reducible refine Kd.C_drew ?_)));(case side2 => exact (Kd.V_reads' HO_192003.out).2.1);rintro e w24 ⟨v199,rfl,ho0,hb⟩;refine ⟨_,rfl,?_⟩;have n0_:=Aside0.mk (Kd.V_elder' (by (with_reducible repeat (first|apply Kd.V_alloc|apply Kd.V_drewN|apply Kd.V_drew));exact HO_192003.out) (Kd.R_base ho0) hb);have n1_:=Aside0.mk (Kd.R_lower (Kd.R_newB (Kd.R_newB (Kd.R_newM (M:=fun k_ => (w.heap.size ≤ k_)) ho0 (below_size (by repeat (first|(with_reducible first|exact HB.out|apply below_alloc|apply pw_below_drewN|apply below_drew1|refine below_set ?_ GE191.out|refine below_set ?_ GE192.out)|exact HB.out))) (fun k_ h_ => h_)) (g:=gb191) (o:=.cells #[.int .i64 a0_0,.string a0_1,.int .i64 a0_2,.slice A0_3 l0_3.length c0_3] 29 (0,0)) (by (with_reducible repeat (first|refine blk_drewN ?_ _|refine blk_drew ?_|refine blk_alloc ?_ _));exact BK191.out)) (g:=gb192) (o:=.cells #[.int .i64 0,.string (⟨#[]⟩ : ByteArray),.int .i64 0,.slice none 0 0] 29 (0,0)) (by (with_reducible repeat (first|refine blk_drewN ?_ _|refine blk_drew ?_|refine blk_alloc ?_ _));exact BK192.out)) (below_size (by repeat (first|(with_reducible first|exact HB.out|apply below_alloc|apply pw_below_drewN|apply below_drew1|refine below_set ?_ GE191.out|refine below_set ?_ GE192.out)|exact HB.out))));have n2_:=Aside0.mk (blk_below (g:=gb191) (o:=.cells #[.int .i64 a0_0,.string a0_1,.int .i64 a0_2,.slice A0_3 l0_3.length c0_3] 29 (0,0)) (by (with_reducible repeat (first|refine blk_drewN ?_ _|refine blk_drew ?_|refine blk_alloc ?_ _));exact BK191.out) hb);have n3_:=Aside0.mk (blk_below (g:=gb192) (o:=.cells #[.int .i64 0,.string (⟨#[]⟩ : ByteArray),.int .i64 0,.slice none 0 0] 29 (0,0)) (by (with_reducible repeat (first|refine blk_drewN ?_ _|refine blk_drew ?_|refine blk_alloc ?_ _));exact BK192.out) hb);have n4_:=Aside0.mk (below_step (by repeat (first|(with_reducible first|exact HB.out|apply below_alloc|apply pw_below_drewN|apply below_drew1|refine below_set ?_ GE191.out|refine below_set ?_ GE192.out)|exact HB.out)) hb);clear HO_192003;clear BK191;clear BK192;clear HB;have HO_192003:=n0_;have HO200:=n1_;have BK191:=n2_;have BK192:=n3_;have HB:=n4_;clear n0_ n1_ n2_ n3_ n4_;(try clear hb);(try clear hb2);(try clear hk);(try clear hi);(try clear ho0))|((with_reducible refine gate_dst (N:=5) rfl ?_);refine box_event ?hg (N:=5) ?hd (cs:=#[.int .i64 0,.string (⟨#[]⟩ : ByteArray),.int .i64 0,.slice none 0 0]) (t:=29) ?hr ?_;(case hd => rfl);(case hg => rfl);(case hr => first|(go_simp;done)|(go_simp;rfl));intro gb201 hg w25 hbox hb;have n0_:=Aside0.mk (Kd.V_below (Kd.V_elderB (by (with_reducible repeat (first|apply Kd.V_alloc|apply Kd.V_drewN|apply Kd.V_drew));exact HO_192003.out) gb201 (Nat.le_of_eq hg.symm)) hb);have n1_:=Aside0.mk (Kd.R_below (Kd.R_elderB (by (with_reducible repeat (first|apply Kd.R_alloc|apply Kd.R_drewN|apply Kd.R_drew));exact HO200.out) gb201 (Nat.le_of_eq hg.symm)) hb);have n2_:=Aside0.mk (blk_below (g:=gb191) (o:=.cells #[.int .i64 a0_0,.string a0_1,.int .i64 a0_2,.slice A0_3 l0_3.length c0_3] 29 (0,0)) (by (with_reducible repeat (first|refine blk_drewN ?_ _|refine blk_drew ?_|refine blk_alloc ?_ _));exact BK191.out) hb);have n3_:=Aside0.mk (blk_below (g:=gb192) (o:=.cells #[.int .i64 0,.string (⟨#[]⟩ : ByteArray),.int .i64 0,.slice none 0 0] 29 (0,0)) (by (with_reducible repeat (first|refine blk_drewN ?_ _|refine blk_drew ?_|refine blk_alloc ?_ _));exact BK192.out) hb);have n4_:=Aside0.mk (below_step (by repeat (first|(with_reducible first|exact HB.out|apply below_alloc|apply pw_below_drewN|apply below_drew1|refine below_set ?_ GE191.out|refine below_set ?_ GE192.out)|exact HB.out)) hb);have n5_:=Aside0.mk (hbox);have n6_:=Aside0.mk ((by rw [hg];exact (below_size (by repeat (first|(with_reducible first|exact HB.out|apply below_alloc|apply pw_below_drewN|apply below_drew1|refine below_set ?_ GE191.out|refine below_set ?_ GE192.out)|exact HB.out))) : w.heap.size ≤ gb201));have n7_:=Aside0.mk ((by rw [hg];exact (below_size (by repeat (first|(with_reducible first|exact HB.out|apply below_alloc|apply pw_below_drewN|apply below_drew1|refine below_set ?_ GE191.out|refine below_set ?_ GE192.out)|exact HB.out))) : w.heap.size ≤ gb201));have n8_:=Aside0.mk ((by rw [hg];exact Nat.ne_of_lt (blk_lt (g:=gb191) (o:=.cells #[.int .i64 a0_0,.string a0_1,.int .i64 a0_2,.slice A0_3 l0_3.length c0_3] 29 (0,0)) (by (with_reducible repeat (first|refine blk_drewN ?_ _|refine blk_drew ?_|refine blk_alloc ?_ _));exact BK191.out)) : gb191 ≠ gb201));have n9_:=Aside0.mk ((by rw [hg];exact Nat.ne_of_gt (blk_lt (g:=gb191) (o:=.cells #[.int .i64 a0_0,.string a0_1,.int .i64 a0_2,.slice A0_3 l0_3.length c0_3] 29 (0,0)) (by (with_reducible repeat (first|refine blk_drewN ?_ _|refine blk_drew ?_|refine blk_alloc ?_ _));exact BK191.out)) : gb201 ≠ gb191));have n10_:=Aside0.mk ((by rw [hg];exact Nat.ne_of_lt (blk_lt (g:=gb192) (o:=.cells #[.int .i64 0,.string (⟨#[]⟩ : ByteArray),.int .i64 0,.slice none 0 0] 29 (0,0)) (by (with_reducible repeat (first|refine blk_drewN ?_ _|refine blk_drew ?_|refine blk_alloc ?_ _));exact BK192.out)) : gb192 ≠ gb201));have n11_:=Aside0.mk ((by rw [hg];exact Nat.ne_of_gt (blk_lt (g:=gb192) (o:=.cells #[.int .i64 0,.string (⟨#[]⟩ : ByteArray),.int .i64 0,.slice none 0 0] 29 (0,0)) (by (with_reducible repeat (first|refine blk_drewN ?_ _|refine blk_drew ?_|refine blk_alloc ?_ _));exact BK192.out)) : gb201 ≠ gb192));clear HO_192003;clear HO200;clear BK191;clear BK192;clear HB;have HO_192003:=n0_;have HO200:=n1_;have BK191:=n2_;have BK192:=n3_;have HB:=n4_;have BK201:=n5_;have GW201:=n6_;have GE201:=n7_;have NB191_201:=n8_;have NB201_191:=n9_;have NB192_201:=n10_;have NB201_192:=n11_;clear n0_ n1_ n2_ n3_ n4_ n5_ n6_ n7_ n8_ n9_ n10_ n11_;clear hb hbox hg;have hnb26:=NB201_191.out;have hnc26:=NB191_201.out;have hnb27:=NB201_192.out;have hnc27:=NB192_201.out;have hcz28_0 : w25.cell? ⟨gb201,0,none⟩ = some (.int .i64 0):=(blk_cell BK201.out 0).trans rfl;have hcz28_1 : w25.cell? ⟨gb201,1,none⟩ = some (.string (⟨#[]⟩ : ByteArray)):=(blk_cell BK201.out 1).trans rfl;have hcz28_2 : w25.cell? ⟨gb201,2,none⟩ = some (.int .i64 0):=(blk_cell BK201.out 2).trans rfl;have hcz28_3 : w25.cell? ⟨gb201,3,none⟩ = some (.slice none 0 0):=(blk_cell BK201.out 3).trans rfl;have hfz28_0:=blk_frozen BK201.out 0;have hfz28_1:=blk_frozen BK201.out 1;have hfz28_2:=blk_frozen BK201.out 2;have hfz28_3:=blk_frozen BK201.out 3;obtain ⟨Ao29,co29,eo29⟩:=Kd.R_slice HO200.out;subst eo29)|((with_reducible refine gate_callee (f:=31) rfl ?_);refine goesL_ (some 19) rfl rfl Try.func31 (by kernel_rfl) rfl #[.agg #[.int .i64 t195,.string t196,.int .i64 t197,.slice Ao29 t198.length co29]] rfl (by (try simp only [List.map_toArray,List.map_cons,List.map_nil]);first|done|rfl|(simp only [List.length_drop,List.length_take];rfl)) ?_;(with_reducible refine (spec_TermOk.calls kj2 t195 t196 t197 _ _ t198 true _ ?side1 ?side2 A20.out).mono ?_);(case side1 => refine (Kd.R_reads' (e:=29) (base:=w.heap.size) (ok:=fun k_ => (((((w.heap.size ≤ k_) ∧ True) ∧ k_ ≠ gb191) ∧ k_ ≠ gb192) ∧ k_ ≠ gb201)) (n:=t198.length) (c:=co29) ?_).2.2;exact (by (with_reducible repeat (first|apply Kd.R_alloc|apply Kd.R_drewN|apply Kd.R_drew));exact (Kd.R_mono (Kd.R_far (p:=⟨gb201,3,none⟩) (Kd.R_far (p:=⟨gb201,2,none⟩) (Kd.R_far (p:=⟨gb201,1,none⟩) (Kd.R_far (p:=⟨gb201,0,none⟩) (Kd.R_mono HO200.out (fun k_ hk => (⟨hk,hk.2⟩ : _ ∧ k_ ≠ gb201))) (fun _ hk => hk.2) (.int .i64 t195)) (fun _ hk => hk.2) (.string t196)) (fun _ hk => hk.2) (.int .i64 t197)) (fun _ hk => hk.2) (.slice Ao29 t198.length co29)) (fun _ h_ => h_.1))));(case side2 => exact (Kd.R_reads' HO200.out).2.1);rintro e w30 ⟨rfl,hb⟩;refine ⟨_,rfl,?_⟩;have n0_:=Aside0.mk (Kd.V_below (by (with_reducible repeat (first|apply Kd.V_alloc|apply Kd.V_drewN|apply Kd.V_drew));exact (Kd.V_mono (Kd.V_far (p:=⟨gb201,3,none⟩) (Kd.V_far (p:=⟨gb201,2,none⟩) (Kd.V_far (p:=⟨gb201,1,none⟩) (Kd.V_far (p:=⟨gb201,0,none⟩) (Kd.V_mono HO_192003.out (fun k_ hk => (⟨hk,hk.2⟩ : _ ∧ k_ ≠ gb201))) (fun _ hk => hk.2) (.int .i64 t195)) (fun _ hk => hk.2) (.string t196)) (fun _ hk => hk.2) (.int .i64 t197)) (fun _ hk => hk.2) (.slice Ao29 t198.length co29)) (fun _ h_ => h_.1))) hb);have n1_:=Aside0.mk (Kd.R_below (by (with_reducible repeat (first|apply Kd.R_alloc|apply Kd.R_drewN|apply Kd.R_drew));exact (Kd.R_mono (Kd.R_far (p:=⟨gb201,3,none⟩) (Kd.R_far (p:=⟨gb201,2,none⟩) (Kd.R_far (p:=⟨gb201,1,none⟩) (Kd.R_far (p:=⟨gb201,0,none⟩) (Kd.R_mono HO200.out (fun k_ hk => (⟨hk,hk.2⟩ : _ ∧ k_ ≠ gb201))) (fun _ hk => hk.2) (.int .i64 t195)) (fun _ hk => hk.2) (.string t196)) (fun _ hk => hk.2) (.int .i64 t197)) (fun _ hk => hk.2) (.slice Ao29 t198.length co29)) (fun _ h_ => h_.1))) hb);have n2_:=Aside0.mk (blk_below (g:=gb191) (o:=.cells #[.int .i64 a0_0,.string a0_1,.int .i64 a0_2,.slice A0_3 l0_3.length c0_3] 29 (0,0)) (by (with_reducible repeat (first|refine blk_drewN ?_ _|refine blk_drew ?_|refine blk_alloc ?_ _));refine blk_far ?_ NB191_201.out _;(with_reducible repeat (first|refine blk_drewN ?_ _|refine blk_drew ?_|refine blk_alloc ?_ _));refine blk_far ?_ NB191_201.out _;(with_reducible repeat (first|refine blk_drewN ?_ _|refine blk_drew ?_|refine blk_alloc ?_ _));refine blk_far ?_ NB191_201.out _;(with_reducible repeat (first|refine blk_drewN ?_ _|refine blk_drew ?_|refine blk_alloc ?_ _));refine blk_far ?_ NB191_201.out _;(with_reducible repeat (first|refine blk_drewN ?_ _|refine blk_drew ?_|refine blk_alloc ?_ _));exact BK191.out) hb);have n3_:=Aside0.mk (blk_below (g:=gb192) (o:=.cells #[.int .i64 0,.string (⟨#[]⟩ : ByteArray),.int .i64 0,.slice none 0 0] 29 (0,0)) (by (with_reducible repeat (first|refine blk_drewN ?_ _|refine blk_drew ?_|refine blk_alloc ?_ _));refine blk_far ?_ NB192_201.out _;(with_reducible repeat (first|refine blk_drewN ?_ _|refine blk_drew ?_|refine blk_alloc ?_ _));refine blk_far ?_ NB192_201.out _;(with_reducible repeat (first|refine blk_drewN ?_ _|refine blk_drew ?_|refine blk_alloc ?_ _));refine blk_far ?_ NB192_201.out _;(with_reducible repeat (first|refine blk_drewN ?_ _|refine blk_drew ?_|refine blk_alloc ?_ _));refine blk_far ?_ NB192_201.out _;(with_reducible repeat (first|refine blk_drewN ?_ _|refine blk_drew ?_|refine blk_alloc ?_ _));exact BK192.out) hb);have n4_:=Aside0.mk (blk_below (g:=gb201) (o:=.cells #[.int .i64 t195,.string t196,.int .i64 t197,.slice Ao29 t198.length co29] 29 (0,0)) (by (with_reducible repeat (first|refine blk_drewN ?_ _|refine blk_drew ?_|refine blk_alloc ?_ _));refine blk_put (cs:=#[.int .i64 t195,.string t196,.int .i64 t197,.slice none 0 0]) ?_ 3 _ rfl;(with_reducible repeat (first|refine blk_drewN ?_ _|refine blk_drew ?_|refine blk_alloc ?_ _));refine blk_put (cs:=#[.int .i64 t195,.string t196,.int .i64 0,.slice none 0 0]) ?_ 2 _ rfl;(with_reducible repeat (first|refine blk_drewN ?_ _|refine blk_drew ?_|refine blk_alloc ?_ _));refine blk_put (cs:=#[.int .i64 t195,.string (⟨#[]⟩ : ByteArray),.int .i64 0,.slice none 0 0]) ?_ 1 _ rfl;(with_reducible repeat (first|refine blk_drewN ?_ _|refine blk_drew ?_|refine blk_alloc ?_ _));refine blk_put (cs:=#[.int .i64 0,.string (⟨#[]⟩ : ByteArray),.int .i64 0,.slice none 0 0]) ?_ 0 _ rfl;(with_reducible repeat (first|refine blk_drewN ?_ _|refine blk_drew ?_|refine blk_alloc ?_ _));exact BK201.out) hb);have n5_:=Aside0.mk (below_step (by repeat (first|(with_reducible first|exact HB.out|apply below_alloc|apply pw_below_drewN|apply below_drew1|refine below_set ?_ GE191.out|refine below_set ?_ GE192.out|refine below_set ?_ GE201.out)|exact HB.out)) hb);clear HO_192003;clear HO200;clear BK191;clear BK192;clear BK201;clear HB;have HO_192003:=n0_;have HO200:=n1_;have BK191:=n2_;have BK192:=n3_;have BK201:=n4_;have HB:=n5_;clear n0_ n1_ n2_ n3_ n4_ n5_;(try clear hb);(try clear hb2);(try clear hk);(try clear hi);have hcz31_0 : w30.cell? ⟨gb201,0,none⟩ = some (.int .i64 t195):=(blk_cell BK201.out 0).trans rfl;have hcz31_1 : w30.cell? ⟨gb201,1,none⟩ = some (.string t196):=(blk_cell BK201.out 1).trans rfl;have hcz31_2 : w30.cell? ⟨gb201,2,none⟩ = some (.int .i64 t197):=(blk_cell BK201.out 2).trans rfl;have hcz31_3 : w30.cell? ⟨gb201,3,none⟩ = some (.slice Ao29 t198.length co29):=(blk_cell BK201.out 3).trans rfl;have hfz31_0:=blk_frozen BK201.out 0;have hfz31_1:=blk_frozen BK201.out 1;have hfz31_2:=blk_frozen BK201.out 2;have hfz31_3:=blk_frozen BK201.out 3;have hcz32_0 : w30.cell? ⟨gb192,0,none⟩ = some (.int .i64 0):=(blk_cell BK192.out 0).trans rfl;have hcz32_1 : w30.cell? ⟨gb192,1,none⟩ = some (.string (⟨#[]⟩ : ByteArray)):=(blk_cell BK192.out 1).trans rfl;have hcz32_2 : w30.cell? ⟨gb192,2,none⟩ = some (.int .i64 0):=(blk_cell BK192.out 2).trans rfl;have hcz32_3 : w30.cell? ⟨gb192,3,none⟩ = some (.slice none 0 0):=(blk_cell BK192.out 3).trans rfl;have hfz32_0:=blk_frozen BK192.out 0;have hfz32_1:=blk_frozen BK192.out 1;have hfz32_2:=blk_frozen BK192.out 2;have hfz32_3:=blk_frozen BK192.out 3))
     refine bodyPost_ret (results_cell_row rfl _ _ gb192 29 #[.int .i64 t195,.string t196,.int .i64 t197,.slice Ao29 t198.length co29] (0,0) _ rfl (by (with_reducible repeat (first|refine blk_drewN ?_ _|refine blk_drew ?_|refine blk_alloc ?_ _));refine blk_put (cs:=#[.int .i64 t195,.string t196,.int .i64 t197,.slice none 0 0]) ?_ 3 _ rfl;(with_reducible repeat (first|refine blk_drewN ?_ _|refine blk_drew ?_|refine blk_alloc ?_ _));refine blk_put (cs:=#[.int .i64 t195,.string t196,.int .i64 0,.slice none 0 0]) ?_ 2 _ rfl;(with_reducible repeat (first|refine blk_drewN ?_ _|refine blk_drew ?_|refine blk_alloc ?_ _));refine blk_put (cs:=#[.int .i64 t195,.string (⟨#[]⟩ : ByteArray),.int .i64 0,.slice none 0 0]) ?_ 1 _ rfl;(with_reducible repeat (first|refine blk_drewN ?_ _|refine blk_drew ?_|refine blk_alloc ?_ _));refine blk_put (cs:=#[.int .i64 0,.string (⟨#[]⟩ : ByteArray),.int .i64 0,.slice none 0 0]) ?_ 0 _ rfl;(with_reducible repeat (first|refine blk_drewN ?_ _|refine blk_drew ?_|refine blk_alloc ?_ _));exact BK192.out) Try.underlying29 rfl (by kernel_rfl)) rfl ?_
     exact ⟨_,by first|rfl|(simp [errW_none,errW_some] <;> rfl)|(simp [*,errW_none,errW_some] <;> rfl),Kd.V_mono (Kd.R_V (by (with_reducible repeat (first|apply Kd.R_alloc|apply Kd.R_drewN|apply Kd.R_drew));exact Kd.R_mono (Kd.R_far (p:=⟨gb192,3,none⟩) (Kd.R_far (p:=⟨gb192,2,none⟩) (Kd.R_far (p:=⟨gb192,1,none⟩) (Kd.R_far (p:=⟨gb192,0,none⟩) (Kd.R_mono HO200.out (fun k_ hk => (⟨hk,hk.1.2⟩ : _ ∧ k_ ≠ gb192))) (fun _ hk => hk.2) (.int .i64 t195)) (fun _ hk => hk.2) (.string t196)) (fun _ hk => hk.2) (.int .i64 t197)) (fun _ hk => hk.2) (.slice Ao29 t198.length co29)) (fun _ hk => hk.1.1.1.1.1))) (fun k_ hk => by first|exact ⟨(.inr (hk.1)),hk.2⟩|exact (.inr (hk))),by repeat (first|(with_reducible first|exact HB.out|apply below_alloc|apply pw_below_drewN|apply below_drew1|refine below_set ?_ GE191.out|refine below_set ?_ GE192.out|refine below_set ?_ GE201.out)|exact HB.out)⟩
    ·replace c21:=Bool.eq_false_iff.mpr c21
     subst c21
     have H1 : (some (a0_0,a0_1,a0_2,l0_3)) = some (r1,r2,r3,r4):=by rw [if_neg (show ¬ (false = true) by decide)] at H;exact H
     clear H
     have H:=H1
     clear H1
     simp only [Option.some.injEq,Prod.mk.injEq] at H
     obtain ⟨rfl,rfl,rfl,rfl⟩:=H
     have hnb33:=NB191_192.out
     have hnc33:=NB192_191.out
     have hcz34_0 : wc.cell? ⟨gb191,0,none⟩ = some (.int .i64 a0_0):=(blk_cell BK191.out 0).trans rfl
     have hcz34_1 : wc.cell? ⟨gb191,1,none⟩ = some (.string a0_1):=(blk_cell BK191.out 1).trans rfl
     have hcz34_2 : wc.cell? ⟨gb191,2,none⟩ = some (.int .i64 a0_2):=(blk_cell BK191.out 2).trans rfl
     have hcz34_3 : wc.cell? ⟨gb191,3,none⟩ = some (.slice A0_3 l0_3.length c0_3):=(blk_cell BK191.out 3).trans rfl
     have hfz34_0:=blk_frozen BK191.out 0
     have hfz34_1:=blk_frozen BK191.out 1
     have hfz34_2:=blk_frozen BK191.out 2
     have hfz34_3:=blk_frozen BK191.out 3
     go_wp2_with (first|((with_reducible refine gate_callee (f:=122) rfl ?_);refine goesL_ (some 17) rfl rfl Try.func122 (by kernel_rfl) rfl #[.agg #[.int .i64 a0_0,.string a0_1,.int .i64 a0_2,.slice A0_3 l0_3.length c0_3],.int .i64 a1] rfl (by (try simp only [List.map_toArray,List.map_cons,List.map_nil]);first|done|rfl|(simp only [List.length_drop,List.length_take];rfl)) ?_;(with_reducible refine (spec_l03Shift.calls kj2 a0_0 a0_1 a0_2 _ _ l0_3 a1 t195 t196 t197 t198 _ ?side1 ?side2 A19.out).mono ?_);(case side1 => repeat (first|exact (Kd.V_reads' HO_192003.out).2.2|(with_reducible refine Kd.C_alloc ?_ _)|(with_reducible refine Kd.C_drewN ?_ _)|(with_reducible refine Kd.C_drew ?_)));(case side2 => exact (Kd.V_reads' HO_192003.out).2.1);rintro e w35 ⟨v199,rfl,ho0,hb⟩;refine ⟨_,rfl,?_⟩;have n0_:=Aside0.mk (Kd.V_elder' (by (with_reducible repeat (first|apply Kd.V_alloc|apply Kd.V_drewN|apply Kd.V_drew));exact HO_192003.out) (Kd.R_base ho0) hb);have n1_:=Aside0.mk (Kd.R_lower (Kd.R_newB (Kd.R_newB (Kd.R_newM (M:=fun k_ => (w.heap.size ≤ k_)) ho0 (below_size (by repeat (first|(with_reducible first|exact HB.out|apply below_alloc|apply pw_below_drewN|apply below_drew1|refine below_set ?_ GE191.out|refine below_set ?_ GE192.out)|exact HB.out))) (fun k_ h_ => h_)) (g:=gb191) (o:=.cells #[.int .i64 a0_0,.string a0_1,.int .i64 a0_2,.slice A0_3 l0_3.length c0_3] 29 (0,0)) (by (with_reducible repeat (first|refine blk_drewN ?_ _|refine blk_drew ?_|refine blk_alloc ?_ _));exact BK191.out)) (g:=gb192) (o:=.cells #[.int .i64 0,.string (⟨#[]⟩ : ByteArray),.int .i64 0,.slice none 0 0] 29 (0,0)) (by (with_reducible repeat (first|refine blk_drewN ?_ _|refine blk_drew ?_|refine blk_alloc ?_ _));exact BK192.out)) (below_size (by repeat (first|(with_reducible first|exact HB.out|apply below_alloc|apply pw_below_drewN|apply below_drew1|refine below_set ?_ GE191.out|refine below_set ?_ GE192.out)|exact HB.out))));have n2_:=Aside0.mk (blk_below (g:=gb191) (o:=.cells #[.int .i64 a0_0,.string a0_1,.int .i64 a0_2,.slice A0_3 l0_3.length c0_3] 29 (0,0)) (by (with_reducible repeat (first|refine blk_drewN ?_ _|refine blk_drew ?_|refine blk_alloc ?_ _));exact BK191.out) hb);have n3_:=Aside0.mk (blk_below (g:=gb192) (o:=.cells #[.int .i64 0,.string (⟨#[]⟩ : ByteArray),.int .i64 0,.slice none 0 0] 29 (0,0)) (by (with_reducible repeat (first|refine blk_drewN ?_ _|refine blk_drew ?_|refine blk_alloc ?_ _));exact BK192.out) hb);have n4_:=Aside0.mk (below_step (by repeat (first|(with_reducible first|exact HB.out|apply below_alloc|apply pw_below_drewN|apply below_drew1|refine below_set ?_ GE191.out|refine below_set ?_ GE192.out)|exact HB.out)) hb);clear HO_192003;clear BK191;clear BK192;clear HB;have HO_192003:=n0_;have HO200:=n1_;have BK191:=n2_;have BK192:=n3_;have HB:=n4_;clear n0_ n1_ n2_ n3_ n4_;(try clear hb);(try clear hb2);(try clear hk);(try clear hi);(try clear ho0))|((with_reducible refine gate_dst (N:=5) rfl ?_);refine box_event ?hg (N:=5) ?hd (cs:=#[.int .i64 0,.string (⟨#[]⟩ : ByteArray),.int .i64 0,.slice none 0 0]) (t:=29) ?hr ?_;(case hd => rfl);(case hg => rfl);(case hr => first|(go_simp;done)|(go_simp;rfl));intro gb201 hg w36 hbox hb;have n0_:=Aside0.mk (Kd.V_below (Kd.V_elderB (by (with_reducible repeat (first|apply Kd.V_alloc|apply Kd.V_drewN|apply Kd.V_drew));exact HO_192003.out) gb201 (Nat.le_of_eq hg.symm)) hb);have n1_:=Aside0.mk (Kd.R_below (Kd.R_elderB (by (with_reducible repeat (first|apply Kd.R_alloc|apply Kd.R_drewN|apply Kd.R_drew));exact HO200.out) gb201 (Nat.le_of_eq hg.symm)) hb);have n2_:=Aside0.mk (blk_below (g:=gb191) (o:=.cells #[.int .i64 a0_0,.string a0_1,.int .i64 a0_2,.slice A0_3 l0_3.length c0_3] 29 (0,0)) (by (with_reducible repeat (first|refine blk_drewN ?_ _|refine blk_drew ?_|refine blk_alloc ?_ _));exact BK191.out) hb);have n3_:=Aside0.mk (blk_below (g:=gb192) (o:=.cells #[.int .i64 0,.string (⟨#[]⟩ : ByteArray),.int .i64 0,.slice none 0 0] 29 (0,0)) (by (with_reducible repeat (first|refine blk_drewN ?_ _|refine blk_drew ?_|refine blk_alloc ?_ _));exact BK192.out) hb);have n4_:=Aside0.mk (below_step (by repeat (first|(with_reducible first|exact HB.out|apply below_alloc|apply pw_below_drewN|apply below_drew1|refine below_set ?_ GE191.out|refine below_set ?_ GE192.out)|exact HB.out)) hb);have n5_:=Aside0.mk (hbox);have n6_:=Aside0.mk ((by rw [hg];exact (below_size (by repeat (first|(with_reducible first|exact HB.out|apply below_alloc|apply pw_below_drewN|apply below_drew1|refine below_set ?_ GE191.out|refine below_set ?_ GE192.out)|exact HB.out))) : w.heap.size ≤ gb201));have n7_:=Aside0.mk ((by rw [hg];exact (below_size (by repeat (first|(with_reducible first|exact HB.out|apply below_alloc|apply pw_below_drewN|apply below_drew1|refine below_set ?_ GE191.out|refine below_set ?_ GE192.out)|exact HB.out))) : w.heap.size ≤ gb201));have n8_:=Aside0.mk ((by rw [hg];exact Nat.ne_of_lt (blk_lt (g:=gb191) (o:=.cells #[.int .i64 a0_0,.string a0_1,.int .i64 a0_2,.slice A0_3 l0_3.length c0_3] 29 (0,0)) (by (with_reducible repeat (first|refine blk_drewN ?_ _|refine blk_drew ?_|refine blk_alloc ?_ _));exact BK191.out)) : gb191 ≠ gb201));have n9_:=Aside0.mk ((by rw [hg];exact Nat.ne_of_gt (blk_lt (g:=gb191) (o:=.cells #[.int .i64 a0_0,.string a0_1,.int .i64 a0_2,.slice A0_3 l0_3.length c0_3] 29 (0,0)) (by (with_reducible repeat (first|refine blk_drewN ?_ _|refine blk_drew ?_|refine blk_alloc ?_ _));exact BK191.out)) : gb201 ≠ gb191));have n10_:=Aside0.mk ((by rw [hg];exact Nat.ne_of_lt (blk_lt (g:=gb192) (o:=.cells #[.int .i64 0,.string (⟨#[]⟩ : ByteArray),.int .i64 0,.slice none 0 0] 29 (0,0)) (by (with_reducible repeat (first|refine blk_drewN ?_ _|refine blk_drew ?_|refine blk_alloc ?_ _));exact BK192.out)) : gb192 ≠ gb201));have n11_:=Aside0.mk ((by rw [hg];exact Nat.ne_of_gt (blk_lt (g:=gb192) (o:=.cells #[.int .i64 0,.string (⟨#[]⟩ : ByteArray),.int .i64 0,.slice none 0 0] 29 (0,0)) (by (with_reducible repeat (first|refine blk_drewN ?_ _|refine blk_drew ?_|refine blk_alloc ?_ _));exact BK192.out)) : gb201 ≠ gb192));clear HO_192003;clear HO200;clear BK191;clear BK192;clear HB;have HO_192003:=n0_;have HO200:=n1_;have BK191:=n2_;have BK192:=n3_;have HB:=n4_;have BK201:=n5_;have GW201:=n6_;have GE201:=n7_;have NB191_201:=n8_;have NB201_191:=n9_;have NB192_201:=n10_;have NB201_192:=n11_;clear n0_ n1_ n2_ n3_ n4_ n5_ n6_ n7_ n8_ n9_ n10_ n11_;clear hb hbox hg;have hnb37:=NB201_191.out;have hnc37:=NB191_201.out;have hnb38:=NB201_192.out;have hnc38:=NB192_201.out;have hcz39_0 : w36.cell? ⟨gb201,0,none⟩ = some (.int .i64 0):=(blk_cell BK201.out 0).trans rfl;have hcz39_1 : w36.cell? ⟨gb201,1,none⟩ = some (.string (⟨#[]⟩ : ByteArray)):=(blk_cell BK201.out 1).trans rfl;have hcz39_2 : w36.cell? ⟨gb201,2,none⟩ = some (.int .i64 0):=(blk_cell BK201.out 2).trans rfl;have hcz39_3 : w36.cell? ⟨gb201,3,none⟩ = some (.slice none 0 0):=(blk_cell BK201.out 3).trans rfl;have hfz39_0:=blk_frozen BK201.out 0;have hfz39_1:=blk_frozen BK201.out 1;have hfz39_2:=blk_frozen BK201.out 2;have hfz39_3:=blk_frozen BK201.out 3;obtain ⟨Ao40,co40,eo40⟩:=Kd.R_slice HO200.out;subst eo40)|((with_reducible refine gate_callee (f:=31) rfl ?_);refine goesL_ (some 19) rfl rfl Try.func31 (by kernel_rfl) rfl #[.agg #[.int .i64 t195,.string t196,.int .i64 t197,.slice Ao40 t198.length co40]] rfl (by (try simp only [List.map_toArray,List.map_cons,List.map_nil]);first|done|rfl|(simp only [List.length_drop,List.length_take];rfl)) ?_;(with_reducible refine (spec_TermOk.calls kj2 t195 t196 t197 _ _ t198 false _ ?side1 ?side2 A20.out).mono ?_);(case side1 => refine (Kd.R_reads' (e:=29) (base:=w.heap.size) (ok:=fun k_ => (((((w.heap.size ≤ k_) ∧ True) ∧ k_ ≠ gb191) ∧ k_ ≠ gb192) ∧ k_ ≠ gb201)) (n:=t198.length) (c:=co40) ?_).2.2;exact (by (with_reducible repeat (first|apply Kd.R_alloc|apply Kd.R_drewN|apply Kd.R_drew));exact (Kd.R_mono (Kd.R_far (p:=⟨gb201,3,none⟩) (Kd.R_far (p:=⟨gb201,2,none⟩) (Kd.R_far (p:=⟨gb201,1,none⟩) (Kd.R_far (p:=⟨gb201,0,none⟩) (Kd.R_mono HO200.out (fun k_ hk => (⟨hk,hk.2⟩ : _ ∧ k_ ≠ gb201))) (fun _ hk => hk.2) (.int .i64 t195)) (fun _ hk => hk.2) (.string t196)) (fun _ hk => hk.2) (.int .i64 t197)) (fun _ hk => hk.2) (.slice Ao40 t198.length co40)) (fun _ h_ => h_.1))));(case side2 => exact (Kd.R_reads' HO200.out).2.1);rintro e w41 ⟨rfl,hb⟩;refine ⟨_,rfl,?_⟩;have n0_:=Aside0.mk (Kd.V_below (by (with_reducible repeat (first|apply Kd.V_alloc|apply Kd.V_drewN|apply Kd.V_drew));exact (Kd.V_mono (Kd.V_far (p:=⟨gb201,3,none⟩) (Kd.V_far (p:=⟨gb201,2,none⟩) (Kd.V_far (p:=⟨gb201,1,none⟩) (Kd.V_far (p:=⟨gb201,0,none⟩) (Kd.V_mono HO_192003.out (fun k_ hk => (⟨hk,hk.2⟩ : _ ∧ k_ ≠ gb201))) (fun _ hk => hk.2) (.int .i64 t195)) (fun _ hk => hk.2) (.string t196)) (fun _ hk => hk.2) (.int .i64 t197)) (fun _ hk => hk.2) (.slice Ao40 t198.length co40)) (fun _ h_ => h_.1))) hb);have n1_:=Aside0.mk (Kd.R_below (by (with_reducible repeat (first|apply Kd.R_alloc|apply Kd.R_drewN|apply Kd.R_drew));exact (Kd.R_mono (Kd.R_far (p:=⟨gb201,3,none⟩) (Kd.R_far (p:=⟨gb201,2,none⟩) (Kd.R_far (p:=⟨gb201,1,none⟩) (Kd.R_far (p:=⟨gb201,0,none⟩) (Kd.R_mono HO200.out (fun k_ hk => (⟨hk,hk.2⟩ : _ ∧ k_ ≠ gb201))) (fun _ hk => hk.2) (.int .i64 t195)) (fun _ hk => hk.2) (.string t196)) (fun _ hk => hk.2) (.int .i64 t197)) (fun _ hk => hk.2) (.slice Ao40 t198.length co40)) (fun _ h_ => h_.1))) hb);have n2_:=Aside0.mk (blk_below (g:=gb191) (o:=.cells #[.int .i64 a0_0,.string a0_1,.int .i64 a0_2,.slice A0_3 l0_3.length c0_3] 29 (0,0)) (by (with_reducible repeat (first|refine blk_drewN ?_ _|refine blk_drew ?_|refine blk_alloc ?_ _));refine blk_far ?_ NB191_201.out _;(with_reducible repeat (first|refine blk_drewN ?_ _|refine blk_drew ?_|refine blk_alloc ?_ _));refine blk_far ?_ NB191_201.out _;(with_reducible repeat (first|refine blk_drewN ?_ _|refine blk_drew ?_|refine blk_alloc ?_ _));refine blk_far ?_ NB191_201.out _;(with_reducible repeat (first|refine blk_drewN ?_ _|refine blk_drew ?_|refine blk_alloc ?_ _));refine blk_far ?_ NB191_201.out _;(with_reducible repeat (first|refine blk_drewN ?_ _|refine blk_drew ?_|refine blk_alloc ?_ _));exact BK191.out) hb);have n3_:=Aside0.mk (blk_below (g:=gb192) (o:=.cells #[.int .i64 0,.string (⟨#[]⟩ : ByteArray),.int .i64 0,.slice none 0 0] 29 (0,0)) (by (with_reducible repeat (first|refine blk_drewN ?_ _|refine blk_drew ?_|refine blk_alloc ?_ _));refine blk_far ?_ NB192_201.out _;(with_reducible repeat (first|refine blk_drewN ?_ _|refine blk_drew ?_|refine blk_alloc ?_ _));refine blk_far ?_ NB192_201.out _;(with_reducible repeat (first|refine blk_drewN ?_ _|refine blk_drew ?_|refine blk_alloc ?_ _));refine blk_far ?_ NB192_201.out _;(with_reducible repeat (first|refine blk_drewN ?_ _|refine blk_drew ?_|refine blk_alloc ?_ _));refine blk_far ?_ NB192_201.out _;(with_reducible repeat (first|refine blk_drewN ?_ _|refine blk_drew ?_|refine blk_alloc ?_ _));exact BK192.out) hb);have n4_:=Aside0.mk (blk_below (g:=gb201) (o:=.cells #[.int .i64 t195,.string t196,.int .i64 t197,.slice Ao40 t198.length co40] 29 (0,0)) (by (with_reducible repeat (first|refine blk_drewN ?_ _|refine blk_drew ?_|refine blk_alloc ?_ _));refine blk_put (cs:=#[.int .i64 t195,.string t196,.int .i64 t197,.slice none 0 0]) ?_ 3 _ rfl;(with_reducible repeat (first|refine blk_drewN ?_ _|refine blk_drew ?_|refine blk_alloc ?_ _));refine blk_put (cs:=#[.int .i64 t195,.string t196,.int .i64 0,.slice none 0 0]) ?_ 2 _ rfl;(with_reducible repeat (first|refine blk_drewN ?_ _|refine blk_drew ?_|refine blk_alloc ?_ _));refine blk_put (cs:=#[.int .i64 t195,.string (⟨#[]⟩ : ByteArray),.int .i64 0,.slice none 0 0]) ?_ 1 _ rfl;(with_reducible repeat (first|refine blk_drewN ?_ _|refine blk_drew ?_|refine blk_alloc ?_ _));refine blk_put (cs:=#[.int .i64 0,.string (⟨#[]⟩ : ByteArray),.int .i64 0,.slice none 0 0]) ?_ 0 _ rfl;(with_reducible repeat (first|refine blk_drewN ?_ _|refine blk_drew ?_|refine blk_alloc ?_ _));exact BK201.out) hb);have n5_:=Aside0.mk (below_step (by repeat (first|(with_reducible first|exact HB.out|apply below_alloc|apply pw_below_drewN|apply below_drew1|refine below_set ?_ GE191.out|refine below_set ?_ GE192.out|refine below_set ?_ GE201.out)|exact HB.out)) hb);clear HO_192003;clear HO200;clear BK191;clear BK192;clear BK201;clear HB;have HO_192003:=n0_;have HO200:=n1_;have BK191:=n2_;have BK192:=n3_;have BK201:=n4_;have HB:=n5_;clear n0_ n1_ n2_ n3_ n4_ n5_;(try clear hb);(try clear hb2);(try clear hk);(try clear hi);have hcz42_0 : w41.cell? ⟨gb191,0,none⟩ = some (.int .i64 a0_0):=(blk_cell BK191.out 0).trans rfl;have hcz42_1 : w41.cell? ⟨gb191,1,none⟩ = some (.string a0_1):=(blk_cell BK191.out 1).trans rfl;have hcz42_2 : w41.cell? ⟨gb191,2,none⟩ = some (.int .i64 a0_2):=(blk_cell BK191.out 2).trans rfl;have hcz42_3 : w41.cell? ⟨gb191,3,none⟩ = some (.slice A0_3 l0_3.length c0_3):=(blk_cell BK191.out 3).trans rfl;have hfz42_0:=blk_frozen BK191.out 0;have hfz42_1:=blk_frozen BK191.out 1;have hfz42_2:=blk_frozen BK191.out 2;have hfz42_3:=blk_frozen BK191.out 3;have hcz43_0 : w41.cell? ⟨gb192,0,none⟩ = some (.int .i64 0):=(blk_cell BK192.out 0).trans rfl;have hcz43_1 : w41.cell? ⟨gb192,1,none⟩ = some (.string (⟨#[]⟩ : ByteArray)):=(blk_cell BK192.out 1).trans rfl;have hcz43_2 : w41.cell? ⟨gb192,2,none⟩ = some (.int .i64 0):=(blk_cell BK192.out 2).trans rfl;have hcz43_3 : w41.cell? ⟨gb192,3,none⟩ = some (.slice none 0 0):=(blk_cell BK192.out 3).trans rfl;have hfz43_0:=blk_frozen BK192.out 0;have hfz43_1:=blk_frozen BK192.out 1;have hfz43_2:=blk_frozen BK192.out 2;have hfz43_3:=blk_frozen BK192.out 3))
     refine bodyPost_ret (results_cell_row rfl _ _ gb192 29 #[.int .i64 a0_0,.string a0_1,.int .i64 a0_2,.slice A0_3 l0_3.length c0_3] (0,0) _ rfl (by (with_reducible repeat (first|refine blk_drewN ?_ _|refine blk_drew ?_|refine blk_alloc ?_ _));refine blk_put (cs:=#[.int .i64 a0_0,.string a0_1,.int .i64 a0_2,.slice none 0 0]) ?_ 3 _ rfl;(with_reducible repeat (first|refine blk_drewN ?_ _|refine blk_drew ?_|refine blk_alloc ?_ _));refine blk_put (cs:=#[.int .i64 a0_0,.string a0_1,.int .i64 0,.slice none 0 0]) ?_ 2 _ rfl;(with_reducible repeat (first|refine blk_drewN ?_ _|refine blk_drew ?_|refine blk_alloc ?_ _));refine blk_put (cs:=#[.int .i64 a0_0,.string (⟨#[]⟩ : ByteArray),.int .i64 0,.slice none 0 0]) ?_ 1 _ rfl;(with_reducible repeat (first|refine blk_drewN ?_ _|refine blk_drew ?_|refine blk_alloc ?_ _));refine blk_put (cs:=#[.int .i64 0,.string (⟨#[]⟩ : ByteArray),.int .i64 0,.slice none 0 0]) ?_ 0 _ rfl;(with_reducible repeat (first|refine blk_drewN ?_ _|refine blk_drew ?_|refine blk_alloc ?_ _));exact BK192.out) Try.underlying29 rfl (by kernel_rfl)) rfl ?_
     exact ⟨_,by first|rfl|(simp [errW_none,errW_some] <;> rfl)|(simp [*,errW_none,errW_some] <;> rfl),by (with_reducible repeat (first|apply Kd.V_alloc|apply Kd.V_drewN|apply Kd.V_drew));exact Kd.V_mono (Kd.V_far (p:=⟨gb192,3,none⟩) (Kd.V_far (p:=⟨gb192,2,none⟩) (Kd.V_far (p:=⟨gb192,1,none⟩) (Kd.V_far (p:=⟨gb192,0,none⟩) (Kd.V_mono HO_192003.out (fun k_ hk => (⟨hk,hk.1.1.2.2⟩ : _ ∧ k_ ≠ gb192))) (fun _ hk => hk.2) (.int .i64 a0_0)) (fun _ hk => hk.2) (.string a0_1)) (fun _ hk => hk.2) (.int .i64 a0_2)) (fun _ hk => hk.2) (.slice A0_3 l0_3.length c0_3)) (fun _ hk => hk.1.1.1.1),by repeat (first|(with_reducible first|exact HB.out|apply below_alloc|apply pw_below_drewN|apply below_drew1|refine below_set ?_ GE191.out|refine below_set ?_ GE192.out|refine below_set ?_ GE201.out)|exact HB.out)⟩

/-! ### spec_Shifted: function 52 -/
def spec_Shifted.f (k : Nat) (a0_0 : Int) (a0_1 : ByteArray) (a0_2 : Int) (l0_3 : List (S29)) (a1 : Int) : Option (Int × ByteArray × Int × (List (S29))):=(spec_l03ShiftedRaw.f k a0_0 a0_1 a0_2 l0_3 a1).bind fun bt205 => ((spec_l34Term.f k bt205.1 bt205.2.1 bt205.2.2.1 bt205.2.2.2).bind fun bt212 => (some (bt212.1,bt212.2.1,bt212.2.2.1,bt212.2.2.2)))
set_option maxHeartbeats 8000000 in
set_option maxRecDepth 100000 in
theorem spec_Shifted.calls (k : Nat) (a0_0 : Int) (a0_1 : ByteArray) (a0_2 : Int) (A0_3 : Option Addr) (c0_3 : Nat) (l0_3 : List (S29)) (a1 : Int) (r1 : Int) (r2 : ByteArray) (r3 : Int) (r4 : List (S29)) (w : World) (hr0_3 : Kd.C k29 w A0_3 l0_3.length l0_3) (hc0_3 : l0_3.length ≤ c0_3) (h : spec_Shifted.f k a0_0 a0_1 a0_2 l0_3 a1 = some (r1,r2,r3,r4)) :
  Calls Try.prog 52 #[.agg #[.int .i64 a0_0,.string a0_1,.int .i64 a0_2,.slice A0_3 l0_3.length c0_3],.int .i64 a1] w fun e w' => ∃ v3_ : Value,e = .returned (.agg #[.int .i64 r1,.string r2,.int .i64 r3,v3_]) ∧ Kd.R k29 29 w' w.heap.size (fun _ => True) v3_ r4 ∧ Below w.heap.size w w':=by
 have hu29:=Try.underlying29
 have HR0_3:=Aside0.mk hr0_3
 have HC0_3:=Aside0.mk hc0_3
 clear hr0_3 hc0_3
 have HB:=Aside0.mk (Below.refl w.heap.size w)
 have H : ((spec_l03ShiftedRaw.f k a0_0 a0_1 a0_2 l0_3 a1).bind fun bt205 => ((spec_l34Term.f k bt205.1 bt205.2.1 bt205.2.2.1 bt205.2.2.2).bind fun bt212 => (some (bt212.1,bt212.2.1,bt212.2.2.1,bt212.2.2.2)))) = some (r1,r2,r3,r4):=h
 clear h
 replace H:=Option.bind_eq_some_iff.mp H
 obtain ⟨⟨t205,t206,t207,t208⟩,A30,H⟩:=H
 replace H : ((spec_l34Term.f k t205 t206 t207 t208).bind fun bt212 => (some (bt212.1,bt212.2.1,bt212.2.2.1,bt212.2.2.2))) = some (r1,r2,r3,r4):=H
 have A3:=Aside0.mk A30
 clear A30
 replace H:=Option.bind_eq_some_iff.mp H
 obtain ⟨⟨t212,t213,t214,t215⟩,A40,H⟩:=H
 replace H : (some (t212,t213,t214,t215)) = some (r1,r2,r3,r4):=H
 have A4:=Aside0.mk A40
 clear A40
 simp only [Option.some.injEq,Prod.mk.injEq] at H
 obtain ⟨rfl,rfl,rfl,rfl⟩:=H
 go_enter Try.func52,Try.ntmps52
 go_wp2_with (first|((with_reducible refine gate_dst (N:=2) rfl ?_);refine box_event ?hg (N:=2) ?hd (cs:=#[.int .i64 a0_0,.string a0_1,.int .i64 a0_2,.slice A0_3 l0_3.length c0_3]) (t:=29) ?hr ?_;(case hd => rfl);(case hg => rfl);(case hr => first|(go_simp;done)|(go_simp;rfl));intro gb203 hg w5 hbox hb;have n0_:=Aside0.mk (below_step (by repeat (first|(with_reducible first|exact HB.out|apply below_alloc|apply pw_below_drewN|apply below_drew1)|exact HB.out)) hb);have n1_:=Aside0.mk (hbox);have n2_:=Aside0.mk ((by rw [hg];exact (below_size (by repeat (first|(with_reducible first|exact HB.out|apply below_alloc|apply pw_below_drewN|apply below_drew1)|exact HB.out))) : w.heap.size ≤ gb203));have n3_:=Aside0.mk ((by rw [hg];exact (below_size (by repeat (first|(with_reducible first|exact HB.out|apply below_alloc|apply pw_below_drewN|apply below_drew1)|exact HB.out))) : w.heap.size ≤ gb203));clear HB;have HB:=n0_;have BK203:=n1_;have GW203:=n2_;have GE203:=n3_;clear n0_ n1_ n2_ n3_;clear hb hbox hg)|((with_reducible refine gate_dst (N:=4) rfl ?_);refine box_event ?hg (N:=4) ?hd (cs:=#[.int .i64 0,.string (⟨#[]⟩ : ByteArray),.int .i64 0,.slice none 0 0]) (t:=29) ?hr ?_;(case hd => rfl);(case hg => rfl);(case hr => first|(go_simp;done)|(go_simp;rfl));intro gb204 hg w6 hbox hb;have n0_:=Aside0.mk (blk_below (g:=gb203) (o:=.cells #[.int .i64 a0_0,.string a0_1,.int .i64 a0_2,.slice A0_3 l0_3.length c0_3] 29 (0,0)) (by (with_reducible repeat (first|refine blk_drewN ?_ _|refine blk_drew ?_|refine blk_alloc ?_ _));exact BK203.out) hb);have n1_:=Aside0.mk (below_step (by repeat (first|(with_reducible first|exact HB.out|apply below_alloc|apply pw_below_drewN|apply below_drew1|refine below_set ?_ GE203.out)|exact HB.out)) hb);have n2_:=Aside0.mk (hbox);have n3_:=Aside0.mk ((by rw [hg];exact (below_size (by repeat (first|(with_reducible first|exact HB.out|apply below_alloc|apply pw_below_drewN|apply below_drew1|refine below_set ?_ GE203.out)|exact HB.out))) : w.heap.size ≤ gb204));have n4_:=Aside0.mk ((by rw [hg];exact (below_size (by repeat (first|(with_reducible first|exact HB.out|apply below_alloc|apply pw_below_drewN|apply below_drew1|refine below_set ?_ GE203.out)|exact HB.out))) : w.heap.size ≤ gb204));have n5_:=Aside0.mk ((by rw [hg];exact Nat.ne_of_lt (blk_lt (g:=gb203) (o:=.cells #[.int .i64 a0_0,.string a0_1,.int .i64 a0_2,.slice A0_3 l0_3.length c0_3] 29 (0,0)) (by (with_reducible repeat (first|refine blk_drewN ?_ _|refine blk_drew ?_|refine blk_alloc ?_ _));exact BK203.out)) : gb203 ≠ gb204));have n6_:=Aside0.mk ((by rw [hg];exact Nat.ne_of_gt (blk_lt (g:=gb203) (o:=.cells #[.int .i64 a0_0,.string a0_1,.int .i64 a0_2,.slice A0_3 l0_3.length c0_3] 29 (0,0)) (by (with_reducible repeat (first|refine blk_drewN ?_ _|refine blk_drew ?_|refine blk_alloc ?_ _));exact BK203.out)) : gb204 ≠ gb203));clear BK203;clear HB;have BK203:=n0_;have HB:=n1_;have BK204:=n2_;have GW204:=n3_;have GE204:=n4_;have NB203_204:=n5_;have NB204_203:=n6_;clear n0_ n1_ n2_ n3_ n4_ n5_ n6_;clear hb hbox hg;have hnb7:=NB203_204.out;have hnc7:=NB204_203.out;have hcz8_0 : w6.cell? ⟨gb203,0,none⟩ = some (.int .i64 a0_0):=(blk_cell BK203.out 0).trans rfl;have hcz8_1 : w6.cell? ⟨gb203,1,none⟩ = some (.string a0_1):=(blk_cell BK203.out 1).trans rfl;have hcz8_2 : w6.cell? ⟨gb203,2,none⟩ = some (.int .i64 a0_2):=(blk_cell BK203.out 2).trans rfl;have hcz8_3 : w6.cell? ⟨gb203,3,none⟩ = some (.slice A0_3 l0_3.length c0_3):=(blk_cell BK203.out 3).trans rfl;have hfz8_0:=blk_frozen BK203.out 0;have hfz8_1:=blk_frozen BK203.out 1;have hfz8_2:=blk_frozen BK203.out 2;have hfz8_3:=blk_frozen BK203.out 3)|((with_reducible refine gate_callee (f:=88) rfl ?_);refine goesL_ (some 8) rfl rfl Try.func88 (by kernel_rfl) rfl #[.agg #[.int .i64 a0_0,.string a0_1,.int .i64 a0_2,.slice A0_3 l0_3.length c0_3],.int .i64 a1] rfl (by (try simp only [List.map_toArray,List.map_cons,List.map_nil]);first|done|rfl|(simp only [List.length_drop,List.length_take];rfl)) ?_;(with_reducible refine (spec_l03ShiftedRaw.calls k a0_0 a0_1 a0_2 (fun k_ => k_ < w.heap.size) _ _ l0_3 a1 t205 t206 t207 t208 _ ?side1 A3.out).mono ?_);(case side1 => exact Kd.V_mk HC0_3.out (Kd.F_below (Kd.C_F k29_heap HR0_3.out) (by repeat (first|(with_reducible first|exact HB.out|apply below_alloc|apply pw_below_drewN|apply below_drew1|refine below_set ?_ GE203.out|refine below_set ?_ GE204.out)|exact HB.out))));rintro e w9 ⟨v209,rfl,ho0,hb⟩;refine ⟨_,rfl,?_⟩;have n0_:=Aside0.mk (Kd.V_lower (Kd.V_mono (ok':=fun k_ => k_ ≠ gb203 ∧ k_ ≠ gb204) ho0 (fun k_ hk_ => ⟨Or.elim hk_ (fun hs_ => fun e_ => Nat.not_le.2 hs_ (by rw [e_];exact GW203.out)) (fun hn_ => (Kd.freshB (g:=gb203) (o:=.cells #[.int .i64 a0_0,.string a0_1,.int .i64 a0_2,.slice A0_3 l0_3.length c0_3] 29 (0,0)) (by (with_reducible repeat (first|refine blk_drewN ?_ _|refine blk_drew ?_|refine blk_alloc ?_ _));exact BK203.out) k_ hn_)),Or.elim hk_ (fun hs_ => fun e_ => Nat.not_le.2 hs_ (by rw [e_];exact GW204.out)) (fun hn_ => (Kd.freshB (g:=gb204) (o:=.cells #[.int .i64 0,.string (⟨#[]⟩ : ByteArray),.int .i64 0,.slice none 0 0] 29 (0,0)) (by (with_reducible repeat (first|refine blk_drewN ?_ _|refine blk_drew ?_|refine blk_alloc ?_ _));exact BK204.out) k_ hn_))⟩)) (below_size (by repeat (first|(with_reducible first|exact HB.out|apply below_alloc|apply pw_below_drewN|apply below_drew1|refine below_set ?_ GE203.out|refine below_set ?_ GE204.out)|exact HB.out))));have n1_:=Aside0.mk (blk_below (g:=gb203) (o:=.cells #[.int .i64 a0_0,.string a0_1,.int .i64 a0_2,.slice A0_3 l0_3.length c0_3] 29 (0,0)) (by (with_reducible repeat (first|refine blk_drewN ?_ _|refine blk_drew ?_|refine blk_alloc ?_ _));exact BK203.out) hb);have n2_:=Aside0.mk (blk_below (g:=gb204) (o:=.cells #[.int .i64 0,.string (⟨#[]⟩ : ByteArray),.int .i64 0,.slice none 0 0] 29 (0,0)) (by (with_reducible repeat (first|refine blk_drewN ?_ _|refine blk_drew ?_|refine blk_alloc ?_ _));exact BK204.out) hb);have n3_:=Aside0.mk (below_step (by repeat (first|(with_reducible first|exact HB.out|apply below_alloc|apply pw_below_drewN|apply below_drew1|refine below_set ?_ GE203.out|refine below_set ?_ GE204.out)|exact HB.out)) hb);clear BK203;clear BK204;clear HB;have HO210:=n0_;have BK203:=n1_;have BK204:=n2_;have HB:=n3_;clear n0_ n1_ n2_ n3_;(try clear hb);(try clear hb2);(try clear hk);(try clear hi);(try clear ho0))|((with_reducible refine gate_dst (N:=5) rfl ?_);refine box_event ?hg (N:=5) ?hd (cs:=#[.int .i64 0,.string (⟨#[]⟩ : ByteArray),.int .i64 0,.slice none 0 0]) (t:=29) ?hr ?_;(case hd => rfl);(case hg => rfl);(case hr => first|(go_simp;done)|(go_simp;rfl));intro gb211 hg w10 hbox hb;have n0_:=Aside0.mk (Kd.V_below (Kd.V_elderB (by (with_reducible repeat (first|apply Kd.V_alloc|apply Kd.V_drewN|apply Kd.V_drew));exact HO210.out) gb211 (Nat.le_of_eq hg.symm)) hb);have n1_:=Aside0.mk (blk_below (g:=gb203) (o:=.cells #[.int .i64 a0_0,.string a0_1,.int .i64 a0_2,.slice A0_3 l0_3.length c0_3] 29 (0,0)) (by (with_reducible repeat (first|refine blk_drewN ?_ _|refine blk_drew ?_|refine blk_alloc ?_ _));exact BK203.out) hb);have n2_:=Aside0.mk (blk_below (g:=gb204) (o:=.cells #[.int .i64 0,.string (⟨#[]⟩ : ByteArray),.int .i64 0,.slice none 0 0] 29 (0,0)) (by (with_reducible repeat (first|refine blk_drewN ?_ _|refine blk_drew ?_|refine blk_alloc ?_ _));exact BK204.out) hb);have n3_:=Aside0.mk (below_step (by repeat (first|(with_reducible first|exact HB.out|apply below_alloc|apply pw_below_drewN|apply below_drew1|refine below_set ?_ GE203.out|refine below_set ?_ GE204.out)|exact HB.out)) hb);have n4_:=Aside0.mk (hbox);have n5_:=Aside0.mk ((by rw [hg];exact (below_size (by repeat (first|(with_reducible first|exact HB.out|apply below_alloc|apply pw_below_drewN|apply below_drew1|refine below_set ?_ GE203.out|refine below_set ?_ GE204.out)|exact HB.out))) : w.heap.size ≤ gb211));have n6_:=Aside0.mk ((by rw [hg];exact (below_size (by repeat (first|(with_reducible first|exact HB.out|apply below_alloc|apply pw_below_drewN|apply below_drew1|refine below_set ?_ GE203.out|refine below_set ?_ GE204.out)|exact HB.out))) : w.heap.size ≤ gb211));have n7_:=Aside0.mk ((by rw [hg];exact Nat.ne_of_lt (blk_lt (g:=gb203) (o:=.cells #[.int .i64 a0_0,.string a0_1,.int .i64 a0_2,.slice A0_3 l0_3.length c0_3] 29 (0,0)) (by (with_reducible repeat (first|refine blk_drewN ?_ _|refine blk_drew ?_|refine blk_alloc ?_ _));exact BK203.out)) : gb203 ≠ gb211));have n8_:=Aside0.mk ((by rw [hg];exact Nat.ne_of_gt (blk_lt (g:=gb203) (o:=.cells #[.int .i64 a0_0,.string a0_1,.int .i64 a0_2,.slice A0_3 l0_3.length c0_3] 29 (0,0)) (by (with_reducible repeat (first|refine blk_drewN ?_ _|refine blk_drew ?_|refine blk_alloc ?_ _));exact BK203.out)) : gb211 ≠ gb203));have n9_:=Aside0.mk ((by rw [hg];exact Nat.ne_of_lt (blk_lt (g:=gb204) (o:=.cells #[.int .i64 0,.string (⟨#[]⟩ : ByteArray),.int .i64 0,.slice none 0 0] 29 (0,0)) (by (with_reducible repeat (first|refine blk_drewN ?_ _|refine blk_drew ?_|refine blk_alloc ?_ _));exact BK204.out)) : gb204 ≠ gb211));have n10_:=Aside0.mk ((by rw [hg];exact Nat.ne_of_gt (blk_lt (g:=gb204) (o:=.cells #[.int .i64 0,.string (⟨#[]⟩ : ByteArray),.int .i64 0,.slice none 0 0] 29 (0,0)) (by (with_reducible repeat (first|refine blk_drewN ?_ _|refine blk_drew ?_|refine blk_alloc ?_ _));exact BK204.out)) : gb211 ≠ gb204));clear HO210;clear BK203;clear BK204;clear HB;have HO210:=n0_;have BK203:=n1_;have BK204:=n2_;have HB:=n3_;have BK211:=n4_;have GW211:=n5_;have GE211:=n6_;have NB203_211:=n7_;have NB211_203:=n8_;have NB204_211:=n9_;have NB211_204:=n10_;clear n0_ n1_ n2_ n3_ n4_ n5_ n6_ n7_ n8_ n9_ n10_;clear hb hbox hg;have hnb11:=NB211_203.out;have hnc11:=NB203_211.out;have hnb12:=NB211_204.out;have hnc12:=NB204_211.out;have hcz13_0 : w10.cell? ⟨gb211,0,none⟩ = some (.int .i64 0):=(blk_cell BK211.out 0).trans rfl;have hcz13_1 : w10.cell? ⟨gb211,1,none⟩ = some (.string (⟨#[]⟩ : ByteArray)):=(blk_cell BK211.out 1).trans rfl;have hcz13_2 : w10.cell? ⟨gb211,2,none⟩ = some (.int .i64 0):=(blk_cell BK211.out 2).trans rfl;have hcz13_3 : w10.cell? ⟨gb211,3,none⟩ = some (.slice none 0 0):=(blk_cell BK211.out 3).trans rfl;have hfz13_0:=blk_frozen BK211.out 0;have hfz13_1:=blk_frozen BK211.out 1;have hfz13_2:=blk_frozen BK211.out 2;have hfz13_3:=blk_frozen BK211.out 3;obtain ⟨Ao14,co14,eo14⟩:=Kd.V_slice HO210.out;subst eo14)|((with_reducible refine gate_callee (f:=80) rfl ?_);refine goesL_ (some 10) rfl rfl Try.func80 (by kernel_rfl) rfl #[.agg #[.int .i64 t205,.string t206,.int .i64 t207,.slice Ao14 t208.length co14]] rfl (by (try simp only [List.map_toArray,List.map_cons,List.map_nil]);first|done|rfl|(simp only [List.length_drop,List.length_take];rfl)) ?_;(with_reducible refine (spec_l34Term.calls k t205 t206 t207 _ _ t208 t212 t213 t214 t215 _ ?side1 ?side2 A4.out).mono ?_);(case side1 => refine (Kd.V_reads' (e:=29) (base:=w.heap.size) (ok:=fun k_ => ((k_ ≠ gb203 ∧ k_ ≠ gb204) ∧ k_ ≠ gb211)) (n:=t208.length) (c:=co14) ?_).2.2;exact (by (with_reducible repeat (first|apply Kd.V_alloc|apply Kd.V_drewN|apply Kd.V_drew));exact (Kd.V_mono (Kd.V_far (p:=⟨gb211,3,none⟩) (Kd.V_far (p:=⟨gb211,2,none⟩) (Kd.V_far (p:=⟨gb211,1,none⟩) (Kd.V_far (p:=⟨gb211,0,none⟩) (Kd.V_mono HO210.out (fun k_ hk => (⟨hk,hk.2⟩ : _ ∧ k_ ≠ gb211))) (fun _ hk => hk.2) (.int .i64 t205)) (fun _ hk => hk.2) (.string t206)) (fun _ hk => hk.2) (.int .i64 t207)) (fun _ hk => hk.2) (.slice Ao14 t208.length co14)) (fun _ h_ => h_.1))));(case side2 => exact (Kd.V_reads' HO210.out).2.1);rintro e w15 ⟨v216,rfl,ho0,hb⟩;refine ⟨_,rfl,?_⟩;have n0_:=Aside0.mk (Kd.V_elder' (by (with_reducible repeat (first|apply Kd.V_alloc|apply Kd.V_drewN|apply Kd.V_drew));exact (Kd.V_mono (Kd.V_far (p:=⟨gb211,3,none⟩) (Kd.V_far (p:=⟨gb211,2,none⟩) (Kd.V_far (p:=⟨gb211,1,none⟩) (Kd.V_far (p:=⟨gb211,0,none⟩) (Kd.V_mono HO210.out (fun k_ hk => (⟨hk,hk.2⟩ : _ ∧ k_ ≠ gb211))) (fun _ hk => hk.2) (.int .i64 t205)) (fun _ hk => hk.2) (.string t206)) (fun _ hk => hk.2) (.int .i64 t207)) (fun _ hk => hk.2) (.slice Ao14 t208.length co14)) (fun _ h_ => h_.1))) (Kd.R_base ho0) hb);have n1_:=Aside0.mk (Kd.R_lower (Kd.R_newB (Kd.R_newB (Kd.R_newB ho0 (g:=gb203) (o:=.cells #[.int .i64 a0_0,.string a0_1,.int .i64 a0_2,.slice A0_3 l0_3.length c0_3] 29 (0,0)) (by (with_reducible repeat (first|refine blk_drewN ?_ _|refine blk_drew ?_|refine blk_alloc ?_ _));refine blk_far ?_ NB203_211.out _;(with_reducible repeat (first|refine blk_drewN ?_ _|refine blk_drew ?_|refine blk_alloc ?_ _));refine blk_far ?_ NB203_211.out _;(with_reducible repeat (first|refine blk_drewN ?_ _|refine blk_drew ?_|refine blk_alloc ?_ _));refine blk_far ?_ NB203_211.out _;(with_reducible repeat (first|refine blk_drewN ?_ _|refine blk_drew ?_|refine blk_alloc ?_ _));refine blk_far ?_ NB203_211.out _;(with_reducible repeat (first|refine blk_drewN ?_ _|refine blk_drew ?_|refine blk_alloc ?_ _));exact BK203.out)) (g:=gb204) (o:=.cells #[.int .i64 0,.string (⟨#[]⟩ : ByteArray),.int .i64 0,.slice none 0 0] 29 (0,0)) (by (with_reducible repeat (first|refine blk_drewN ?_ _|refine blk_drew ?_|refine blk_alloc ?_ _));refine blk_far ?_ NB204_211.out _;(with_reducible repeat (first|refine blk_drewN ?_ _|refine blk_drew ?_|refine blk_alloc ?_ _));refine blk_far ?_ NB204_211.out _;(with_reducible repeat (first|refine blk_drewN ?_ _|refine blk_drew ?_|refine blk_alloc ?_ _));refine blk_far ?_ NB204_211.out _;(with_reducible repeat (first|refine blk_drewN ?_ _|refine blk_drew ?_|refine blk_alloc ?_ _));refine blk_far ?_ NB204_211.out _;(with_reducible repeat (first|refine blk_drewN ?_ _|refine blk_drew ?_|refine blk_alloc ?_ _));exact BK204.out)) (g:=gb211) (o:=.cells #[.int .i64 t205,.string t206,.int .i64 t207,.slice Ao14 t208.length co14] 29 (0,0)) (by (with_reducible repeat (first|refine blk_drewN ?_ _|refine blk_drew ?_|refine blk_alloc ?_ _));refine blk_put (cs:=#[.int .i64 t205,.string t206,.int .i64 t207,.slice none 0 0]) ?_ 3 _ rfl;(with_reducible repeat (first|refine blk_drewN ?_ _|refine blk_drew ?_|refine blk_alloc ?_ _));refine blk_put (cs:=#[.int .i64 t205,.string t206,.int .i64 0,.slice none 0 0]) ?_ 2 _ rfl;(with_reducible repeat (first|refine blk_drewN ?_ _|refine blk_drew ?_|refine blk_alloc ?_ _));refine blk_put (cs:=#[.int .i64 t205,.string (⟨#[]⟩ : ByteArray),.int .i64 0,.slice none 0 0]) ?_ 1 _ rfl;(with_reducible repeat (first|refine blk_drewN ?_ _|refine blk_drew ?_|refine blk_alloc ?_ _));refine blk_put (cs:=#[.int .i64 0,.string (⟨#[]⟩ : ByteArray),.int .i64 0,.slice none 0 0]) ?_ 0 _ rfl;(with_reducible repeat (first|refine blk_drewN ?_ _|refine blk_drew ?_|refine blk_alloc ?_ _));exact BK211.out)) (below_size (by repeat (first|(with_reducible first|exact HB.out|apply below_alloc|apply pw_below_drewN|apply below_drew1|refine below_set ?_ GE203.out|refine below_set ?_ GE204.out|refine below_set ?_ GE211.out)|exact HB.out))));have n2_:=Aside0.mk (blk_below (g:=gb203) (o:=.cells #[.int .i64 a0_0,.string a0_1,.int .i64 a0_2,.slice A0_3 l0_3.length c0_3] 29 (0,0)) (by (with_reducible repeat (first|refine blk_drewN ?_ _|refine blk_drew ?_|refine blk_alloc ?_ _));refine blk_far ?_ NB203_211.out _;(with_reducible repeat (first|refine blk_drewN ?_ _|refine blk_drew ?_|refine blk_alloc ?_ _));refine blk_far ?_ NB203_211.out _;(with_reducible repeat (first|refine blk_drewN ?_ _|refine blk_drew ?_|refine blk_alloc ?_ _));refine blk_far ?_ NB203_211.out _;(with_reducible repeat (first|refine blk_drewN ?_ _|refine blk_drew ?_|refine blk_alloc ?_ _));refine blk_far ?_ NB203_211.out _;(with_reducible repeat (first|refine blk_drewN ?_ _|refine blk_drew ?_|refine blk_alloc ?_ _));exact BK203.out) hb);have n3_:=Aside0.mk (blk_below (g:=gb204) (o:=.cells #[.int .i64 0,.string (⟨#[]⟩ : ByteArray),.int .i64 0,.slice none 0 0] 29 (0,0)) (by (with_reducible repeat (first|refine blk_drewN ?_ _|refine blk_drew ?_|refine blk_alloc ?_ _));refine blk_far ?_ NB204_211.out _;(with_reducible repeat (first|refine blk_drewN ?_ _|refine blk_drew ?_|refine blk_alloc ?_ _));refine blk_far ?_ NB204_211.out _;(with_reducible repeat (first|refine blk_drewN ?_ _|refine blk_drew ?_|refine blk_alloc ?_ _));refine blk_far ?_ NB204_211.out _;(with_reducible repeat (first|refine blk_drewN ?_ _|refine blk_drew ?_|refine blk_alloc ?_ _));refine blk_far ?_ NB204_211.out _;(with_reducible repeat (first|refine blk_drewN ?_ _|refine blk_drew ?_|refine blk_alloc ?_ _));exact BK204.out) hb);have n4_:=Aside0.mk (blk_below (g:=gb211) (o:=.cells #[.int .i64 t205,.string t206,.int .i64 t207,.slice Ao14 t208.length co14] 29 (0,0)) (by (with_reducible repeat (first|refine blk_drewN ?_ _|refine blk_drew ?_|refine blk_alloc ?_ _));refine blk_put (cs:=#[.int .i64 t205,.string t206,.int .i64 t207,.slice none 0 0]) ?_ 3 _ rfl;(with_reducible repeat (first|refine blk_drewN ?_ _|refine blk_drew ?_|refine blk_alloc ?_ _));refine blk_put (cs:=#[.int .i64 t205,.string t206,.int .i64 0,.slice none 0 0]) ?_ 2 _ rfl;(with_reducible repeat (first|refine blk_drewN ?_ _|refine blk_drew ?_|refine blk_alloc ?_ _));refine blk_put (cs:=#[.int .i64 t205,.string (⟨#[]⟩ : ByteArray),.int .i64 0,.slice none 0 0]) ?_ 1 _ rfl;(with_reducible repeat (first|refine blk_drewN ?_ _|refine blk_drew ?_|refine blk_alloc ?_ _));refine blk_put (cs:=#[.int .i64 0,.string (⟨#[]⟩ : ByteArray),.int .i64 0,.slice none 0 0]) ?_ 0 _ rfl;(with_reducible repeat (first|refine blk_drewN ?_ _|refine blk_drew ?_|refine blk_alloc ?_ _));exact BK211.out) hb);have n5_:=Aside0.mk (below_step (by repeat (first|(with_reducible first|exact HB.out|apply below_alloc|apply pw_below_drewN|apply below_drew1|refine below_set ?_ GE203.out|refine below_set ?_ GE204.out|refine below_set ?_ GE211.out)|exact HB.out)) hb);clear HO210;clear BK203;clear BK204;clear BK211;clear HB;have HO210:=n0_;have HO217:=n1_;have BK203:=n2_;have BK204:=n3_;have BK211:=n4_;have HB:=n5_;clear n0_ n1_ n2_ n3_ n4_ n5_;(try clear hb);(try clear hb2);(try clear hk);(try clear hi);(try clear ho0);have hcz16_0 : w15.cell? ⟨gb204,0,none⟩ = some (.int .i64 0):=(blk_cell BK204.out 0).trans rfl;have hcz16_1 : w15.cell? ⟨gb204,1,none⟩ = some (.string (⟨#[]⟩ : ByteArray)):=(blk_cell BK204.out 1).trans rfl;have hcz16_2 : w15.cell? ⟨gb204,2,none⟩ = some (.int .i64 0):=(blk_cell BK204.out 2).trans rfl;have hcz16_3 : w15.cell? ⟨gb204,3,none⟩ = some (.slice none 0 0):=(blk_cell BK204.out 3).trans rfl;have hfz16_0:=blk_frozen BK204.out 0;have hfz16_1:=blk_frozen BK204.out 1;have hfz16_2:=blk_frozen BK204.out 2;have hfz16_3:=blk_frozen BK204.out 3;obtain ⟨Ao17,co17,eo17⟩:=Kd.R_slice HO217.out;subst eo17))
 refine bodyPost_ret (results_cell_row rfl _ _ gb204 29 #[.int .i64 t212,.string t213,.int .i64 t214,.slice Ao17 t215.length co17] (0,0) _ rfl (by (with_reducible repeat (first|refine blk_drewN ?_ _|refine blk_drew ?_|refine blk_alloc ?_ _));refine blk_put (cs:=#[.int .i64 t212,.string t213,.int .i64 t214,.slice none 0 0]) ?_ 3 _ rfl;(with_reducible repeat (first|refine blk_drewN ?_ _|refine blk_drew ?_|refine blk_alloc ?_ _));refine blk_put (cs:=#[.int .i64 t212,.string t213,.int .i64 0,.slice none 0 0]) ?_ 2 _ rfl;(with_reducible repeat (first|refine blk_drewN ?_ _|refine blk_drew ?_|refine blk_alloc ?_ _));refine blk_put (cs:=#[.int .i64 t212,.string (⟨#[]⟩ : ByteArray),.int .i64 0,.slice none 0 0]) ?_ 1 _ rfl;(with_reducible repeat (first|refine blk_drewN ?_ _|refine blk_drew ?_|refine blk_alloc ?_ _));refine blk_put (cs:=#[.int .i64 0,.string (⟨#[]⟩ : ByteArray),.int .i64 0,.slice none 0 0]) ?_ 0 _ rfl;(with_reducible repeat (first|refine blk_drewN ?_ _|refine blk_drew ?_|refine blk_alloc ?_ _));exact BK204.out) Try.underlying29 rfl (by kernel_rfl)) rfl ?_
 exact ⟨_,by first|rfl|(simp [errW_none,errW_some] <;> rfl)|(simp [*,errW_none,errW_some] <;> rfl),by (with_reducible repeat (first|apply Kd.R_alloc|apply Kd.R_drewN|apply Kd.R_drew));exact Kd.R_mono (Kd.R_far (p:=⟨gb204,3,none⟩) (Kd.R_far (p:=⟨gb204,2,none⟩) (Kd.R_far (p:=⟨gb204,1,none⟩) (Kd.R_far (p:=⟨gb204,0,none⟩) (Kd.R_mono HO217.out (fun k_ hk => (⟨hk,hk.1.2⟩ : _ ∧ k_ ≠ gb204))) (fun _ hk => hk.2) (.int .i64 t212)) (fun _ hk => hk.2) (.string t213)) (fun _ hk => hk.2) (.int .i64 t214)) (fun _ hk => hk.2) (.slice Ao17 t215.length co17)) (fun _ hk => trivial),by repeat (first|(with_reducible first|exact HB.out|apply below_alloc|apply pw_below_drewN|apply below_drew1|refine below_set ?_ GE203.out|refine below_set ?_ GE204.out|refine below_set ?_ GE211.out)|exact HB.out)⟩

/-! ### impl_within: function 71 -/
def impl_within.f (a0 : Int) (a1 : Int) (a2 : Int) : Option (Bool):=if a0 ≥ a1 then (some (decide (a0 ≤ a2))) else (some false)
set_option maxHeartbeats 8000000 in
set_option maxRecDepth 100000 in
theorem impl_within.calls (a0 : Int) (a1 : Int) (a2 : Int) (r : Bool) (w : World) (h : impl_within.f a0 a1 a2 = some r) :
  Calls Try.prog 71 #[.int .i64 a0,.int .i64 a1,.int .i64 a2] w fun e w' => e = .returned (.bool r) ∧ Drawn0 w w':=by
 have H : (if a0 ≥ a1 then (some (decide (a0 ≤ a2))) else (some false)) = some r:=h
 clear h
 by_cases c4 : a0 ≥ a1
 ·rw [if_pos c4] at H
  have c4b0 : decide (a1 ≤ a0) = true:=decide_eq_true c4
  clear c4
  obtain rfl:=Option.some.inj H
  go_enter Try.func71,Try.ntmps71
  go_wp2
  go_ret
  exact ⟨by first|rfl|(simp;done)|(simp [*];done),by repeat (first|exact Drawn0.refl _|apply Drawn0.step)⟩
 ·rw [if_neg c4] at H
  have c4b0 : decide (a1 ≤ a0) = false:=decide_eq_false c4
  clear c4
  obtain rfl:=Option.some.inj H
  go_enter Try.func71,Try.ntmps71
  go_wp2
  go_ret
  exact ⟨by first|rfl|(simp;done)|(simp [*];done),by repeat (first|exact Drawn0.refl _|apply Drawn0.step)⟩

end Go.Proofs.Ytojedbogbodkiaa.KSh
