/- Contracts of functions of the program and of the reference, each a Lean function and the proof that Go comes to its answer. Written by wip/pp/pp.py out of the kit's print, for this claim; nothing of it is trusted: Lean checks it. -/
import Derived.Test.YtojedbogbodkiaaKCmx0
import Derived.Test.YtojedbogbodkiaaKCmx3
namespace Go.Proofs.Ytojedbogbodkiaa.KCm
open Go.RowKit Go.Proofs.YtojedbogbodkiaaW.PrintWords Go.Proofs.YtojedbogbodkiaaW.PrintLast Go.Proofs.YtojedbogbodkiaaW.PrintMore
attribute [local go_sem] max2_int min2_int max_two min_two max_three min_three max_four min_four   -- for this text's walks alone
set_option linter.unusedVariables false
set_option linter.unusedSimpArgs false

set_option linter.unusedSectionVars false
variable [fk_laws_szTerm] [fk_laws_toTerm] [fk_laws_eqTerm] [fk_slices_CompareFunc]
/-! ### spec_l03Compare: function 84 -/
mutual
def spec_l03Compare.j0 : Nat → Int → Int → ByteArray → Int → List (S29) → Int → ByteArray → Int → List (S29) → Option (Int)
 | 0,_,_,_,_,_,_,_,_,_ => none
 | k + 1,x5,x150000,x150001,x150002,x150003,x151000,x151001,x151002,x151003 => if x5 = 0 then ((spec_l03Text.f x150001 x151001).bind fun t156 => (spec_l03Compare.j1 k t156 x150000 x150001 x150002 x150003 x151000 x151001 x151002 x151003)) else (spec_l03Compare.j1 k x5 x150000 x150001 x150002 x150003 x151000 x151001 x151002 x151003)
def spec_l03Compare.j1 : Nat → Int → Int → ByteArray → Int → List (S29) → Int → ByteArray → Int → List (S29) → Option (Int)
 | 0,_,_,_,_,_,_,_,_,_ => none
 | k + 1,x5,x150000,x150001,x150002,x150003,x151000,x151001,x151002,x151003 => spec_l03Compare.l0 k x5 0 x150000 x150001 x150002 x150003 x151000 x151001 x151002 x151003
def spec_l03Compare.l0 : Nat → Int → Int → Int → ByteArray → Int → List (S29) → Int → ByteArray → Int → List (S29) → Option (Int)
 | 0,_,_,_,_,_,_,_,_,_,_ => none
 | k + 1,x5,x6,x150000,x150001,x150002,x150003,x151000,x151001,x151002,x151003 => if x6 < (x150003.length : Int) then (if x5 = 0 then (if 0 ≤ x6 then (if x6 < (x151003.length : Int) then ((spec_l03Compare.f k ((rd_T29 x150003 x6).f0) ((rd_T29 x150003 x6).f1) ((rd_T29 x150003 x6).f2) ((rd_T29 x150003 x6).f3) ((rd_T29 x151003 x6).f0) ((rd_T29 x151003 x6).f1) ((rd_T29 x151003 x6).f2) ((rd_T29 x151003 x6).f3)).bind fun t159 => (spec_l03Compare.l0 k t159 (wrap64 (x6 + 1)) x150000 x150001 x150002 x150003 x151000 x151001 x151002 x151003)) else (none)) else (none)) else (some x5)) else (some x5)
def spec_l03Compare.f : Nat → Int → ByteArray → Int → List (S29) → Int → ByteArray → Int → List (S29) → Option (Int)
 | 0,_,_,_,_,_,_,_,_ => none
 | k + 1,a0_0,a0_1,a0_2,l0_3,a1_0,a1_1,a1_2,l1_3 => (spec_l03Rank.f a0_0).bind fun t151 => ((spec_l03Rank.f a1_0).bind fun t152 => ((spec_l03Int.f t151 t152).bind fun t153 => (if t153 = 0 then ((spec_l03Int.f (l0_3.length : Int) (l1_3.length : Int)).bind fun t154 => (if t154 = 0 then ((spec_l03Int.f a0_2 a1_2).bind fun t155 => (spec_l03Compare.j0 k t155 a0_0 a0_1 a0_2 l0_3 a1_0 a1_1 a1_2 l1_3)) else (spec_l03Compare.j0 k t154 a0_0 a0_1 a0_2 l0_3 a1_0 a1_1 a1_2 l1_3))) else (some t153))))
end
theorem spec_l03Compare.mono_l : ∀ k,(∀ y0 y1 y2 y3 y4 y5 y6 y7,LeO (spec_l03Compare.f k y0 y1 y2 y3 y4 y5 y6 y7) (spec_l03Compare.f (k + 1) y0 y1 y2 y3 y4 y5 y6 y7)) ∧ (∀ y0 y1 y2 y3 y4 y5 y6 y7 y8,LeO (spec_l03Compare.j0 k y0 y1 y2 y3 y4 y5 y6 y7 y8) (spec_l03Compare.j0 (k + 1) y0 y1 y2 y3 y4 y5 y6 y7 y8)) ∧ (∀ y0 y1 y2 y3 y4 y5 y6 y7 y8,LeO (spec_l03Compare.j1 k y0 y1 y2 y3 y4 y5 y6 y7 y8) (spec_l03Compare.j1 (k + 1) y0 y1 y2 y3 y4 y5 y6 y7 y8)) ∧ (∀ y0 y1 y2 y3 y4 y5 y6 y7 y8 y9,LeO (spec_l03Compare.l0 k y0 y1 y2 y3 y4 y5 y6 y7 y8 y9) (spec_l03Compare.l0 (k + 1) y0 y1 y2 y3 y4 y5 y6 y7 y8 y9))
 | 0 => ⟨fun _ _ _ _ _ _ _ _ r h => by simp [spec_l03Compare.f] at h,fun _ _ _ _ _ _ _ _ _ r h => by simp [spec_l03Compare.j0] at h,fun _ _ _ _ _ _ _ _ _ r h => by simp [spec_l03Compare.j1] at h,fun _ _ _ _ _ _ _ _ _ _ r h => by simp [spec_l03Compare.l0] at h⟩
 | k + 1 => by
  obtain ⟨ih0,ih1,ih2,ih3⟩:=spec_l03Compare.mono_l k
  refine ⟨?_,?_,?_,?_⟩
  ·intro y0 y1 y2 y3 y4 y5 y6 y7
   unfold spec_l03Compare.f
   repeat' first
   | (with_reducible exact ih0 _ _ _ _ _ _ _ _)
   | (with_reducible exact ih1 _ _ _ _ _ _ _ _ _)
   | (with_reducible exact ih2 _ _ _ _ _ _ _ _ _)
   | (with_reducible exact ih3 _ _ _ _ _ _ _ _ _ _)
   | (with_reducible exact LeO.refl _)
   | (with_reducible exact LeO.none _)
   | (with_reducible refine LeO.ite ?_ ?_)
   | (with_reducible refine LeO.bind ?_ (fun _ => ?_))
   | exact ih0 _ _ _ _ _ _ _ _
   | exact ih1 _ _ _ _ _ _ _ _ _
   | exact ih2 _ _ _ _ _ _ _ _ _
   | exact ih3 _ _ _ _ _ _ _ _ _ _
   | exact LeO.none _
   | refine LeO.ite ?_ ?_
   | refine LeO.bind ?_ (fun _ => ?_)
  ·intro y0 y1 y2 y3 y4 y5 y6 y7 y8
   unfold spec_l03Compare.j0
   repeat' first
   | (with_reducible exact ih0 _ _ _ _ _ _ _ _)
   | (with_reducible exact ih1 _ _ _ _ _ _ _ _ _)
   | (with_reducible exact ih2 _ _ _ _ _ _ _ _ _)
   | (with_reducible exact ih3 _ _ _ _ _ _ _ _ _ _)
   | (with_reducible exact LeO.refl _)
   | (with_reducible exact LeO.none _)
   | (with_reducible refine LeO.ite ?_ ?_)
   | (with_reducible refine LeO.bind ?_ (fun _ => ?_))
   | exact ih0 _ _ _ _ _ _ _ _
   | exact ih1 _ _ _ _ _ _ _ _ _
   | exact ih2 _ _ _ _ _ _ _ _ _
   | exact ih3 _ _ _ _ _ _ _ _ _ _
   | exact LeO.none _
   | refine LeO.ite ?_ ?_
   | refine LeO.bind ?_ (fun _ => ?_)
  ·intro y0 y1 y2 y3 y4 y5 y6 y7 y8
   unfold spec_l03Compare.j1
   repeat' first
   | (with_reducible exact ih0 _ _ _ _ _ _ _ _)
   | (with_reducible exact ih1 _ _ _ _ _ _ _ _ _)
   | (with_reducible exact ih2 _ _ _ _ _ _ _ _ _)
   | (with_reducible exact ih3 _ _ _ _ _ _ _ _ _ _)
   | (with_reducible exact LeO.refl _)
   | (with_reducible exact LeO.none _)
   | (with_reducible refine LeO.ite ?_ ?_)
   | (with_reducible refine LeO.bind ?_ (fun _ => ?_))
   | exact ih0 _ _ _ _ _ _ _ _
   | exact ih1 _ _ _ _ _ _ _ _ _
   | exact ih2 _ _ _ _ _ _ _ _ _
   | exact ih3 _ _ _ _ _ _ _ _ _ _
   | exact LeO.none _
   | refine LeO.ite ?_ ?_
   | refine LeO.bind ?_ (fun _ => ?_)
  ·intro y0 y1 y2 y3 y4 y5 y6 y7 y8 y9
   unfold spec_l03Compare.l0
   repeat' first
   | (with_reducible exact ih0 _ _ _ _ _ _ _ _)
   | (with_reducible exact ih1 _ _ _ _ _ _ _ _ _)
   | (with_reducible exact ih2 _ _ _ _ _ _ _ _ _)
   | (with_reducible exact ih3 _ _ _ _ _ _ _ _ _ _)
   | (with_reducible exact LeO.refl _)
   | (with_reducible exact LeO.none _)
   | (with_reducible refine LeO.ite ?_ ?_)
   | (with_reducible refine LeO.bind ?_ (fun _ => ?_))
   | exact ih0 _ _ _ _ _ _ _ _
   | exact ih1 _ _ _ _ _ _ _ _ _
   | exact ih2 _ _ _ _ _ _ _ _ _
   | exact ih3 _ _ _ _ _ _ _ _ _ _
   | exact LeO.none _
   | refine LeO.ite ?_ ?_
   | refine LeO.bind ?_ (fun _ => ?_)
theorem spec_l03Compare.mono : ∀ a0 a1 a2 a3 a4 a5 a6 a7 k,LeO (spec_l03Compare.f k a0 a1 a2 a3 a4 a5 a6 a7) (spec_l03Compare.f (k + 1) a0 a1 a2 a3 a4 a5 a6 a7):=by
 intro a0 a1 a2 a3 a4 a5 a6 a7 k
 obtain ⟨ih0,ih1,ih2,ih3⟩:=spec_l03Compare.mono_l k
 exact ih0 a0 a1 a2 a3 a4 a5 a6 a7
def spec_l03Compare.T1 : Bool × List (List Nat × List Nat):=(true,[([],[]),([0],[0]),([1],[1]),([],[]),([3],[3]),([4,2],[4]),([2,5,5],[2,5]),([6,6,0,1,2,3,4,5,6],[6])])
def spec_l03Compare.B1 : List Nat:=[0,1,3,0,8,31,63,127]
theorem spec_l03Compare.tab1 : rtab .any (opsOf Try.f84 1) = spec_l03Compare.T1:=by kernel_rfl
theorem spec_l03Compare.bits1 : waitsOk spec_l03Compare.T1.2 spec_l03Compare.B1 = true:=by kernel_rfl
def spec_l03Compare.T12 : Bool × List (List Nat × List Nat):=(true,[([],[]),([0],[0]),([],[]),([1,2],[1,2]),([3],[3]),([],[]),([5],[5]),([],[]),([6,7],[6,7]),([8],[8]),([4,9],[4,9]),([10,10,0,1,2,3,4,5,6,7,8,9,10],[10])])
def spec_l03Compare.B12 : List Nat:=[0,1,0,7,15,0,32,0,224,480,1023,2047]
theorem spec_l03Compare.tab12 : rtab .any (opsOf Try.f84 12) = spec_l03Compare.T12:=by kernel_rfl
theorem spec_l03Compare.bits12 : waitsOk spec_l03Compare.T12.2 spec_l03Compare.B12 = true:=by kernel_rfl
set_option maxHeartbeats 8000000 in
set_option maxRecDepth 100000 in
theorem spec_l03Compare.calls (k : Nat) : ∀ (a0_0 : Int) (a0_1 : ByteArray) (a0_2 : Int) (A0_3 : Option Addr) (c0_3 : Nat) (l0_3 : List (S29)) (a1_0 : Int) (a1_1 : ByteArray) (a1_2 : Int) (A1_3 : Option Addr) (c1_3 : Nat) (l1_3 : List (S29)) (r : Int) (w : World) (hr0_3 : Kd.C k29 w A0_3 l0_3.length l0_3) (hc0_3 : l0_3.length ≤ c0_3) (hr1_3 : Kd.C k29 w A1_3 l1_3.length l1_3) (hc1_3 : l1_3.length ≤ c1_3) (h : spec_l03Compare.f k a0_0 a0_1 a0_2 l0_3 a1_0 a1_1 a1_2 l1_3 = some r),
  Calls Try.prog 84 #[.agg #[.int .i64 a0_0,.string a0_1,.int .i64 a0_2,.slice A0_3 l0_3.length c0_3],.agg #[.int .i64 a1_0,.string a1_1,.int .i64 a1_2,.slice A1_3 l1_3.length c1_3]] w fun e w' => e = .returned (.int .i64 r) ∧ Below w.heap.size w w':=by
 induction k using Nat.strongRecOn with
 | _ k ih =>
 intro a0_0 a0_1 a0_2 A0_3 c0_3 l0_3 a1_0 a1_1 a1_2 A1_3 c1_3 l1_3 r w hr0_3 hc0_3 hr1_3 hc1_3 h
 cases k with
 | zero => exact absurd h (by simp [spec_l03Compare.f])
 | succ k =>
 simp only [spec_l03Compare.f] at h
 have hu29:=Try.underlying29
 have HR0_3:=Aside0.mk hr0_3
 have HC0_3:=Aside0.mk hc0_3
 clear hr0_3 hc0_3
 have HR1_3:=Aside0.mk hr1_3
 have HC1_3:=Aside0.mk hc1_3
 clear hr1_3 hc1_3
 have HB:=Aside0.mk (Below.refl w.heap.size w)
 have H : ((spec_l03Rank.f a0_0).bind fun t151 => ((spec_l03Rank.f a1_0).bind fun t152 => ((spec_l03Int.f t151 t152).bind fun t153 => (if t153 = 0 then ((spec_l03Int.f (l0_3.length : Int) (l1_3.length : Int)).bind fun t154 => (if t154 = 0 then ((spec_l03Int.f a0_2 a1_2).bind fun t155 => (spec_l03Compare.j0 k t155 a0_0 a0_1 a0_2 l0_3 a1_0 a1_1 a1_2 l1_3)) else (spec_l03Compare.j0 k t154 a0_0 a0_1 a0_2 l0_3 a1_0 a1_1 a1_2 l1_3))) else (some t153))))) = some r:=h
 clear h
 replace H:=Option.bind_eq_some_iff.mp H
 obtain ⟨t151,A30,H⟩:=H
 replace H : ((spec_l03Rank.f a1_0).bind fun t152 => ((spec_l03Int.f t151 t152).bind fun t153 => (if t153 = 0 then ((spec_l03Int.f (l0_3.length : Int) (l1_3.length : Int)).bind fun t154 => (if t154 = 0 then ((spec_l03Int.f a0_2 a1_2).bind fun t155 => (spec_l03Compare.j0 k t155 a0_0 a0_1 a0_2 l0_3 a1_0 a1_1 a1_2 l1_3)) else (spec_l03Compare.j0 k t154 a0_0 a0_1 a0_2 l0_3 a1_0 a1_1 a1_2 l1_3))) else (some t153)))) = some r:=H
 have A3:=Aside0.mk A30
 clear A30
 replace H:=Option.bind_eq_some_iff.mp H
 obtain ⟨t152,A40,H⟩:=H
 replace H : ((spec_l03Int.f t151 t152).bind fun t153 => (if t153 = 0 then ((spec_l03Int.f (l0_3.length : Int) (l1_3.length : Int)).bind fun t154 => (if t154 = 0 then ((spec_l03Int.f a0_2 a1_2).bind fun t155 => (spec_l03Compare.j0 k t155 a0_0 a0_1 a0_2 l0_3 a1_0 a1_1 a1_2 l1_3)) else (spec_l03Compare.j0 k t154 a0_0 a0_1 a0_2 l0_3 a1_0 a1_1 a1_2 l1_3))) else (some t153))) = some r:=H
 have A4:=Aside0.mk A40
 clear A40
 replace H:=Option.bind_eq_some_iff.mp H
 obtain ⟨t153,A50,H⟩:=H
 replace H : (if t153 = 0 then ((spec_l03Int.f (l0_3.length : Int) (l1_3.length : Int)).bind fun t154 => (if t154 = 0 then ((spec_l03Int.f a0_2 a1_2).bind fun t155 => (spec_l03Compare.j0 k t155 a0_0 a0_1 a0_2 l0_3 a1_0 a1_1 a1_2 l1_3)) else (spec_l03Compare.j0 k t154 a0_0 a0_1 a0_2 l0_3 a1_0 a1_1 a1_2 l1_3))) else (some t153)) = some r:=H
 have A5:=Aside0.mk A50
 clear A50
 by_cases c6 : t153 = 0
 ·rw [if_pos c6] at H
  have c6b0 : (t153 == 0) = true:=beq_iff_eq.mpr c6
  have c6b1 : (t153 != 0) = false:=bne_eq_false_iff_eq.mpr c6
  clear c6
  replace H:=Option.bind_eq_some_iff.mp H
  obtain ⟨t154,A70,H⟩:=H
  replace H : (if t154 = 0 then ((spec_l03Int.f a0_2 a1_2).bind fun t155 => (spec_l03Compare.j0 k t155 a0_0 a0_1 a0_2 l0_3 a1_0 a1_1 a1_2 l1_3)) else (spec_l03Compare.j0 k t154 a0_0 a0_1 a0_2 l0_3 a1_0 a1_1 a1_2 l1_3)) = some r:=H
  have A7:=Aside0.mk A70
  clear A70
  have HC8:=Aside0.mk H
  clear H
  go_enter Try.func84,Try.ntmps84
  try go_wp2_with (first|((with_reducible refine gate_dst (N:=2) rfl ?_);refine box_event ?hg (N:=2) ?hd (cs:=#[.int .i64 a0_0,.string a0_1,.int .i64 a0_2,.slice A0_3 l0_3.length c0_3]) (t:=29) ?hr ?_;(case hd => rfl);(case hg => rfl);(case hr => first|(go_simp;done)|(go_simp;rfl));intro gb149 hg w9 hbox hb;have n0_:=Aside0.mk (below_step (by repeat (first|(with_reducible first|exact HB.out|apply below_alloc|apply pw_below_drewN|apply below_drew1)|exact HB.out)) hb);have n1_:=Aside0.mk (hbox);have n2_:=Aside0.mk ((by rw [hg];exact (below_size (by repeat (first|(with_reducible first|exact HB.out|apply below_alloc|apply pw_below_drewN|apply below_drew1)|exact HB.out))) : w.heap.size ≤ gb149));have n3_:=Aside0.mk ((by rw [hg];exact (below_size (by repeat (first|(with_reducible first|exact HB.out|apply below_alloc|apply pw_below_drewN|apply below_drew1)|exact HB.out))) : w.heap.size ≤ gb149));clear HB;have HB:=n0_;have BK149:=n1_;have GW149:=n2_;have GE149:=n3_;clear n0_ n1_ n2_ n3_;clear hb hbox hg)|((with_reducible refine gate_dst (N:=3) rfl ?_);refine box_event ?hg (N:=3) ?hd (cs:=#[.int .i64 a1_0,.string a1_1,.int .i64 a1_2,.slice A1_3 l1_3.length c1_3]) (t:=29) ?hr ?_;(case hd => rfl);(case hg => rfl);(case hr => first|(go_simp;done)|(go_simp;rfl));intro gb150 hg w10 hbox hb;have n0_:=Aside0.mk (blk_below (g:=gb149) (o:=.cells #[.int .i64 a0_0,.string a0_1,.int .i64 a0_2,.slice A0_3 l0_3.length c0_3] 29 (0,0)) (by (with_reducible repeat (first|refine blk_drewN ?_ _|refine blk_drew ?_|refine blk_alloc ?_ _));exact BK149.out) hb);have n1_:=Aside0.mk (below_step (by repeat (first|(with_reducible first|exact HB.out|apply below_alloc|apply pw_below_drewN|apply below_drew1|refine below_set ?_ GE149.out)|exact HB.out)) hb);have n2_:=Aside0.mk (hbox);have n3_:=Aside0.mk ((by rw [hg];exact (below_size (by repeat (first|(with_reducible first|exact HB.out|apply below_alloc|apply pw_below_drewN|apply below_drew1|refine below_set ?_ GE149.out)|exact HB.out))) : w.heap.size ≤ gb150));have n4_:=Aside0.mk ((by rw [hg];exact (below_size (by repeat (first|(with_reducible first|exact HB.out|apply below_alloc|apply pw_below_drewN|apply below_drew1|refine below_set ?_ GE149.out)|exact HB.out))) : w.heap.size ≤ gb150));have n5_:=Aside0.mk ((by rw [hg];exact Nat.ne_of_lt (blk_lt (g:=gb149) (o:=.cells #[.int .i64 a0_0,.string a0_1,.int .i64 a0_2,.slice A0_3 l0_3.length c0_3] 29 (0,0)) (by (with_reducible repeat (first|refine blk_drewN ?_ _|refine blk_drew ?_|refine blk_alloc ?_ _));exact BK149.out)) : gb149 ≠ gb150));have n6_:=Aside0.mk ((by rw [hg];exact Nat.ne_of_gt (blk_lt (g:=gb149) (o:=.cells #[.int .i64 a0_0,.string a0_1,.int .i64 a0_2,.slice A0_3 l0_3.length c0_3] 29 (0,0)) (by (with_reducible repeat (first|refine blk_drewN ?_ _|refine blk_drew ?_|refine blk_alloc ?_ _));exact BK149.out)) : gb150 ≠ gb149));clear BK149;clear HB;have BK149:=n0_;have HB:=n1_;have BK150:=n2_;have GW150:=n3_;have GE150:=n4_;have NB149_150:=n5_;have NB150_149:=n6_;clear n0_ n1_ n2_ n3_ n4_ n5_ n6_;clear hb hbox hg))
  have n0_:=Aside0.mk (blk_drew BK149.out)
  have n1_:=Aside0.mk (blk_drew BK150.out)
  have n2_:=Aside0.mk (below_drew1 HB.out)
  clear BK149
  clear BK150
  clear HB
  have BK149:=n0_
  have BK150:=n1_
  have HB:=n2_
  clear n0_ n1_ n2_
  refine start_ (n:=8) (S:=fun w' => w'.cell? ⟨gb149,0,none⟩ = some (.int .i64 a0_0) ∧ w'.cell? ⟨gb149,1,none⟩ = some (.string a0_1) ∧ w'.cell? ⟨gb149,2,none⟩ = some (.int .i64 a0_2) ∧ w'.cell? ⟨gb149,3,none⟩ = some (.slice A0_3 l0_3.length c0_3) ∧ w'.cell? ⟨gb150,0,none⟩ = some (.int .i64 a1_0) ∧ w'.cell? ⟨gb150,1,none⟩ = some (.string a1_1) ∧ w'.cell? ⟨gb150,2,none⟩ = some (.int .i64 a1_2) ∧ w'.cell? ⟨gb150,3,none⟩ = some (.slice A1_3 l1_3.length c1_3)) (ds:=[]) #[false,false,false,false,false,false,false,false] (by kernel_rfl) rfl rfl ⟨(blk_cell BK149.out 0).trans rfl,(blk_cell BK149.out 1).trans rfl,(blk_cell BK149.out 2).trans rfl,(blk_cell BK149.out 3).trans rfl,(blk_cell BK150.out 0).trans rfl,(blk_cell BK150.out 1).trans rfl,(blk_cell BK150.out 2).trans rfl,(blk_cell BK150.out 3).trans rfl⟩ (fun hHeld => ?_);refine with_tabW spec_l03Compare.tab1 spec_l03Compare.bits1 (fun HT_ HW_ => ?_)
  generalize w10.drew = w11 at BK149 BK150 HB hHeld ⊢
  refine pure_ (i:=0) (N:=some 7) (v:=?_) (a':=?_) #[true,false,false,false,false,false,false,false] rfl rfl (any_of HT_.out (by kernel_rfl)) (fun _ _ _ h => h) (Or.inl ⟨by rfl,?_⟩) ?_ ?_
  rotate_left
  ·intro w'
   go_simp
   with_reducible rfl
  rotate_left
  ·simp only [Act.put,List.setIfInBounds_toArray,List.set_cons_zero,List.set_cons_succ,i64_w,i32_w]
   rfl
  refine pure_ (i:=3) (N:=some 10) (v:=?_) (a':=?_) #[true,false,false,true,false,false,false,false] rfl rfl (any_of HT_.out (by kernel_rfl)) (fun _ _ _ h => h) (Or.inl ⟨by rfl,?_⟩) ?_ ?_
  rotate_left
  ·intro w'
   go_simp
   with_reducible rfl
  rotate_left
  ·simp only [Act.put,List.setIfInBounds_toArray,List.set_cons_zero,List.set_cons_succ,i64_w,i32_w]
   rfl
  refine take_ (i:=1) (N:=some 8) (v:=?_) (a':=?_) #[true,true,false,true,false,false,false,false] rfl rfl (take_ofW HT_.out HW_.out (by kernel_rfl)) (fun _ _ _ h => h) (Or.inl ⟨by rfl,?_⟩) hHeld ?_ ?_
  rotate_left
  ·rintro w' ⟨s0,s1,s2,s3,s4,s5,s6,s7⟩
   go_simp
   with_reducible rfl
  rotate_left
  ·simp only [Act.put,List.setIfInBounds_toArray,List.set_cons_zero,List.set_cons_succ,i64_w,i32_w]
   rfl
  refine take_ (i:=4) (N:=some 11) (v:=?_) (a':=?_) #[true,true,false,true,true,false,false,false] rfl rfl (take_ofW HT_.out HW_.out (by kernel_rfl)) (fun _ _ _ h => h) (Or.inl ⟨by rfl,?_⟩) hHeld ?_ ?_
  rotate_left
  ·rintro w' ⟨s0,s1,s2,s3,s4,s5,s6,s7⟩
   go_simp
   with_reducible rfl
  rotate_left
  ·simp only [Act.put,List.setIfInBounds_toArray,List.set_cons_zero,List.set_cons_succ,i64_w,i32_w]
   rfl
  refine one_ (i:=2) (N:=some 9) #[true,true,true,true,true,false,false,false] rfl rfl (one_of HT_.out (by kernel_rfl)) (by decide) (fun K hK => ?_)
  refine goes_ Try.func114 (by kernel_rfl) rfl #[.int .i64 a0_0] (by rfl) rfl rfl (by (try simp only [List.map_toArray,List.map_cons,List.map_nil]);first|done|rfl|(simp only [List.length_drop,List.length_take];rfl)) ?_
  with_reducible refine (spec_l03Rank.calls a0_0 t151 _ A3.out).mono ?_
  rintro e w12 ⟨rfl,hb⟩
  refine ⟨_,rfl,?_⟩
  have n0_:=Aside0.mk (blk_below (g:=gb149) (o:=.cells #[.int .i64 a0_0,.string a0_1,.int .i64 a0_2,.slice A0_3 l0_3.length c0_3] 29 (0,0)) (by (with_reducible repeat (first|refine blk_drewN ?_ _|refine blk_drew ?_|refine blk_alloc ?_ _));exact BK149.out) hb)
  have n1_:=Aside0.mk (blk_below (g:=gb150) (o:=.cells #[.int .i64 a1_0,.string a1_1,.int .i64 a1_2,.slice A1_3 l1_3.length c1_3] 29 (0,0)) (by (with_reducible repeat (first|refine blk_drewN ?_ _|refine blk_drew ?_|refine blk_alloc ?_ _));exact BK150.out) hb)
  have n2_:=Aside0.mk (below_step (by repeat (first|(with_reducible first|exact HB.out|apply below_alloc|apply pw_below_drewN|apply below_drew1|refine below_set ?_ GE149.out|refine below_set ?_ GE150.out)|exact HB.out)) hb)
  clear BK149
  clear BK150
  clear HB
  have BK149:=n0_
  have BK150:=n1_
  have HB:=n2_
  clear n0_ n1_ n2_
  (try clear hb)
  (try clear hb2)
  (try clear hk)
  (try clear hi)
  refine hK.out _ _ ⟨(blk_cell BK149.out 0).trans rfl,(blk_cell BK149.out 1).trans rfl,(blk_cell BK149.out 2).trans rfl,(blk_cell BK149.out 3).trans rfl,(blk_cell BK150.out 0).trans rfl,(blk_cell BK150.out 1).trans rfl,(blk_cell BK150.out 2).trans rfl,(blk_cell BK150.out 3).trans rfl⟩ (fun hHeld => ?_)
  clear hK K
  refine norm_ (a':=?_) ?_ ?_
  rotate_left
  ·show Act.put _ (some 9) _ = _
   simp only [Act.put,List.setIfInBounds_toArray,List.set_cons_zero,List.set_cons_succ,i64_w,i32_w]
   rfl
  refine one_ (i:=5) (N:=some 12) #[true,true,true,true,true,true,false,false] rfl rfl (one_of HT_.out (by kernel_rfl)) (by decide) (fun K hK => ?_)
  refine goes_ Try.func114 (by kernel_rfl) rfl #[.int .i64 a1_0] (by rfl) rfl rfl (by (try simp only [List.map_toArray,List.map_cons,List.map_nil]);first|done|rfl|(simp only [List.length_drop,List.length_take];rfl)) ?_
  with_reducible refine (spec_l03Rank.calls a1_0 t152 _ A4.out).mono ?_
  rintro e w13 ⟨rfl,hb⟩
  refine ⟨_,rfl,?_⟩
  have n0_:=Aside0.mk (blk_below (g:=gb149) (o:=.cells #[.int .i64 a0_0,.string a0_1,.int .i64 a0_2,.slice A0_3 l0_3.length c0_3] 29 (0,0)) (by (with_reducible repeat (first|refine blk_drewN ?_ _|refine blk_drew ?_|refine blk_alloc ?_ _));exact BK149.out) hb)
  have n1_:=Aside0.mk (blk_below (g:=gb150) (o:=.cells #[.int .i64 a1_0,.string a1_1,.int .i64 a1_2,.slice A1_3 l1_3.length c1_3] 29 (0,0)) (by (with_reducible repeat (first|refine blk_drewN ?_ _|refine blk_drew ?_|refine blk_alloc ?_ _));exact BK150.out) hb)
  have n2_:=Aside0.mk (below_step (by repeat (first|(with_reducible first|exact HB.out|apply below_alloc|apply pw_below_drewN|apply below_drew1|refine below_set ?_ GE149.out|refine below_set ?_ GE150.out)|exact HB.out)) hb)
  clear BK149
  clear BK150
  clear HB
  have BK149:=n0_
  have BK150:=n1_
  have HB:=n2_
  clear n0_ n1_ n2_
  (try clear hb)
  (try clear hb2)
  (try clear hk)
  (try clear hi)
  refine hK.out _ _ ⟨(blk_cell BK149.out 0).trans rfl,(blk_cell BK149.out 1).trans rfl,(blk_cell BK149.out 2).trans rfl,(blk_cell BK149.out 3).trans rfl,(blk_cell BK150.out 0).trans rfl,(blk_cell BK150.out 1).trans rfl,(blk_cell BK150.out 2).trans rfl,(blk_cell BK150.out 3).trans rfl⟩ (fun hHeld => ?_)
  clear hK K
  refine norm_ (a':=?_) ?_ ?_
  rotate_left
  ·show Act.put _ (some 12) _ = _
   simp only [Act.put,List.setIfInBounds_toArray,List.set_cons_zero,List.set_cons_succ,i64_w,i32_w]
   rfl
  refine one_ (i:=6) (N:=some 13) #[true,true,true,true,true,true,true,false] rfl rfl (one_of HT_.out (by kernel_rfl)) (by decide) (fun K hK => ?_)
  refine goes_ Try.func113 (by kernel_rfl) rfl #[.int .i64 t151,.int .i64 t152] (by rfl) rfl rfl (by (try simp only [List.map_toArray,List.map_cons,List.map_nil]);first|done|rfl|(simp only [List.length_drop,List.length_take];rfl)) ?_
  with_reducible refine (spec_l03Int.calls t151 t152 t153 _ A5.out).mono ?_
  rintro e w' ⟨rfl,⟨nd,rfl⟩⟩
  refine ⟨_,rfl,?_⟩
  refine hK.out _ _ ⟨(blk_cell BK149.out 0).trans rfl,(blk_cell BK149.out 1).trans rfl,(blk_cell BK149.out 2).trans rfl,(blk_cell BK149.out 3).trans rfl,(blk_cell BK150.out 0).trans rfl,(blk_cell BK150.out 1).trans rfl,(blk_cell BK150.out 2).trans rfl,(blk_cell BK150.out 3).trans rfl⟩ (fun hHeld => ?_)
  clear hK K
  refine norm_ (a':=?_) ?_ ?_
  rotate_left
  ·show Act.put _ (some 13) _ = _
   simp only [Act.put,List.setIfInBounds_toArray,List.set_cons_zero,List.set_cons_succ,i64_w,i32_w]
   rfl
  refine pure_ (i:=7) (N:=some 5) (v:=?_) (a':=?_) #[true,true,true,true,true,true,true,true] rfl rfl (any_of HT_.out (by kernel_rfl)) (fun _ _ _ h => h) (Or.inl ⟨by rfl,?_⟩) ?_ ?_
  rotate_left
  ·intro w'
   go_simp
   with_reducible rfl
  rotate_left
  ·simp only [Act.put,List.setIfInBounds_toArray,List.set_cons_zero,List.set_cons_succ,i64_w,i32_w]
   rfl
  refine done_ (done_of HT_.out (by kernel_rfl)) ?_
  have hnb14:=NB149_150.out
  have hnc14:=NB150_149.out
  have hcz15_0 : w13.cell? ⟨gb149,0,none⟩ = some (.int .i64 a0_0):=(blk_cell BK149.out 0).trans rfl
  have hcz15_1 : w13.cell? ⟨gb149,1,none⟩ = some (.string a0_1):=(blk_cell BK149.out 1).trans rfl
  have hcz15_2 : w13.cell? ⟨gb149,2,none⟩ = some (.int .i64 a0_2):=(blk_cell BK149.out 2).trans rfl
  have hcz15_3 : w13.cell? ⟨gb149,3,none⟩ = some (.slice A0_3 l0_3.length c0_3):=(blk_cell BK149.out 3).trans rfl
  have hfz15_0:=blk_frozen BK149.out 0
  have hfz15_1:=blk_frozen BK149.out 1
  have hfz15_2:=blk_frozen BK149.out 2
  have hfz15_3:=blk_frozen BK149.out 3
  have hcz16_0 : w13.cell? ⟨gb150,0,none⟩ = some (.int .i64 a1_0):=(blk_cell BK150.out 0).trans rfl
  have hcz16_1 : w13.cell? ⟨gb150,1,none⟩ = some (.string a1_1):=(blk_cell BK150.out 1).trans rfl
  have hcz16_2 : w13.cell? ⟨gb150,2,none⟩ = some (.int .i64 a1_2):=(blk_cell BK150.out 2).trans rfl
  have hcz16_3 : w13.cell? ⟨gb150,3,none⟩ = some (.slice A1_3 l1_3.length c1_3):=(blk_cell BK150.out 3).trans rfl
  have hfz16_0:=blk_frozen BK150.out 0
  have hfz16_1:=blk_frozen BK150.out 1
  have hfz16_2:=blk_frozen BK150.out 2
  have hfz16_3:=blk_frozen BK150.out 3
  go_upto_if 25 with (first|((with_reducible refine gate_callee (f:=113) rfl ?_);refine goesL_ (some 23) rfl rfl Try.func113 (by kernel_rfl) rfl #[.int .i64 (l0_3.length : Int),.int .i64 (l1_3.length : Int)] rfl (by (try simp only [List.map_toArray,List.map_cons,List.map_nil]);first|done|rfl|(simp only [List.length_drop,List.length_take];rfl)) ?_;(with_reducible refine (spec_l03Int.calls (l0_3.length : Int) (l1_3.length : Int) t154 _ A7.out).mono ?_);rintro e w' ⟨rfl,⟨nd,rfl⟩⟩;refine ⟨_,rfl,?_⟩))
  (try simp only [Act.put,List.setIfInBounds_toArray,List.set_cons_zero,List.set_cons_succ])
  go_cut [5] (fun v5 wc => ∃ (kq : Nat) (x5_7 : Int),v5 = .int .i64 x5_7 ∧ Aside0 (spec_l03Compare.j0 kq x5_7 a0_0 a0_1 a0_2 l0_3 a1_0 a1_1 a1_2 l1_3 = some r) ∧ Aside0 (kq ≤ k) ∧ Aside0 (wc.heap[gb149]? = some (.cells #[.int .i64 a0_0,.string a0_1,.int .i64 a0_2,(.slice A0_3 l0_3.length c0_3)] 29 (0,0))) ∧ Aside0 (wc.heap[gb150]? = some (.cells #[.int .i64 a1_0,.string a1_1,.int .i64 a1_2,(.slice A1_3 l1_3.length c1_3)] 29 (0,0))) ∧ Aside0 (Below w.heap.size w wc))
  case first =>
   have H:=HC8.out
   clear HC8
   by_cases c17 : t154 = 0
   ·rw [if_pos c17] at H
    have c17b0 : (t154 == 0) = true:=beq_iff_eq.mpr c17
    have c17b1 : (t154 != 0) = false:=bne_eq_false_iff_eq.mpr c17
    clear c17
    (first|rw [c17b0]|(simp only [i64_w,i32_w];rw [c17b0])|skip)
    replace H:=Option.bind_eq_some_iff.mp H
    obtain ⟨t155,A180,H⟩:=H
    replace H : (spec_l03Compare.j0 k t155 a0_0 a0_1 a0_2 l0_3 a1_0 a1_1 a1_2 l1_3) = some r:=H
    have A18:=Aside0.mk A180
    clear A180
    have H':=Aside0.mk H
    clear H
    have hnb19:=NB149_150.out
    have hnc19:=NB150_149.out
    have hcz20_0 : w13.cell? ⟨gb149,0,none⟩ = some (.int .i64 a0_0):=(blk_cell BK149.out 0).trans rfl
    have hcz20_1 : w13.cell? ⟨gb149,1,none⟩ = some (.string a0_1):=(blk_cell BK149.out 1).trans rfl
    have hcz20_2 : w13.cell? ⟨gb149,2,none⟩ = some (.int .i64 a0_2):=(blk_cell BK149.out 2).trans rfl
    have hcz20_3 : w13.cell? ⟨gb149,3,none⟩ = some (.slice A0_3 l0_3.length c0_3):=(blk_cell BK149.out 3).trans rfl
    have hfz20_0:=blk_frozen BK149.out 0
    have hfz20_1:=blk_frozen BK149.out 1
    have hfz20_2:=blk_frozen BK149.out 2
    have hfz20_3:=blk_frozen BK149.out 3
    have hcz21_0 : w13.cell? ⟨gb150,0,none⟩ = some (.int .i64 a1_0):=(blk_cell BK150.out 0).trans rfl
    have hcz21_1 : w13.cell? ⟨gb150,1,none⟩ = some (.string a1_1):=(blk_cell BK150.out 1).trans rfl
    have hcz21_2 : w13.cell? ⟨gb150,2,none⟩ = some (.int .i64 a1_2):=(blk_cell BK150.out 2).trans rfl
    have hcz21_3 : w13.cell? ⟨gb150,3,none⟩ = some (.slice A1_3 l1_3.length c1_3):=(blk_cell BK150.out 3).trans rfl
    have hfz21_0:=blk_frozen BK150.out 0
    have hfz21_1:=blk_frozen BK150.out 1
    have hfz21_2:=blk_frozen BK150.out 2
    have hfz21_3:=blk_frozen BK150.out 3
    go_wp2_with (first|((with_reducible refine gate_callee (f:=113) rfl ?_);refine goesL_ (some 30) rfl rfl Try.func113 (by kernel_rfl) rfl #[.int .i64 a0_2,.int .i64 a1_2] rfl (by (try simp only [List.map_toArray,List.map_cons,List.map_nil]);first|done|rfl|(simp only [List.length_drop,List.length_take];rfl)) ?_;(with_reducible refine (spec_l03Int.calls a0_2 a1_2 t155 _ A18.out).mono ?_);rintro e w' ⟨rfl,⟨nd,rfl⟩⟩;refine ⟨_,rfl,?_⟩))
    go_meet
    case rel => exact ⟨_,(t155),(by first|rfl|(simp;done)|(simp [*];done)),H',⟨by first|omega|exact Nat.le_refl _⟩,⟨by (with_reducible repeat (first|refine blk_drewN ?_ _|refine blk_drew ?_|refine blk_alloc ?_ _));exact BK149.out⟩,⟨by (with_reducible repeat (first|refine blk_drewN ?_ _|refine blk_drew ?_|refine blk_alloc ?_ _));exact BK150.out⟩,⟨by repeat (first|(with_reducible first|exact HB.out|apply below_alloc|apply pw_below_drewN|apply below_drew1|refine below_set ?_ GE149.out|refine below_set ?_ GE150.out)|exact HB.out)⟩⟩
   ·rw [if_neg c17] at H
    have c17b0 : (t154 == 0) = false:=beq_eq_false_iff_ne.mpr c17
    have c17b1 : (t154 != 0) = true:=bne_iff_ne.mpr c17
    (first|rw [c17b0]|(simp only [i64_w,i32_w];rw [c17b0])|skip)
    have H':=Aside0.mk H
    clear H
    go_wp2
    go_meet
    case rel => exact ⟨_,(t154),(by first|rfl|(simp;done)|(simp [*];done)),H',⟨by first|omega|exact Nat.le_refl _⟩,⟨by (with_reducible repeat (first|refine blk_drewN ?_ _|refine blk_drew ?_|refine blk_alloc ?_ _));exact BK149.out⟩,⟨by (with_reducible repeat (first|refine blk_drewN ?_ _|refine blk_drew ?_|refine blk_alloc ?_ _));exact BK150.out⟩,⟨by repeat (first|(with_reducible first|exact HB.out|apply below_alloc|apply pw_below_drewN|apply below_drew1|refine below_set ?_ GE149.out|refine below_set ?_ GE150.out)|exact HB.out)⟩⟩
  case rest =>
   clear HC8
   try clear c1
   try clear p2
   try clear c6
   try clear c6b0
   try clear c6b1
   try clear c8
   try clear c11
   try clear c14
   try clear c17
   try clear c17b0
   try clear c17b1
   try clear c19
   try clear hcz15_0
   try clear hcz15_1
   try clear hcz15_2
   try clear hcz15_3
   try clear hcz16_0
   try clear hcz16_1
   try clear hcz16_2
   try clear hcz16_3
   try clear hcz20_0
   try clear hcz20_1
   try clear hcz20_2
   try clear hcz20_3
   try clear hcz21_0
   try clear hcz21_1
   try clear hcz21_2
   try clear hcz21_3
   try clear hfz15_0
   try clear hfz15_1
   try clear hfz15_2
   try clear hfz15_3
   try clear hfz16_0
   try clear hfz16_1
   try clear hfz16_2
   try clear hfz16_3
   try clear hfz20_0
   try clear hfz20_1
   try clear hfz20_2
   try clear hfz20_3
   try clear hfz21_0
   try clear hfz21_1
   try clear hfz21_2
   try clear hfz21_3
   obtain ⟨kq,x5_7,rfl,HA,HJ7,BK149,BK150,HB⟩:=hcut
   cases kq with
   | zero => exact absurd HA.out (by simp [spec_l03Compare.j0])
   | succ kj7 =>
    have H:=HA.out
    clear HA
    simp only [spec_l03Compare.j0] at H
    have HC22:=Aside0.mk H
    clear H
    go_upto_if 32 with (fail)
    go_cut [5] (fun v5 wc => ∃ (kq : Nat) (x5_21 : Int),v5 = .int .i64 x5_21 ∧ Aside0 (spec_l03Compare.j1 kq x5_21 a0_0 a0_1 a0_2 l0_3 a1_0 a1_1 a1_2 l1_3 = some r) ∧ Aside0 (kq ≤ kj7) ∧ Aside0 (wc.heap[gb149]? = some (.cells #[.int .i64 a0_0,.string a0_1,.int .i64 a0_2,(.slice A0_3 l0_3.length c0_3)] 29 (0,0))) ∧ Aside0 (wc.heap[gb150]? = some (.cells #[.int .i64 a1_0,.string a1_1,.int .i64 a1_2,(.slice A1_3 l1_3.length c1_3)] 29 (0,0))) ∧ Aside0 (Below w.heap.size w wc))
    case first =>
     have H:=HC22.out
     clear HC22
     by_cases c23 : x5_7 = 0
     ·rw [if_pos c23] at H
      have c23b0 : (x5_7 == 0) = true:=beq_iff_eq.mpr c23
      have c23b1 : (x5_7 != 0) = false:=bne_eq_false_iff_eq.mpr c23
      clear c23
      (first|rw [c23b0]|(simp only [i64_w,i32_w];rw [c23b0])|skip)
      replace H:=Option.bind_eq_some_iff.mp H
      obtain ⟨t156,A240,H⟩:=H
      replace H : (spec_l03Compare.j1 kj7 t156 a0_0 a0_1 a0_2 l0_3 a1_0 a1_1 a1_2 l1_3) = some r:=H
      have A24:=Aside0.mk A240
      clear A240
      have H':=Aside0.mk H
      clear H
      have hnb25:=NB149_150.out
      have hnc25:=NB150_149.out
      have hcz26_0 : wc.cell? ⟨gb149,0,none⟩ = some (.int .i64 a0_0):=(blk_cell BK149.out 0).trans rfl
      have hcz26_1 : wc.cell? ⟨gb149,1,none⟩ = some (.string a0_1):=(blk_cell BK149.out 1).trans rfl
      have hcz26_2 : wc.cell? ⟨gb149,2,none⟩ = some (.int .i64 a0_2):=(blk_cell BK149.out 2).trans rfl
      have hcz26_3 : wc.cell? ⟨gb149,3,none⟩ = some (.slice A0_3 l0_3.length c0_3):=(blk_cell BK149.out 3).trans rfl
      have hfz26_0:=blk_frozen BK149.out 0
      have hfz26_1:=blk_frozen BK149.out 1
      have hfz26_2:=blk_frozen BK149.out 2
      have hfz26_3:=blk_frozen BK149.out 3
      have hcz27_0 : wc.cell? ⟨gb150,0,none⟩ = some (.int .i64 a1_0):=(blk_cell BK150.out 0).trans rfl
      have hcz27_1 : wc.cell? ⟨gb150,1,none⟩ = some (.string a1_1):=(blk_cell BK150.out 1).trans rfl
      have hcz27_2 : wc.cell? ⟨gb150,2,none⟩ = some (.int .i64 a1_2):=(blk_cell BK150.out 2).trans rfl
      have hcz27_3 : wc.cell? ⟨gb150,3,none⟩ = some (.slice A1_3 l1_3.length c1_3):=(blk_cell BK150.out 3).trans rfl
      have hfz27_0:=blk_frozen BK150.out 0
      have hfz27_1:=blk_frozen BK150.out 1
      have hfz27_2:=blk_frozen BK150.out 2
      have hfz27_3:=blk_frozen BK150.out 3
      go_wp2_with (first|((with_reducible refine gate_callee (f:=115) rfl ?_);refine goesL_ (some 37) rfl rfl Try.func115 (by kernel_rfl) rfl #[.string a0_1,.string a1_1] rfl (by (try simp only [List.map_toArray,List.map_cons,List.map_nil]);first|done|rfl|(simp only [List.length_drop,List.length_take];rfl)) ?_;(with_reducible refine (spec_l03Text.calls a0_1 a1_1 t156 _ A24.out).mono ?_);rintro e w' ⟨rfl,⟨nd,rfl⟩⟩;refine ⟨_,rfl,?_⟩))
      go_meet
      case rel => exact ⟨_,(t156),(by first|rfl|(simp;done)|(simp [*];done)),H',⟨by have:=HJ7.out;first|omega|exact Nat.le_refl _⟩,⟨by (with_reducible repeat (first|refine blk_drewN ?_ _|refine blk_drew ?_|refine blk_alloc ?_ _));exact BK149.out⟩,⟨by (with_reducible repeat (first|refine blk_drewN ?_ _|refine blk_drew ?_|refine blk_alloc ?_ _));exact BK150.out⟩,⟨by repeat (first|(with_reducible first|exact HB.out|apply below_alloc|apply pw_below_drewN|apply below_drew1|refine below_set ?_ GE149.out|refine below_set ?_ GE150.out)|exact HB.out)⟩⟩
     ·rw [if_neg c23] at H
      have c23b0 : (x5_7 == 0) = false:=beq_eq_false_iff_ne.mpr c23
      have c23b1 : (x5_7 != 0) = true:=bne_iff_ne.mpr c23
      (first|rw [c23b0]|(simp only [i64_w,i32_w];rw [c23b0])|skip)
      have H':=Aside0.mk H
      clear H
      go_wp2
      go_meet
      case rel => exact ⟨_,(x5_7),(by first|rfl|(simp;done)|(simp [*];done)),H',⟨by have:=HJ7.out;first|omega|exact Nat.le_refl _⟩,⟨by (with_reducible repeat (first|refine blk_drewN ?_ _|refine blk_drew ?_|refine blk_alloc ?_ _));exact BK149.out⟩,⟨by (with_reducible repeat (first|refine blk_drewN ?_ _|refine blk_drew ?_|refine blk_alloc ?_ _));exact BK150.out⟩,⟨by repeat (first|(with_reducible first|exact HB.out|apply below_alloc|apply pw_below_drewN|apply below_drew1|refine below_set ?_ GE149.out|refine below_set ?_ GE150.out)|exact HB.out)⟩⟩
    case rest =>
     clear HC22
     try clear c1
     try clear c2
     try clear p2
     try clear c6
     try clear c6b0
     try clear c6b1
     try clear c8
     try clear c11
     try clear c14
     try clear c17
     try clear c17b0
     try clear c17b1
     try clear c19
     try clear c23
     try clear c23b0
     try clear c23b1
     try clear c25
     try clear hcz15_0
     try clear hcz15_1
     try clear hcz15_2
     try clear hcz15_3
     try clear hcz16_0
     try clear hcz16_1
     try clear hcz16_2
     try clear hcz16_3
     try clear hcz20_0
     try clear hcz20_1
     try clear hcz20_2
     try clear hcz20_3
     try clear hcz21_0
     try clear hcz21_1
     try clear hcz21_2
     try clear hcz21_3
     try clear hcz26_0
     try clear hcz26_1
     try clear hcz26_2
     try clear hcz26_3
     try clear hcz27_0
     try clear hcz27_1
     try clear hcz27_2
     try clear hcz27_3
     try clear hfz15_0
     try clear hfz15_1
     try clear hfz15_2
     try clear hfz15_3
     try clear hfz16_0
     try clear hfz16_1
     try clear hfz16_2
     try clear hfz16_3
     try clear hfz20_0
     try clear hfz20_1
     try clear hfz20_2
     try clear hfz20_3
     try clear hfz21_0
     try clear hfz21_1
     try clear hfz21_2
     try clear hfz21_3
     try clear hfz26_0
     try clear hfz26_1
     try clear hfz26_2
     try clear hfz26_3
     try clear hfz27_0
     try clear hfz27_1
     try clear hfz27_2
     try clear hfz27_3
     try clear p2
     obtain ⟨kq,x5_21,rfl,HA,HJ21,BK149,BK150,HB⟩:=hcut
     cases kq with
     | zero => exact absurd HA.out (by simp [spec_l03Compare.j1])
     | succ kj21 =>
      have H:=HA.out
      clear HA
      simp only [spec_l03Compare.j1] at H
      have H':=Aside0.mk H
      clear H
      go_wp2
      go_loopg [5,6] kj21 (fun kq v5 v6 w' => ∃ (x5_3 : Int) (x6_3 : Int),v5 = .int .i64 x5_3 ∧ v6 = .int .i64 x6_3 ∧ Aside0 (spec_l03Compare.l0 kq x5_3 x6_3 a0_0 a0_1 a0_2 l0_3 a1_0 a1_1 a1_2 l1_3 = some r) ∧ Aside0 (kq ≤ kj21) ∧ Aside0 (w'.heap[gb149]? = some (.cells #[.int .i64 a0_0,.string a0_1,.int .i64 a0_2,(.slice A0_3 l0_3.length c0_3)] 29 (0,0))) ∧ Aside0 (w'.heap[gb150]? = some (.cells #[.int .i64 a1_0,.string a1_1,.int .i64 a1_2,(.slice A1_3 l1_3.length c1_3)] 29 (0,0))) ∧ Aside0 (Below w.heap.size w w'))
      case atStart => exact ⟨(x5_21),(0),(by first|rfl|(simp;done)|(simp [*];done)),(by first|rfl|(simp;done)|(simp [*];done)),H',⟨Nat.le_refl _⟩,⟨by (with_reducible repeat (first|refine blk_drewN ?_ _|refine blk_drew ?_|refine blk_alloc ?_ _));exact BK149.out⟩,⟨by (with_reducible repeat (first|refine blk_drewN ?_ _|refine blk_drew ?_|refine blk_alloc ?_ _));exact BK150.out⟩,⟨by repeat (first|(with_reducible first|exact HB.out|apply below_alloc|apply pw_below_drewN|apply below_drew1|refine below_set ?_ GE149.out|refine below_set ?_ GE150.out)|exact HB.out)⟩⟩
      case round =>
       clear H'
       try clear c1
       try clear c2
       try clear p2
       try clear c6
       try clear c6b0
       try clear c6b1
       try clear c8
       try clear c11
       try clear c14
       try clear c17
       try clear c17b0
       try clear c17b1
       try clear c19
       try clear c23
       try clear c23b0
       try clear c23b1
       try clear c25
       try clear hcz15_0
       try clear hcz15_1
       try clear hcz15_2
       try clear hcz15_3
       try clear hcz16_0
       try clear hcz16_1
       try clear hcz16_2
       try clear hcz16_3
       try clear hcz20_0
       try clear hcz20_1
       try clear hcz20_2
       try clear hcz20_3
       try clear hcz21_0
       try clear hcz21_1
       try clear hcz21_2
       try clear hcz21_3
       try clear hcz26_0
       try clear hcz26_1
       try clear hcz26_2
       try clear hcz26_3
       try clear hcz27_0
       try clear hcz27_1
       try clear hcz27_2
       try clear hcz27_3
       try clear hfz15_0
       try clear hfz15_1
       try clear hfz15_2
       try clear hfz15_3
       try clear hfz16_0
       try clear hfz16_1
       try clear hfz16_2
       try clear hfz16_3
       try clear hfz20_0
       try clear hfz20_1
       try clear hfz20_2
       try clear hfz20_3
       try clear hfz21_0
       try clear hfz21_1
       try clear hfz21_2
       try clear hfz21_3
       try clear hfz26_0
       try clear hfz26_1
       try clear hfz26_2
       try clear hfz26_3
       try clear hfz27_0
       try clear hfz27_1
       try clear hfz27_2
       try clear hfz27_3
       try clear p2
       obtain ⟨x5_3,x6_3,rfl,rfl,HA,HK3,BK149,BK150,HB⟩:=hrel
       cases gk with
       | zero => exact absurd HA.out (by simp [spec_l03Compare.l0])
       | succ k3 =>
        have H:=HA.out
        clear HA
        simp only [spec_l03Compare.l0] at H
        by_cases c28 : x6_3 < (l0_3.length : Int)
        ·rw [if_pos c28] at H
         have c28b0 : decide (x6_3 < (l0_3.length : Int)) = true:=decide_eq_true c28
         clear c28
         by_cases c29 : x5_3 = 0
         ·rw [if_pos c29] at H
          have c29b0 : (x5_3 == 0) = true:=beq_iff_eq.mpr c29
          have c29b1 : (x5_3 != 0) = false:=bne_eq_false_iff_eq.mpr c29
          clear c29
          by_cases c30 : 0 ≤ x6_3
          ·rw [if_pos c30] at H
           have c30b0 : decide (0 ≤ x6_3) = true:=decide_eq_true c30
           clear c30
           by_cases c31 : x6_3 < (l1_3.length : Int)
           ·rw [if_pos c31] at H
            have c31b0 : decide (x6_3 < (l1_3.length : Int)) = true:=decide_eq_true c31
            clear c31
            replace H:=Option.bind_eq_some_iff.mp H
            obtain ⟨t159,A320,H⟩:=H
            replace H : (spec_l03Compare.l0 k3 t159 (wrap64 (x6_3 + 1)) a0_0 a0_1 a0_2 l0_3 a1_0 a1_1 a1_2 l1_3) = some r:=H
            have A32:=Aside0.mk A320
            clear A320
            have H':=Aside0.mk H
            clear H
            have hnb33:=NB149_150.out
            have hnc33:=NB150_149.out
            have hcz34_0 : wr.cell? ⟨gb149,0,none⟩ = some (.int .i64 a0_0):=(blk_cell BK149.out 0).trans rfl
            have hcz34_1 : wr.cell? ⟨gb149,1,none⟩ = some (.string a0_1):=(blk_cell BK149.out 1).trans rfl
            have hcz34_2 : wr.cell? ⟨gb149,2,none⟩ = some (.int .i64 a0_2):=(blk_cell BK149.out 2).trans rfl
            have hcz34_3 : wr.cell? ⟨gb149,3,none⟩ = some (.slice A0_3 l0_3.length c0_3):=(blk_cell BK149.out 3).trans rfl
            have hfz34_0:=blk_frozen BK149.out 0
            have hfz34_1:=blk_frozen BK149.out 1
            have hfz34_2:=blk_frozen BK149.out 2
            have hfz34_3:=blk_frozen BK149.out 3
            try go_wp2
            have n0_:=Aside0.mk (blk_drew BK149.out)
            have n1_:=Aside0.mk (blk_drew BK150.out)
            have n2_:=Aside0.mk (below_drew1 HB.out)
            clear BK149
            clear BK150
            clear HB
            have BK149:=n0_
            have BK150:=n1_
            have HB:=n2_
            clear n0_ n1_ n2_
            have p157 : 0 ≤ (x6_3 : Int):=of_decide_eq_true (by first|(with_reducible assumption)|assumption)
            have q157 : x6_3 < (l0_3.length : Int):=of_decide_eq_true (by first|(with_reducible assumption)|assumption)
            obtain ⟨ad157,A157_3,c157_3,e157,hx157_0,hx157_1,hx157_2,hx157_3,hl157_3,hi157_3⟩:=at_T29 HR0_3.out x6_3 p157 q157
            have hw157_3:=hx157_3
            have hw157_2:=hx157_2
            have hw157_1:=hx157_1
            have hw157_0:=hx157_0
            cases e157
            replace hx157_0:=(HB.out.cell (World.block_lt_of_cell? w _ hx157_0)).trans hx157_0
            replace hx157_1:=(HB.out.cell (World.block_lt_of_cell? w _ hx157_1)).trans hx157_1
            replace hx157_2:=(HB.out.cell (World.block_lt_of_cell? w _ hx157_2)).trans hx157_2
            replace hx157_3:=(HB.out.cell (World.block_lt_of_cell? w _ hx157_3)).trans hx157_3
            have HR157_3:=Aside0.mk hi157_3
            have HC157_3:=Aside0.mk hl157_3
            clear hi157_3 hl157_3
            replace p157:=eq_true p157
            replace q157:=eq_true q157
            have p158 : 0 ≤ (x6_3 : Int):=of_decide_eq_true (by first|(with_reducible assumption)|assumption)
            have q158 : x6_3 < (l1_3.length : Int):=of_decide_eq_true (by first|(with_reducible assumption)|assumption)
            obtain ⟨ad158,A158_3,c158_3,e158,hx158_0,hx158_1,hx158_2,hx158_3,hl158_3,hi158_3⟩:=at_T29 HR1_3.out x6_3 p158 q158
            have hw158_3:=hx158_3
            have hw158_2:=hx158_2
            have hw158_1:=hx158_1
            have hw158_0:=hx158_0
            cases e158
            replace hx158_0:=(HB.out.cell (World.block_lt_of_cell? w _ hx158_0)).trans hx158_0
            replace hx158_1:=(HB.out.cell (World.block_lt_of_cell? w _ hx158_1)).trans hx158_1
            replace hx158_2:=(HB.out.cell (World.block_lt_of_cell? w _ hx158_2)).trans hx158_2
            replace hx158_3:=(HB.out.cell (World.block_lt_of_cell? w _ hx158_3)).trans hx158_3
            have HR158_3:=Aside0.mk hi158_3
            have HC158_3:=Aside0.mk hl158_3
            clear hi158_3 hl158_3
            replace p158:=eq_true p158
            replace q158:=eq_true q158
            refine start_ (n:=12) (S:=fun w' => w'.cell? ⟨gb149,0,none⟩ = some (.int .i64 a0_0) ∧ w'.cell? ⟨gb149,1,none⟩ = some (.string a0_1) ∧ w'.cell? ⟨gb149,2,none⟩ = some (.int .i64 a0_2) ∧ w'.cell? ⟨gb149,3,none⟩ = some (.slice (some ad157) l0_3.length c0_3) ∧ w'.cell? ⟨gb150,0,none⟩ = some (.int .i64 a1_0) ∧ w'.cell? ⟨gb150,1,none⟩ = some (.string a1_1) ∧ w'.cell? ⟨gb150,2,none⟩ = some (.int .i64 a1_2) ∧ w'.cell? ⟨gb150,3,none⟩ = some (.slice (some ad158) l1_3.length c1_3) ∧ w'.cell? (ad157.add ((x6_3).toNat * 4)) = some (.int .i64 ((rd_T29 l0_3 x6_3).f0)) ∧ w'.cell? ⟨(ad157.add ((x6_3).toNat * 4)).block,(ad157.add ((x6_3).toNat * 4)).off + 1,none⟩ = some (.string ((rd_T29 l0_3 x6_3).f1)) ∧ w'.cell? ⟨(ad157.add ((x6_3).toNat * 4)).block,(ad157.add ((x6_3).toNat * 4)).off + 2,none⟩ = some (.int .i64 ((rd_T29 l0_3 x6_3).f2)) ∧ w'.cell? ⟨(ad157.add ((x6_3).toNat * 4)).block,(ad157.add ((x6_3).toNat * 4)).off + 3,none⟩ = some (.slice A157_3 ((rd_T29 l0_3 x6_3).f3).length c157_3) ∧ w'.cell? (ad158.add ((x6_3).toNat * 4)) = some (.int .i64 ((rd_T29 l1_3 x6_3).f0)) ∧ w'.cell? ⟨(ad158.add ((x6_3).toNat * 4)).block,(ad158.add ((x6_3).toNat * 4)).off + 1,none⟩ = some (.string ((rd_T29 l1_3 x6_3).f1)) ∧ w'.cell? ⟨(ad158.add ((x6_3).toNat * 4)).block,(ad158.add ((x6_3).toNat * 4)).off + 2,none⟩ = some (.int .i64 ((rd_T29 l1_3 x6_3).f2)) ∧ w'.cell? ⟨(ad158.add ((x6_3).toNat * 4)).block,(ad158.add ((x6_3).toNat * 4)).off + 3,none⟩ = some (.slice A158_3 ((rd_T29 l1_3 x6_3).f3).length c158_3)) (ds:=[]) #[false,false,false,false,false,false,false,false,false,false,false,false] (by kernel_rfl) rfl rfl ⟨(blk_cell BK149.out 0).trans rfl,(blk_cell BK149.out 1).trans rfl,(blk_cell BK149.out 2).trans rfl,(blk_cell BK149.out 3).trans rfl,(blk_cell BK150.out 0).trans rfl,(blk_cell BK150.out 1).trans rfl,(blk_cell BK150.out 2).trans rfl,(blk_cell BK150.out 3).trans rfl,((HB.out.cell (World.block_lt_of_cell? w _ hw157_0)).trans hw157_0),((HB.out.cell (World.block_lt_of_cell? w _ hw157_1)).trans hw157_1),((HB.out.cell (World.block_lt_of_cell? w _ hw157_2)).trans hw157_2),((HB.out.cell (World.block_lt_of_cell? w _ hw157_3)).trans hw157_3),((HB.out.cell (World.block_lt_of_cell? w _ hw158_0)).trans hw158_0),((HB.out.cell (World.block_lt_of_cell? w _ hw158_1)).trans hw158_1),((HB.out.cell (World.block_lt_of_cell? w _ hw158_2)).trans hw158_2),((HB.out.cell (World.block_lt_of_cell? w _ hw158_3)).trans hw158_3)⟩ (fun hHeld => ?_);refine with_tabW spec_l03Compare.tab12 spec_l03Compare.bits12 (fun HT_ HW_ => ?_)
            generalize wr.drew = w35 at BK149 BK150 HB HR157_3 HR158_3 hx157_0 hx157_1 hx157_2 hx157_3 hx158_0 hx158_1 hx158_2 hx158_3 hHeld ⊢
            refine pure_ (i:=0) (N:=some 49) (v:=?_) (a':=?_) #[true,false,false,false,false,false,false,false,false,false,false,false] rfl rfl (any_of HT_.out (by kernel_rfl)) (fun _ _ _ h => h) (Or.inl ⟨by rfl,?_⟩) ?_ ?_
            rotate_left
            ·intro w'
             go_simp
             with_reducible rfl
            rotate_left
            ·simp only [Act.put,List.setIfInBounds_toArray,List.set_cons_zero,List.set_cons_succ,i64_w,i32_w]
             rfl
            refine pure_ (i:=2) (N:=some 51) (v:=?_) (a':=?_) #[true,false,true,false,false,false,false,false,false,false,false,false] rfl rfl (any_of HT_.out (by kernel_rfl)) (fun _ _ _ h => h) (Or.inl ⟨by rfl,?_⟩) ?_ ?_
            rotate_left
            ·intro w'
             go_simp
             with_reducible rfl
            rotate_left
            ·simp only [Act.put,List.setIfInBounds_toArray,List.set_cons_zero,List.set_cons_succ,i64_w,i32_w]
             rfl
            refine pure_ (i:=5) (N:=some 54) (v:=?_) (a':=?_) #[true,false,true,false,false,true,false,false,false,false,false,false] rfl rfl (any_of HT_.out (by kernel_rfl)) (fun _ _ _ h => h) (Or.inl ⟨by rfl,?_⟩) ?_ ?_
            rotate_left
            ·intro w'
             go_simp
             with_reducible rfl
            rotate_left
            ·simp only [Act.put,List.setIfInBounds_toArray,List.set_cons_zero,List.set_cons_succ,i64_w,i32_w]
             rfl
            refine pure_ (i:=7) (N:=some 56) (v:=?_) (a':=?_) #[true,false,true,false,false,true,false,true,false,false,false,false] rfl rfl (any_of HT_.out (by kernel_rfl)) (fun _ _ _ h => h) (Or.inl ⟨by rfl,?_⟩) ?_ ?_
            rotate_left
            ·intro w'
             go_simp
             with_reducible rfl
            rotate_left
            ·simp only [Act.put,List.setIfInBounds_toArray,List.set_cons_zero,List.set_cons_succ,i64_w,i32_w]
             rfl
            refine take_ (i:=1) (N:=some 50) (v:=?_) (a':=?_) #[true,true,true,false,false,true,false,true,false,false,false,false] rfl rfl (take_ofW HT_.out HW_.out (by kernel_rfl)) (fun _ _ _ h => h) (Or.inl ⟨by rfl,?_⟩) hHeld ?_ ?_
            rotate_left
            ·rintro w' ⟨s0,s1,s2,s3,s4,s5,s6,s7,s8,s9,s10,s11,s12,s13,s14,s15⟩
             go_simp
             with_reducible rfl
            rotate_left
            ·simp only [Act.put,List.setIfInBounds_toArray,List.set_cons_zero,List.set_cons_succ,i64_w,i32_w]
             rfl
            refine pure_ (i:=3) (N:=some 52) (v:=?_) (a':=?_) #[true,true,true,true,false,true,false,true,false,false,false,false] rfl rfl (any_of HT_.out (by kernel_rfl)) (fun _ _ _ h => h) (Or.inl ⟨by rfl,?_⟩) ?_ ?_
            rotate_left
            ·intro w'
             go_simp
             with_reducible rfl
            rotate_left
            ·simp only [Act.put,List.setIfInBounds_toArray,List.set_cons_zero,List.set_cons_succ,i64_w,i32_w]
             rfl
            refine take_ (i:=4) (N:=some 53) (v:=?_) (a':=?_) #[true,true,true,true,true,true,false,true,false,false,false,false] rfl rfl (take_ofW HT_.out HW_.out (by kernel_rfl)) (fun _ _ _ h => h) (Or.inl ⟨by rfl,?_⟩) hHeld ?_ ?_
            rotate_left
            ·rintro w' ⟨s0,s1,s2,s3,s4,s5,s6,s7,s8,s9,s10,s11,s12,s13,s14,s15⟩
             go_simp
             with_reducible rfl
            rotate_left
            ·simp only [Act.put,List.setIfInBounds_toArray,List.set_cons_zero,List.set_cons_succ,i64_w,i32_w]
             rfl
            refine take_ (i:=6) (N:=some 55) (v:=?_) (a':=?_) #[true,true,true,true,true,true,true,true,false,false,false,false] rfl rfl (take_ofW HT_.out HW_.out (by kernel_rfl)) (fun _ _ _ h => h) (Or.inl ⟨by rfl,?_⟩) hHeld ?_ ?_
            rotate_left
            ·rintro w' ⟨s0,s1,s2,s3,s4,s5,s6,s7,s8,s9,s10,s11,s12,s13,s14,s15⟩
             go_simp
             with_reducible rfl
            rotate_left
            ·simp only [Act.put,List.setIfInBounds_toArray,List.set_cons_zero,List.set_cons_succ,i64_w,i32_w]
             rfl
            refine pure_ (i:=8) (N:=some 57) (v:=?_) (a':=?_) #[true,true,true,true,true,true,true,true,true,false,false,false] rfl rfl (any_of HT_.out (by kernel_rfl)) (fun _ _ _ h => h) (Or.inl ⟨by rfl,?_⟩) ?_ ?_
            rotate_left
            ·intro w'
             go_simp
             with_reducible rfl
            rotate_left
            ·simp only [Act.put,List.setIfInBounds_toArray,List.set_cons_zero,List.set_cons_succ,i64_w,i32_w]
             rfl
            refine take_ (i:=9) (N:=some 58) (v:=?_) (a':=?_) #[true,true,true,true,true,true,true,true,true,true,false,false] rfl rfl (take_ofW HT_.out HW_.out (by kernel_rfl)) (fun _ _ _ h => h) (Or.inl ⟨by rfl,?_⟩) hHeld ?_ ?_
            rotate_left
            ·rintro w' ⟨s0,s1,s2,s3,s4,s5,s6,s7,s8,s9,s10,s11,s12,s13,s14,s15⟩
             go_simp
             with_reducible rfl
            rotate_left
            ·simp only [Act.put,List.setIfInBounds_toArray,List.set_cons_zero,List.set_cons_succ,i64_w,i32_w]
             rfl
            refine one_ (i:=10) (N:=some 59) #[true,true,true,true,true,true,true,true,true,true,true,false] rfl rfl (one_of HT_.out (by kernel_rfl)) (by decide) (fun K hK => ?_)
            refine goes_ Try.func84 (by kernel_rfl) rfl #[.agg #[.int .i64 ((rd_T29 l0_3 x6_3).f0),.string ((rd_T29 l0_3 x6_3).f1),.int .i64 ((rd_T29 l0_3 x6_3).f2),.slice A157_3 ((rd_T29 l0_3 x6_3).f3).length c157_3],.agg #[.int .i64 ((rd_T29 l1_3 x6_3).f0),.string ((rd_T29 l1_3 x6_3).f1),.int .i64 ((rd_T29 l1_3 x6_3).f2),.slice A158_3 ((rd_T29 l1_3 x6_3).f3).length c158_3]] (by rfl) rfl rfl (by (try simp only [List.map_toArray,List.map_cons,List.map_nil]);first|done|rfl|(simp only [List.length_drop,List.length_take];rfl)) ?_
            with_reducible refine (ih k3 (by have:=HJ7.out;have:=HJ21.out;have:=HK3.out;omega) ((rd_T29 l0_3 x6_3).f0) ((rd_T29 l0_3 x6_3).f1) ((rd_T29 l0_3 x6_3).f2) _ _ ((rd_T29 l0_3 x6_3).f3) ((rd_T29 l1_3 x6_3).f0) ((rd_T29 l1_3 x6_3).f1) ((rd_T29 l1_3 x6_3).f2) _ _ ((rd_T29 l1_3 x6_3).f3) t159 _ ?side1 ?side2 ?side3 ?side4 A32.out).mono ?_
            (case side1 => repeat (first|exact (Kd.C_below HR157_3.out HB.out)|(with_reducible refine Kd.C_alloc ?_ _)|(with_reducible refine Kd.C_drewN ?_ _)|(with_reducible refine Kd.C_drew ?_)))
            (case side2 => exact HC157_3.out)
            (case side3 => repeat (first|exact (Kd.C_below HR158_3.out HB.out)|(with_reducible refine Kd.C_alloc ?_ _)|(with_reducible refine Kd.C_drewN ?_ _)|(with_reducible refine Kd.C_drew ?_)))
            (case side4 => exact HC158_3.out)
            rintro e w36 ⟨rfl,hb⟩
            refine ⟨_,rfl,?_⟩
            have n0_:=Aside0.mk (blk_below (g:=gb149) (o:=.cells #[.int .i64 a0_0,.string a0_1,.int .i64 a0_2,.slice (some ad157) l0_3.length c0_3] 29 (0,0)) (by (with_reducible repeat (first|refine blk_drewN ?_ _|refine blk_drew ?_|refine blk_alloc ?_ _));exact BK149.out) hb)
            have n1_:=Aside0.mk (blk_below (g:=gb150) (o:=.cells #[.int .i64 a1_0,.string a1_1,.int .i64 a1_2,.slice (some ad158) l1_3.length c1_3] 29 (0,0)) (by (with_reducible repeat (first|refine blk_drewN ?_ _|refine blk_drew ?_|refine blk_alloc ?_ _));exact BK150.out) hb)
            have n2_:=Aside0.mk (below_step (by repeat (first|(with_reducible first|exact HB.out|apply below_alloc|apply pw_below_drewN|apply below_drew1|refine below_set ?_ GE149.out|refine below_set ?_ GE150.out)|exact HB.out)) hb)
            clear BK149
            clear BK150
            clear HB
            have BK149:=n0_
            have BK150:=n1_
            have HB:=n2_
            clear n0_ n1_ n2_
            (try clear hb)
            (try clear hb2)
            (try clear hk)
            (try clear hi)
            refine hK.out _ _ ⟨(blk_cell BK149.out 0).trans rfl,(blk_cell BK149.out 1).trans rfl,(blk_cell BK149.out 2).trans rfl,(blk_cell BK149.out 3).trans rfl,(blk_cell BK150.out 0).trans rfl,(blk_cell BK150.out 1).trans rfl,(blk_cell BK150.out 2).trans rfl,(blk_cell BK150.out 3).trans rfl,((HB.out.cell (World.block_lt_of_cell? w _ hw157_0)).trans hw157_0),((HB.out.cell (World.block_lt_of_cell? w _ hw157_1)).trans hw157_1),((HB.out.cell (World.block_lt_of_cell? w _ hw157_2)).trans hw157_2),((HB.out.cell (World.block_lt_of_cell? w _ hw157_3)).trans hw157_3),((HB.out.cell (World.block_lt_of_cell? w _ hw158_0)).trans hw158_0),((HB.out.cell (World.block_lt_of_cell? w _ hw158_1)).trans hw158_1),((HB.out.cell (World.block_lt_of_cell? w _ hw158_2)).trans hw158_2),((HB.out.cell (World.block_lt_of_cell? w _ hw158_3)).trans hw158_3)⟩ (fun hHeld => ?_)
            clear hK K
            refine norm_ (a':=?_) ?_ ?_
            rotate_left
            ·show Act.put _ (some 59) _ = _
             simp only [Act.put,List.setIfInBounds_toArray,List.set_cons_zero,List.set_cons_succ,i64_w,i32_w]
             rfl
            refine pure_ (i:=11) (N:=some 5) (v:=?_) (a':=?_) #[true,true,true,true,true,true,true,true,true,true,true,true] rfl rfl (any_of HT_.out (by kernel_rfl)) (fun _ _ _ h => h) (Or.inl ⟨by rfl,?_⟩) ?_ ?_
            rotate_left
            ·intro w'
             go_simp
             with_reducible rfl
            rotate_left
            ·simp only [Act.put,List.setIfInBounds_toArray,List.set_cons_zero,List.set_cons_succ,i64_w,i32_w]
             rfl
            refine done_ (done_of HT_.out (by kernel_rfl)) ?_
            try go_wp2
            go_roundg k3
            case measure => have:=HJ7.out;have:=HJ21.out;have:=HK3.out;omega
            case rel => exact ⟨(t159),(wrap64 (x6_3 + 1)),(by first|rfl|(simp;done)|(simp [*];done)),(by first|rfl|(simp;done)|(simp [*];done)),H',⟨by have:=HJ7.out;have:=HJ21.out;have:=HK3.out;omega⟩,⟨by (with_reducible repeat (first|refine blk_drewN ?_ _|refine blk_drew ?_|refine blk_alloc ?_ _));exact BK149.out⟩,⟨by (with_reducible repeat (first|refine blk_drewN ?_ _|refine blk_drew ?_|refine blk_alloc ?_ _));exact BK150.out⟩,⟨by repeat (first|(with_reducible first|exact HB.out|apply below_alloc|apply pw_below_drewN|apply below_drew1|refine below_set ?_ GE149.out|refine below_set ?_ GE150.out)|exact HB.out)⟩⟩
           ·rw [if_neg c31] at H
            exact absurd H (by simp)
          ·rw [if_neg c30] at H
           exact absurd H (by simp)
         ·rw [if_neg c29] at H
          have c29b0 : (x5_3 == 0) = false:=beq_eq_false_iff_ne.mpr c29
          have c29b1 : (x5_3 != 0) = true:=bne_iff_ne.mpr c29
          obtain rfl:=Option.some.inj H
          have hnb37:=NB149_150.out
          have hnc37:=NB150_149.out
          have hcz38_0 : wr.cell? ⟨gb149,0,none⟩ = some (.int .i64 a0_0):=(blk_cell BK149.out 0).trans rfl
          have hcz38_1 : wr.cell? ⟨gb149,1,none⟩ = some (.string a0_1):=(blk_cell BK149.out 1).trans rfl
          have hcz38_2 : wr.cell? ⟨gb149,2,none⟩ = some (.int .i64 a0_2):=(blk_cell BK149.out 2).trans rfl
          have hcz38_3 : wr.cell? ⟨gb149,3,none⟩ = some (.slice A0_3 l0_3.length c0_3):=(blk_cell BK149.out 3).trans rfl
          have hfz38_0:=blk_frozen BK149.out 0
          have hfz38_1:=blk_frozen BK149.out 1
          have hfz38_2:=blk_frozen BK149.out 2
          have hfz38_3:=blk_frozen BK149.out 3
          go_wp2
          go_ret
          exact ⟨by first|rfl|(simp [errW_none,errW_some] <;> rfl)|(simp [*,errW_none,errW_some] <;> rfl),by repeat (first|(with_reducible first|exact HB.out|apply below_alloc|apply pw_below_drewN|apply below_drew1|refine below_set ?_ GE149.out|refine below_set ?_ GE150.out)|exact HB.out)⟩
        ·rw [if_neg c28] at H
         have c28b0 : decide (x6_3 < (l0_3.length : Int)) = false:=decide_eq_false c28
         clear c28
         obtain rfl:=Option.some.inj H
         have hnb39:=NB149_150.out
         have hnc39:=NB150_149.out
         have hcz40_0 : wr.cell? ⟨gb149,0,none⟩ = some (.int .i64 a0_0):=(blk_cell BK149.out 0).trans rfl
         have hcz40_1 : wr.cell? ⟨gb149,1,none⟩ = some (.string a0_1):=(blk_cell BK149.out 1).trans rfl
         have hcz40_2 : wr.cell? ⟨gb149,2,none⟩ = some (.int .i64 a0_2):=(blk_cell BK149.out 2).trans rfl
         have hcz40_3 : wr.cell? ⟨gb149,3,none⟩ = some (.slice A0_3 l0_3.length c0_3):=(blk_cell BK149.out 3).trans rfl
         have hfz40_0:=blk_frozen BK149.out 0
         have hfz40_1:=blk_frozen BK149.out 1
         have hfz40_2:=blk_frozen BK149.out 2
         have hfz40_3:=blk_frozen BK149.out 3
         go_wp2
         go_ret
         exact ⟨by first|rfl|(simp [errW_none,errW_some] <;> rfl)|(simp [*,errW_none,errW_some] <;> rfl),by repeat (first|(with_reducible first|exact HB.out|apply below_alloc|apply pw_below_drewN|apply below_drew1|refine below_set ?_ GE149.out|refine below_set ?_ GE150.out)|exact HB.out)⟩
 ·rw [if_neg c6] at H
  have c6b0 : (t153 == 0) = false:=beq_eq_false_iff_ne.mpr c6
  have c6b1 : (t153 != 0) = true:=bne_iff_ne.mpr c6
  obtain rfl:=Option.some.inj H
  go_enter Try.func84,Try.ntmps84
  try go_wp2_with (first|((with_reducible refine gate_dst (N:=2) rfl ?_);refine box_event ?hg (N:=2) ?hd (cs:=#[.int .i64 a0_0,.string a0_1,.int .i64 a0_2,.slice A0_3 l0_3.length c0_3]) (t:=29) ?hr ?_;(case hd => rfl);(case hg => rfl);(case hr => first|(go_simp;done)|(go_simp;rfl));intro gb149 hg w41 hbox hb;have n0_:=Aside0.mk (below_step (by repeat (first|(with_reducible first|exact HB.out|apply below_alloc|apply pw_below_drewN|apply below_drew1)|exact HB.out)) hb);have n1_:=Aside0.mk (hbox);have n2_:=Aside0.mk ((by rw [hg];exact (below_size (by repeat (first|(with_reducible first|exact HB.out|apply below_alloc|apply pw_below_drewN|apply below_drew1)|exact HB.out))) : w.heap.size ≤ gb149));have n3_:=Aside0.mk ((by rw [hg];exact (below_size (by repeat (first|(with_reducible first|exact HB.out|apply below_alloc|apply pw_below_drewN|apply below_drew1)|exact HB.out))) : w.heap.size ≤ gb149));clear HB;have HB:=n0_;have BK149:=n1_;have GW149:=n2_;have GE149:=n3_;clear n0_ n1_ n2_ n3_;clear hb hbox hg)|((with_reducible refine gate_dst (N:=3) rfl ?_);refine box_event ?hg (N:=3) ?hd (cs:=#[.int .i64 a1_0,.string a1_1,.int .i64 a1_2,.slice A1_3 l1_3.length c1_3]) (t:=29) ?hr ?_;(case hd => rfl);(case hg => rfl);(case hr => first|(go_simp;done)|(go_simp;rfl));intro gb150 hg w42 hbox hb;have n0_:=Aside0.mk (blk_below (g:=gb149) (o:=.cells #[.int .i64 a0_0,.string a0_1,.int .i64 a0_2,.slice A0_3 l0_3.length c0_3] 29 (0,0)) (by (with_reducible repeat (first|refine blk_drewN ?_ _|refine blk_drew ?_|refine blk_alloc ?_ _));exact BK149.out) hb);have n1_:=Aside0.mk (below_step (by repeat (first|(with_reducible first|exact HB.out|apply below_alloc|apply pw_below_drewN|apply below_drew1|refine below_set ?_ GE149.out)|exact HB.out)) hb);have n2_:=Aside0.mk (hbox);have n3_:=Aside0.mk ((by rw [hg];exact (below_size (by repeat (first|(with_reducible first|exact HB.out|apply below_alloc|apply pw_below_drewN|apply below_drew1|refine below_set ?_ GE149.out)|exact HB.out))) : w.heap.size ≤ gb150));have n4_:=Aside0.mk ((by rw [hg];exact (below_size (by repeat (first|(with_reducible first|exact HB.out|apply below_alloc|apply pw_below_drewN|apply below_drew1|refine below_set ?_ GE149.out)|exact HB.out))) : w.heap.size ≤ gb150));have n5_:=Aside0.mk ((by rw [hg];exact Nat.ne_of_lt (blk_lt (g:=gb149) (o:=.cells #[.int .i64 a0_0,.string a0_1,.int .i64 a0_2,.slice A0_3 l0_3.length c0_3] 29 (0,0)) (by (with_reducible repeat (first|refine blk_drewN ?_ _|refine blk_drew ?_|refine blk_alloc ?_ _));exact BK149.out)) : gb149 ≠ gb150));have n6_:=Aside0.mk ((by rw [hg];exact Nat.ne_of_gt (blk_lt (g:=gb149) (o:=.cells #[.int .i64 a0_0,.string a0_1,.int .i64 a0_2,.slice A0_3 l0_3.length c0_3] 29 (0,0)) (by (with_reducible repeat (first|refine blk_drewN ?_ _|refine blk_drew ?_|refine blk_alloc ?_ _));exact BK149.out)) : gb150 ≠ gb149));clear BK149;clear HB;have BK149:=n0_;have HB:=n1_;have BK150:=n2_;have GW150:=n3_;have GE150:=n4_;have NB149_150:=n5_;have NB150_149:=n6_;clear n0_ n1_ n2_ n3_ n4_ n5_ n6_;clear hb hbox hg))
  have n0_:=Aside0.mk (blk_drew BK149.out)
  have n1_:=Aside0.mk (blk_drew BK150.out)
  have n2_:=Aside0.mk (below_drew1 HB.out)
  clear BK149
  clear BK150
  clear HB
  have BK149:=n0_
  have BK150:=n1_
  have HB:=n2_
  clear n0_ n1_ n2_
  refine start_ (n:=8) (S:=fun w' => w'.cell? ⟨gb149,0,none⟩ = some (.int .i64 a0_0) ∧ w'.cell? ⟨gb149,1,none⟩ = some (.string a0_1) ∧ w'.cell? ⟨gb149,2,none⟩ = some (.int .i64 a0_2) ∧ w'.cell? ⟨gb149,3,none⟩ = some (.slice A0_3 l0_3.length c0_3) ∧ w'.cell? ⟨gb150,0,none⟩ = some (.int .i64 a1_0) ∧ w'.cell? ⟨gb150,1,none⟩ = some (.string a1_1) ∧ w'.cell? ⟨gb150,2,none⟩ = some (.int .i64 a1_2) ∧ w'.cell? ⟨gb150,3,none⟩ = some (.slice A1_3 l1_3.length c1_3)) (ds:=[]) #[false,false,false,false,false,false,false,false] (by kernel_rfl) rfl rfl ⟨(blk_cell BK149.out 0).trans rfl,(blk_cell BK149.out 1).trans rfl,(blk_cell BK149.out 2).trans rfl,(blk_cell BK149.out 3).trans rfl,(blk_cell BK150.out 0).trans rfl,(blk_cell BK150.out 1).trans rfl,(blk_cell BK150.out 2).trans rfl,(blk_cell BK150.out 3).trans rfl⟩ (fun hHeld => ?_);refine with_tabW spec_l03Compare.tab1 spec_l03Compare.bits1 (fun HT_ HW_ => ?_)
  generalize w42.drew = w43 at BK149 BK150 HB hHeld ⊢
  refine pure_ (i:=0) (N:=some 7) (v:=?_) (a':=?_) #[true,false,false,false,false,false,false,false] rfl rfl (any_of HT_.out (by kernel_rfl)) (fun _ _ _ h => h) (Or.inl ⟨by rfl,?_⟩) ?_ ?_
  rotate_left
  ·intro w'
   go_simp
   with_reducible rfl
  rotate_left
  ·simp only [Act.put,List.setIfInBounds_toArray,List.set_cons_zero,List.set_cons_succ,i64_w,i32_w]
   rfl
  refine pure_ (i:=3) (N:=some 10) (v:=?_) (a':=?_) #[true,false,false,true,false,false,false,false] rfl rfl (any_of HT_.out (by kernel_rfl)) (fun _ _ _ h => h) (Or.inl ⟨by rfl,?_⟩) ?_ ?_
  rotate_left
  ·intro w'
   go_simp
   with_reducible rfl
  rotate_left
  ·simp only [Act.put,List.setIfInBounds_toArray,List.set_cons_zero,List.set_cons_succ,i64_w,i32_w]
   rfl
  refine take_ (i:=1) (N:=some 8) (v:=?_) (a':=?_) #[true,true,false,true,false,false,false,false] rfl rfl (take_ofW HT_.out HW_.out (by kernel_rfl)) (fun _ _ _ h => h) (Or.inl ⟨by rfl,?_⟩) hHeld ?_ ?_
  rotate_left
  ·rintro w' ⟨s0,s1,s2,s3,s4,s5,s6,s7⟩
   go_simp
   with_reducible rfl
  rotate_left
  ·simp only [Act.put,List.setIfInBounds_toArray,List.set_cons_zero,List.set_cons_succ,i64_w,i32_w]
   rfl
  refine take_ (i:=4) (N:=some 11) (v:=?_) (a':=?_) #[true,true,false,true,true,false,false,false] rfl rfl (take_ofW HT_.out HW_.out (by kernel_rfl)) (fun _ _ _ h => h) (Or.inl ⟨by rfl,?_⟩) hHeld ?_ ?_
  rotate_left
  ·rintro w' ⟨s0,s1,s2,s3,s4,s5,s6,s7⟩
   go_simp
   with_reducible rfl
  rotate_left
  ·simp only [Act.put,List.setIfInBounds_toArray,List.set_cons_zero,List.set_cons_succ,i64_w,i32_w]
   rfl
  refine one_ (i:=2) (N:=some 9) #[true,true,true,true,true,false,false,false] rfl rfl (one_of HT_.out (by kernel_rfl)) (by decide) (fun K hK => ?_)
  refine goes_ Try.func114 (by kernel_rfl) rfl #[.int .i64 a0_0] (by rfl) rfl rfl (by (try simp only [List.map_toArray,List.map_cons,List.map_nil]);first|done|rfl|(simp only [List.length_drop,List.length_take];rfl)) ?_
  with_reducible refine (spec_l03Rank.calls a0_0 t151 _ A3.out).mono ?_
  rintro e w44 ⟨rfl,hb⟩
  refine ⟨_,rfl,?_⟩
  have n0_:=Aside0.mk (blk_below (g:=gb149) (o:=.cells #[.int .i64 a0_0,.string a0_1,.int .i64 a0_2,.slice A0_3 l0_3.length c0_3] 29 (0,0)) (by (with_reducible repeat (first|refine blk_drewN ?_ _|refine blk_drew ?_|refine blk_alloc ?_ _));exact BK149.out) hb)
  have n1_:=Aside0.mk (blk_below (g:=gb150) (o:=.cells #[.int .i64 a1_0,.string a1_1,.int .i64 a1_2,.slice A1_3 l1_3.length c1_3] 29 (0,0)) (by (with_reducible repeat (first|refine blk_drewN ?_ _|refine blk_drew ?_|refine blk_alloc ?_ _));exact BK150.out) hb)
  have n2_:=Aside0.mk (below_step (by repeat (first|(with_reducible first|exact HB.out|apply below_alloc|apply pw_below_drewN|apply below_drew1|refine below_set ?_ GE149.out|refine below_set ?_ GE150.out)|exact HB.out)) hb)
  clear BK149
  clear BK150
  clear HB
  have BK149:=n0_
  have BK150:=n1_
  have HB:=n2_
  clear n0_ n1_ n2_
  (try clear hb)
  (try clear hb2)
  (try clear hk)
  (try clear hi)
  refine hK.out _ _ ⟨(blk_cell BK149.out 0).trans rfl,(blk_cell BK149.out 1).trans rfl,(blk_cell BK149.out 2).trans rfl,(blk_cell BK149.out 3).trans rfl,(blk_cell BK150.out 0).trans rfl,(blk_cell BK150.out 1).trans rfl,(blk_cell BK150.out 2).trans rfl,(blk_cell BK150.out 3).trans rfl⟩ (fun hHeld => ?_)
  clear hK K
  refine norm_ (a':=?_) ?_ ?_
  rotate_left
  ·show Act.put _ (some 9) _ = _
   simp only [Act.put,List.setIfInBounds_toArray,List.set_cons_zero,List.set_cons_succ,i64_w,i32_w]
   rfl
  refine one_ (i:=5) (N:=some 12) #[true,true,true,true,true,true,false,false] rfl rfl (one_of HT_.out (by kernel_rfl)) (by decide) (fun K hK => ?_)
  refine goes_ Try.func114 (by kernel_rfl) rfl #[.int .i64 a1_0] (by rfl) rfl rfl (by (try simp only [List.map_toArray,List.map_cons,List.map_nil]);first|done|rfl|(simp only [List.length_drop,List.length_take];rfl)) ?_
  with_reducible refine (spec_l03Rank.calls a1_0 t152 _ A4.out).mono ?_
  rintro e w45 ⟨rfl,hb⟩
  refine ⟨_,rfl,?_⟩
  have n0_:=Aside0.mk (blk_below (g:=gb149) (o:=.cells #[.int .i64 a0_0,.string a0_1,.int .i64 a0_2,.slice A0_3 l0_3.length c0_3] 29 (0,0)) (by (with_reducible repeat (first|refine blk_drewN ?_ _|refine blk_drew ?_|refine blk_alloc ?_ _));exact BK149.out) hb)
  have n1_:=Aside0.mk (blk_below (g:=gb150) (o:=.cells #[.int .i64 a1_0,.string a1_1,.int .i64 a1_2,.slice A1_3 l1_3.length c1_3] 29 (0,0)) (by (with_reducible repeat (first|refine blk_drewN ?_ _|refine blk_drew ?_|refine blk_alloc ?_ _));exact BK150.out) hb)
  have n2_:=Aside0.mk (below_step (by repeat (first|(with_reducible first|exact HB.out|apply below_alloc|apply pw_below_drewN|apply below_drew1|refine below_set ?_ GE149.out|refine below_set ?_ GE150.out)|exact HB.out)) hb)
  clear BK149
  clear BK150
  clear HB
  have BK149:=n0_
  have BK150:=n1_
  have HB:=n2_
  clear n0_ n1_ n2_
  (try clear hb)
  (try clear hb2)
  (try clear hk)
  (try clear hi)
  refine hK.out _ _ ⟨(blk_cell BK149.out 0).trans rfl,(blk_cell BK149.out 1).trans rfl,(blk_cell BK149.out 2).trans rfl,(blk_cell BK149.out 3).trans rfl,(blk_cell BK150.out 0).trans rfl,(blk_cell BK150.out 1).trans rfl,(blk_cell BK150.out 2).trans rfl,(blk_cell BK150.out 3).trans rfl⟩ (fun hHeld => ?_)
  clear hK K
  refine norm_ (a':=?_) ?_ ?_
  rotate_left
  ·show Act.put _ (some 12) _ = _
   simp only [Act.put,List.setIfInBounds_toArray,List.set_cons_zero,List.set_cons_succ,i64_w,i32_w]
   rfl
  refine one_ (i:=6) (N:=some 13) #[true,true,true,true,true,true,true,false] rfl rfl (one_of HT_.out (by kernel_rfl)) (by decide) (fun K hK => ?_)
  refine goes_ Try.func113 (by kernel_rfl) rfl #[.int .i64 t151,.int .i64 t152] (by rfl) rfl rfl (by (try simp only [List.map_toArray,List.map_cons,List.map_nil]);first|done|rfl|(simp only [List.length_drop,List.length_take];rfl)) ?_
  with_reducible refine (spec_l03Int.calls t151 t152 t153 _ A5.out).mono ?_
  rintro e w' ⟨rfl,⟨nd,rfl⟩⟩
  refine ⟨_,rfl,?_⟩
  refine hK.out _ _ ⟨(blk_cell BK149.out 0).trans rfl,(blk_cell BK149.out 1).trans rfl,(blk_cell BK149.out 2).trans rfl,(blk_cell BK149.out 3).trans rfl,(blk_cell BK150.out 0).trans rfl,(blk_cell BK150.out 1).trans rfl,(blk_cell BK150.out 2).trans rfl,(blk_cell BK150.out 3).trans rfl⟩ (fun hHeld => ?_)
  clear hK K
  refine norm_ (a':=?_) ?_ ?_
  rotate_left
  ·show Act.put _ (some 13) _ = _
   simp only [Act.put,List.setIfInBounds_toArray,List.set_cons_zero,List.set_cons_succ,i64_w,i32_w]
   rfl
  refine pure_ (i:=7) (N:=some 5) (v:=?_) (a':=?_) #[true,true,true,true,true,true,true,true] rfl rfl (any_of HT_.out (by kernel_rfl)) (fun _ _ _ h => h) (Or.inl ⟨by rfl,?_⟩) ?_ ?_
  rotate_left
  ·intro w'
   go_simp
   with_reducible rfl
  rotate_left
  ·simp only [Act.put,List.setIfInBounds_toArray,List.set_cons_zero,List.set_cons_succ,i64_w,i32_w]
   rfl
  refine done_ (done_of HT_.out (by kernel_rfl)) ?_
  try go_wp2
  go_ret
  exact ⟨by first|rfl|(simp [errW_none,errW_some] <;> rfl)|(simp [*,errW_none,errW_some] <;> rfl),by repeat (first|(with_reducible first|exact HB.out|apply below_alloc|apply pw_below_drewN|apply below_drew1|refine below_set ?_ GE149.out|refine below_set ?_ GE150.out)|exact HB.out)⟩

end Go.Proofs.Ytojedbogbodkiaa.KCm
