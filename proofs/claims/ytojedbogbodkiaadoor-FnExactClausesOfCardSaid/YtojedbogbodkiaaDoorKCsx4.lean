/- Contracts of functions of the program and of the reference, each a Lean function and the proof that Go comes to its answer. Written by wip/pp/pp.py out of the kit's print, for this claim; nothing of it is trusted: Lean checks it. -/
import Derived.Test.YtojedbogbodkiaaDoorKCsx0
import Derived.Test.YtojedbogbodkiaaDoorKCsx3
namespace Go.Proofs.YtojedbogbodkiaaDoor.KCs
open Go.RowKit Go.Proofs.YtojedbogbodkiaaDoorW.PrintWords Go.Proofs.YtojedbogbodkiaaDoorW.PrintLast Go.Proofs.YtojedbogbodkiaaDoorW.PrintMore
attribute [local go_sem] max2_int min2_int max_two min_two max_three min_three max_four min_four   -- for this text's walks alone
set_option linter.unusedVariables false
set_option linter.unusedSimpArgs false

set_option linter.unusedSectionVars false
variable [fk_laws_szTerm] [fk_laws_eqTerm] [fk_spec_l34Term] [fk_strconv_Itoa]
/-! ### spec_PredOf: function 11 -/
def spec_PredOf.f (k : Nat) (a0_0 : Int) (a0_1 : ByteArray) (a0_2 : Int) (l0_3 : List (S29)) : Option (ByteArray):=if a0_0 = 2 then (if a0_1.size + 1 ≤ 9223372036854775807 then ((spec_Decimal.f k (l0_3.length : Int)).bind fun t147 => (if (a0_1 ++ (⟨#[47]⟩ : ByteArray)).size + t147.size ≤ 9223372036854775807 then (some ((a0_1 ++ (⟨#[47]⟩ : ByteArray)) ++ t147)) else (none))) else (none)) else (if a0_0 = 4 then (if a0_1.size + 1 ≤ 9223372036854775807 then ((spec_Decimal.f k (l0_3.length : Int)).bind fun t148 => (if (a0_1 ++ (⟨#[47]⟩ : ByteArray)).size + t148.size ≤ 9223372036854775807 then (some ((a0_1 ++ (⟨#[47]⟩ : ByteArray)) ++ t148)) else (none))) else (none)) else (some (⟨#[]⟩ : ByteArray)))
theorem spec_PredOf.mono : ∀ a0 a1 a2 a3 k,LeO (spec_PredOf.f k a0 a1 a2 a3) (spec_PredOf.f (k + 1) a0 a1 a2 a3):=by
 intro a0 a1 a2 a3 k
 unfold spec_PredOf.f
 repeat' first
   | (with_reducible exact spec_Decimal.mono _ _)
   | (with_reducible exact LeO.refl _)
   | (with_reducible exact LeO.none _)
   | (with_reducible refine LeO.ite ?_ ?_)
   | (with_reducible refine LeO.bind ?_ (fun _ => ?_))
   | exact spec_Decimal.mono _ _
   | exact LeO.none _
   | refine LeO.ite ?_ ?_
   | refine LeO.bind ?_ (fun _ => ?_)
def spec_PredOf.T3 : Bool × List (List Nat × List Nat):=(true,[([],[]),([0],[0]),([1],[1]),([],[]),([3],[3]),([4],[4]),([5],[5]),([2,6],[2,6]),([7,6,0,1,2,3,4,5,6,7],[7])])
def spec_PredOf.B3 : List Nat:=[0,1,3,0,8,24,56,127,255]
theorem spec_PredOf.tab3 : rtab .any (opsOf Tryd.f11 3) = spec_PredOf.T3:=by kernel_rfl
theorem spec_PredOf.bits3 : waitsOk spec_PredOf.T3.2 spec_PredOf.B3 = true:=by kernel_rfl
set_option maxHeartbeats 8000000 in
set_option maxRecDepth 100000 in
theorem spec_PredOf.calls (k : Nat) (a0_0 : Int) (a0_1 : ByteArray) (a0_2 : Int) (A0_3 : Option Addr) (c0_3 : Nat) (l0_3 : List (S29)) (r : ByteArray) (w : World) (hr0_3 : Kd.C k29 w A0_3 l0_3.length l0_3) (hc0_3 : l0_3.length ≤ c0_3) (h : spec_PredOf.f k a0_0 a0_1 a0_2 l0_3 = some r) :
  Calls Tryd.prog 11 #[.agg #[.int .i64 a0_0,.string a0_1,.int .i64 a0_2,.slice A0_3 l0_3.length c0_3]] w fun e w' => e = .returned (.string r) ∧ Below w.heap.size w w':=by
 have hu29:=Tryd.underlying29
 have HR0_3:=Aside0.mk hr0_3
 have HC0_3:=Aside0.mk hc0_3
 clear hr0_3 hc0_3
 have HB:=Aside0.mk (Below.refl w.heap.size w)
 have H : (if a0_0 = 2 then (if a0_1.size + 1 ≤ 9223372036854775807 then ((spec_Decimal.f k (l0_3.length : Int)).bind fun t147 => (if (a0_1 ++ (⟨#[47]⟩ : ByteArray)).size + t147.size ≤ 9223372036854775807 then (some ((a0_1 ++ (⟨#[47]⟩ : ByteArray)) ++ t147)) else (none))) else (none)) else (if a0_0 = 4 then (if a0_1.size + 1 ≤ 9223372036854775807 then ((spec_Decimal.f k (l0_3.length : Int)).bind fun t148 => (if (a0_1 ++ (⟨#[47]⟩ : ByteArray)).size + t148.size ≤ 9223372036854775807 then (some ((a0_1 ++ (⟨#[47]⟩ : ByteArray)) ++ t148)) else (none))) else (none)) else (some (⟨#[]⟩ : ByteArray)))) = some r:=h
 clear h
 by_cases c2 : a0_0 = 2
 ·rw [if_pos c2] at H
  have c2b0 : (a0_0 == 2) = true:=beq_iff_eq.mpr c2
  have c2b1 : (a0_0 != 2) = false:=bne_eq_false_iff_eq.mpr c2
  clear c2
  by_cases c3 : a0_1.size + 1 ≤ 9223372036854775807
  rotate_left
  ·rw [if_neg c3] at H
   exact absurd H (by simp)
  rw [if_pos c3] at H
  have c3b0:=eq_true c3
  have c3b1 : decide (a0_1.size + 1 ≤ 9223372036854775807) = true:=decide_eq_true c3
  try have c3b2 : (9223372036854775807 < a0_1.size + 1) = False:=eq_false (Nat.not_lt.2 c3)
  replace H:=Option.bind_eq_some_iff.mp H
  obtain ⟨t147,A40,H⟩:=H
  replace H : (if (a0_1 ++ (⟨#[47]⟩ : ByteArray)).size + t147.size ≤ 9223372036854775807 then (some ((a0_1 ++ (⟨#[47]⟩ : ByteArray)) ++ t147)) else (none)) = some r:=H
  have A4:=Aside0.mk A40
  clear A40
  by_cases c5 : (a0_1 ++ (⟨#[47]⟩ : ByteArray)).size + t147.size ≤ 9223372036854775807
  rotate_left
  ·rw [if_neg c5] at H
   exact absurd H (by simp)
  rw [if_pos c5] at H
  have c5b0:=eq_true c5
  have c5b1 : decide ((a0_1 ++ (⟨#[47]⟩ : ByteArray)).size + t147.size ≤ 9223372036854775807) = true:=decide_eq_true c5
  try have c5b2 : (9223372036854775807 < (a0_1 ++ (⟨#[47]⟩ : ByteArray)).size + t147.size) = False:=eq_false (Nat.not_lt.2 c5)
  try have c5b3 : (9223372036854775807 < a0_1.size + 1 + t147.size) = False:=by rw [ByteArray.size_append] at c5b2;exact c5b2
  obtain rfl:=Option.some.inj H
  go_enter Tryd.func11,Tryd.ntmps11
  try go_wp2_with (first|((with_reducible refine gate_dst (N:=1) rfl ?_);refine box_event ?hg (N:=1) ?hd (cs:=#[.int .i64 a0_0,.string a0_1,.int .i64 a0_2,.slice A0_3 l0_3.length c0_3]) (t:=29) ?hr ?_;(case hd => rfl);(case hg => rfl);(case hr => first|(go_simp;done)|(go_simp;rfl));intro gb146 hg w6 hbox hb;have n0_:=Aside0.mk (below_step (by repeat (first|(with_reducible first|exact HB.out|apply below_alloc|apply pw_below_drewN|apply below_drew1)|exact HB.out)) hb);have n1_:=Aside0.mk (hbox);have n2_:=Aside0.mk ((by rw [hg];exact (below_size (by repeat (first|(with_reducible first|exact HB.out|apply below_alloc|apply pw_below_drewN|apply below_drew1)|exact HB.out))) : w.heap.size ≤ gb146));have n3_:=Aside0.mk ((by rw [hg];exact (below_size (by repeat (first|(with_reducible first|exact HB.out|apply below_alloc|apply pw_below_drewN|apply below_drew1)|exact HB.out))) : w.heap.size ≤ gb146));clear HB;have HB:=n0_;have BK146:=n1_;have GW146:=n2_;have GE146:=n3_;clear n0_ n1_ n2_ n3_;clear hb hbox hg;have hcz7_0 : w6.cell? ⟨gb146,0,none⟩ = some (.int .i64 a0_0):=(blk_cell BK146.out 0).trans rfl;have hcz7_1 : w6.cell? ⟨gb146,1,none⟩ = some (.string a0_1):=(blk_cell BK146.out 1).trans rfl;have hcz7_2 : w6.cell? ⟨gb146,2,none⟩ = some (.int .i64 a0_2):=(blk_cell BK146.out 2).trans rfl;have hcz7_3 : w6.cell? ⟨gb146,3,none⟩ = some (.slice A0_3 l0_3.length c0_3):=(blk_cell BK146.out 3).trans rfl;have hfz7_0:=blk_frozen BK146.out 0;have hfz7_1:=blk_frozen BK146.out 1;have hfz7_2:=blk_frozen BK146.out 2;have hfz7_3:=blk_frozen BK146.out 3))
  have n0_:=Aside0.mk (blk_drew BK146.out)
  have n1_:=Aside0.mk (below_drew1 HB.out)
  clear BK146
  clear HB
  have BK146:=n0_
  have HB:=n1_
  clear n0_ n1_
  refine start_ (n:=9) (S:=fun w' => w'.cell? ⟨gb146,0,none⟩ = some (.int .i64 a0_0) ∧ w'.cell? ⟨gb146,1,none⟩ = some (.string a0_1) ∧ w'.cell? ⟨gb146,2,none⟩ = some (.int .i64 a0_2) ∧ w'.cell? ⟨gb146,3,none⟩ = some (.slice A0_3 l0_3.length c0_3)) (ds:=[]) #[false,false,false,false,false,false,false,false,false] (by kernel_rfl) rfl rfl ⟨(blk_cell BK146.out 0).trans rfl,(blk_cell BK146.out 1).trans rfl,(blk_cell BK146.out 2).trans rfl,(blk_cell BK146.out 3).trans rfl⟩ (fun hHeld => ?_);refine with_tabW spec_PredOf.tab3 spec_PredOf.bits3 (fun HT_ HW_ => ?_)
  generalize w6.drew = w8 at BK146 HB hHeld ⊢
  refine pure_ (i:=0) (N:=some 11) (v:=?_) (a':=?_) #[true,false,false,false,false,false,false,false,false] rfl rfl (any_of HT_.out (by kernel_rfl)) (fun _ _ _ h => h) (Or.inl ⟨by rfl,?_⟩) ?_ ?_
  rotate_left
  ·intro w'
   go_simp
   with_reducible rfl
  rotate_left
  ·simp only [Act.put,List.setIfInBounds_toArray,List.set_cons_zero,List.set_cons_succ,i64_w,i32_w]
   rfl
  refine pure_ (i:=3) (N:=some 14) (v:=?_) (a':=?_) #[true,false,false,true,false,false,false,false,false] rfl rfl (any_of HT_.out (by kernel_rfl)) (fun _ _ _ h => h) (Or.inl ⟨by rfl,?_⟩) ?_ ?_
  rotate_left
  ·intro w'
   go_simp
   with_reducible rfl
  rotate_left
  ·simp only [Act.put,List.setIfInBounds_toArray,List.set_cons_zero,List.set_cons_succ,i64_w,i32_w]
   rfl
  refine take_ (i:=1) (N:=some 12) (v:=?_) (a':=?_) #[true,true,false,true,false,false,false,false,false] rfl rfl (take_ofW HT_.out HW_.out (by kernel_rfl)) (fun _ _ _ h => h) (Or.inl ⟨by rfl,?_⟩) hHeld ?_ ?_
  rotate_left
  ·rintro w' ⟨s0,s1,s2,s3⟩
   go_simp
   with_reducible rfl
  rotate_left
  ·simp only [Act.put,List.setIfInBounds_toArray,List.set_cons_zero,List.set_cons_succ,i64_w,i32_w]
   rfl
  refine pure_ (i:=2) (N:=some 13) (v:=?_) (a':=?_) #[true,true,true,true,false,false,false,false,false] rfl rfl (any_of HT_.out (by kernel_rfl)) (fun _ _ _ h => h) (Or.inl ⟨by rfl,?_⟩) ?_ ?_
  rotate_left
  ·intro w'
   go_simp
   with_reducible rfl
  rotate_left
  ·simp only [Act.put,List.setIfInBounds_toArray,List.set_cons_zero,List.set_cons_succ,i64_w,i32_w]
   rfl
  refine take_ (i:=4) (N:=some 15) (v:=?_) (a':=?_) #[true,true,true,true,true,false,false,false,false] rfl rfl (take_ofW HT_.out HW_.out (by kernel_rfl)) (fun _ _ _ h => h) (Or.inl ⟨by rfl,?_⟩) hHeld ?_ ?_
  rotate_left
  ·rintro w' ⟨s0,s1,s2,s3⟩
   go_simp
   with_reducible rfl
  rotate_left
  ·simp only [Act.put,List.setIfInBounds_toArray,List.set_cons_zero,List.set_cons_succ,i64_w,i32_w]
   rfl
  refine pure_ (i:=5) (N:=some 16) (v:=?_) (a':=?_) #[true,true,true,true,true,true,false,false,false] rfl rfl (any_of HT_.out (by kernel_rfl)) (fun _ _ _ h => h) (Or.inl ⟨by rfl,?_⟩) ?_ ?_
  rotate_left
  ·intro w'
   go_simp
   with_reducible rfl
  rotate_left
  ·simp only [Act.put,List.setIfInBounds_toArray,List.set_cons_zero,List.set_cons_succ,i64_w,i32_w]
   rfl
  refine one_ (i:=6) (N:=some 17) #[true,true,true,true,true,true,true,false,false] rfl rfl (one_of HT_.out (by kernel_rfl)) (by decide) (fun K hK => ?_)
  refine goes_ Tryd.func43 (by kernel_rfl) rfl #[.int .i64 (l0_3.length : Int)] (by rfl) rfl rfl (by (try simp only [List.map_toArray,List.map_cons,List.map_nil]);first|done|rfl|(simp only [List.length_drop,List.length_take];rfl)) ?_
  with_reducible refine (spec_Decimal.calls k (l0_3.length : Int) t147 _ A4.out).mono ?_
  rintro e w9 ⟨rfl,hb⟩
  refine ⟨_,rfl,?_⟩
  have n0_:=Aside0.mk (blk_below (g:=gb146) (o:=.cells #[.int .i64 a0_0,.string a0_1,.int .i64 a0_2,.slice A0_3 l0_3.length c0_3] 29 (0,0)) (by (with_reducible repeat (first|refine blk_drewN ?_ _|refine blk_drew ?_|refine blk_alloc ?_ _));exact BK146.out) hb)
  have n1_:=Aside0.mk (below_step (by repeat (first|(with_reducible first|exact HB.out|apply below_alloc|apply pw_below_drewN|apply below_drew1|refine below_set ?_ GE146.out)|exact HB.out)) hb)
  clear BK146
  clear HB
  have BK146:=n0_
  have HB:=n1_
  clear n0_ n1_
  (try clear hb)
  refine hK.out _ _ ⟨(blk_cell BK146.out 0).trans rfl,(blk_cell BK146.out 1).trans rfl,(blk_cell BK146.out 2).trans rfl,(blk_cell BK146.out 3).trans rfl⟩ (fun hHeld => ?_)
  clear hK K
  refine norm_ (a':=?_) ?_ ?_
  rotate_left
  ·show Act.put _ (some 17) _ = _
   simp only [Act.put,List.setIfInBounds_toArray,List.set_cons_zero,List.set_cons_succ,i64_w,i32_w]
   rfl
  refine pure_ (i:=7) (N:=some 18) (v:=?_) (a':=?_) #[true,true,true,true,true,true,true,true,false] rfl rfl (any_of HT_.out (by kernel_rfl)) (fun _ _ _ h => h) (Or.inl ⟨by rfl,?_⟩) ?_ ?_
  rotate_left
  ·intro w'
   go_simp
   with_reducible rfl
  rotate_left
  ·simp only [Act.put,List.setIfInBounds_toArray,List.set_cons_zero,List.set_cons_succ,i64_w,i32_w]
   rfl
  refine pure_ (i:=8) (N:=some 2) (v:=?_) (a':=?_) #[true,true,true,true,true,true,true,true,true] rfl rfl (any_of HT_.out (by kernel_rfl)) (fun _ _ _ h => h) (Or.inl ⟨by rfl,?_⟩) ?_ ?_
  rotate_left
  ·intro w'
   go_simp
   with_reducible rfl
  rotate_left
  ·simp only [Act.put,List.setIfInBounds_toArray,List.set_cons_zero,List.set_cons_succ,i64_w,i32_w]
   rfl
  refine done_ (done_of HT_.out (by kernel_rfl)) ?_
  try go_wp2
  go_ret
  exact ⟨by first|rfl|(simp [errW_none,errW_some] <;> rfl)|(simp [*,errW_none,errW_some] <;> rfl),by repeat (first|(with_reducible first|exact HB.out|apply below_alloc|apply pw_below_drewN|apply below_drew1|refine below_set ?_ GE146.out)|exact HB.out)⟩
 ·rw [if_neg c2] at H
  have c2b0 : (a0_0 == 2) = false:=beq_eq_false_iff_ne.mpr c2
  have c2b1 : (a0_0 != 2) = true:=bne_iff_ne.mpr c2
  by_cases c10 : a0_0 = 4
  ·rw [if_pos c10] at H
   have c10b0 : (a0_0 == 4) = true:=beq_iff_eq.mpr c10
   have c10b1 : (a0_0 != 4) = false:=bne_eq_false_iff_eq.mpr c10
   clear c10
   by_cases c11 : a0_1.size + 1 ≤ 9223372036854775807
   rotate_left
   ·rw [if_neg c11] at H
    exact absurd H (by simp)
   rw [if_pos c11] at H
   have c11b0:=eq_true c11
   have c11b1 : decide (a0_1.size + 1 ≤ 9223372036854775807) = true:=decide_eq_true c11
   try have c11b2 : (9223372036854775807 < a0_1.size + 1) = False:=eq_false (Nat.not_lt.2 c11)
   replace H:=Option.bind_eq_some_iff.mp H
   obtain ⟨t148,A120,H⟩:=H
   replace H : (if (a0_1 ++ (⟨#[47]⟩ : ByteArray)).size + t148.size ≤ 9223372036854775807 then (some ((a0_1 ++ (⟨#[47]⟩ : ByteArray)) ++ t148)) else (none)) = some r:=H
   have A12:=Aside0.mk A120
   clear A120
   by_cases c13 : (a0_1 ++ (⟨#[47]⟩ : ByteArray)).size + t148.size ≤ 9223372036854775807
   rotate_left
   ·rw [if_neg c13] at H
    exact absurd H (by simp)
   rw [if_pos c13] at H
   have c13b0:=eq_true c13
   have c13b1 : decide ((a0_1 ++ (⟨#[47]⟩ : ByteArray)).size + t148.size ≤ 9223372036854775807) = true:=decide_eq_true c13
   try have c13b2 : (9223372036854775807 < (a0_1 ++ (⟨#[47]⟩ : ByteArray)).size + t148.size) = False:=eq_false (Nat.not_lt.2 c13)
   try have c13b3 : (9223372036854775807 < a0_1.size + 1 + t148.size) = False:=by rw [ByteArray.size_append] at c13b2;exact c13b2
   obtain rfl:=Option.some.inj H
   go_enter Tryd.func11,Tryd.ntmps11
   try go_wp2_with (first|((with_reducible refine gate_dst (N:=1) rfl ?_);refine box_event ?hg (N:=1) ?hd (cs:=#[.int .i64 a0_0,.string a0_1,.int .i64 a0_2,.slice A0_3 l0_3.length c0_3]) (t:=29) ?hr ?_;(case hd => rfl);(case hg => rfl);(case hr => first|(go_simp;done)|(go_simp;rfl));intro gb146 hg w14 hbox hb;have n0_:=Aside0.mk (below_step (by repeat (first|(with_reducible first|exact HB.out|apply below_alloc|apply pw_below_drewN|apply below_drew1)|exact HB.out)) hb);have n1_:=Aside0.mk (hbox);have n2_:=Aside0.mk ((by rw [hg];exact (below_size (by repeat (first|(with_reducible first|exact HB.out|apply below_alloc|apply pw_below_drewN|apply below_drew1)|exact HB.out))) : w.heap.size ≤ gb146));have n3_:=Aside0.mk ((by rw [hg];exact (below_size (by repeat (first|(with_reducible first|exact HB.out|apply below_alloc|apply pw_below_drewN|apply below_drew1)|exact HB.out))) : w.heap.size ≤ gb146));clear HB;have HB:=n0_;have BK146:=n1_;have GW146:=n2_;have GE146:=n3_;clear n0_ n1_ n2_ n3_;clear hb hbox hg;have hcz15_0 : w14.cell? ⟨gb146,0,none⟩ = some (.int .i64 a0_0):=(blk_cell BK146.out 0).trans rfl;have hcz15_1 : w14.cell? ⟨gb146,1,none⟩ = some (.string a0_1):=(blk_cell BK146.out 1).trans rfl;have hcz15_2 : w14.cell? ⟨gb146,2,none⟩ = some (.int .i64 a0_2):=(blk_cell BK146.out 2).trans rfl;have hcz15_3 : w14.cell? ⟨gb146,3,none⟩ = some (.slice A0_3 l0_3.length c0_3):=(blk_cell BK146.out 3).trans rfl;have hfz15_0:=blk_frozen BK146.out 0;have hfz15_1:=blk_frozen BK146.out 1;have hfz15_2:=blk_frozen BK146.out 2;have hfz15_3:=blk_frozen BK146.out 3))
   have n0_:=Aside0.mk (blk_drew BK146.out)
   have n1_:=Aside0.mk (below_drew1 HB.out)
   clear BK146
   clear HB
   have BK146:=n0_
   have HB:=n1_
   clear n0_ n1_
   refine start_ (n:=9) (S:=fun w' => w'.cell? ⟨gb146,0,none⟩ = some (.int .i64 a0_0) ∧ w'.cell? ⟨gb146,1,none⟩ = some (.string a0_1) ∧ w'.cell? ⟨gb146,2,none⟩ = some (.int .i64 a0_2) ∧ w'.cell? ⟨gb146,3,none⟩ = some (.slice A0_3 l0_3.length c0_3)) (ds:=[]) #[false,false,false,false,false,false,false,false,false] (by kernel_rfl) rfl rfl ⟨(blk_cell BK146.out 0).trans rfl,(blk_cell BK146.out 1).trans rfl,(blk_cell BK146.out 2).trans rfl,(blk_cell BK146.out 3).trans rfl⟩ (fun hHeld => ?_);refine with_tabW spec_PredOf.tab3 spec_PredOf.bits3 (fun HT_ HW_ => ?_)
   generalize w14.drew = w16 at BK146 HB hHeld ⊢
   refine pure_ (i:=0) (N:=some 11) (v:=?_) (a':=?_) #[true,false,false,false,false,false,false,false,false] rfl rfl (any_of HT_.out (by kernel_rfl)) (fun _ _ _ h => h) (Or.inl ⟨by rfl,?_⟩) ?_ ?_
   rotate_left
   ·intro w'
    go_simp
    with_reducible rfl
   rotate_left
   ·simp only [Act.put,List.setIfInBounds_toArray,List.set_cons_zero,List.set_cons_succ,i64_w,i32_w]
    rfl
   refine pure_ (i:=3) (N:=some 14) (v:=?_) (a':=?_) #[true,false,false,true,false,false,false,false,false] rfl rfl (any_of HT_.out (by kernel_rfl)) (fun _ _ _ h => h) (Or.inl ⟨by rfl,?_⟩) ?_ ?_
   rotate_left
   ·intro w'
    go_simp
    with_reducible rfl
   rotate_left
   ·simp only [Act.put,List.setIfInBounds_toArray,List.set_cons_zero,List.set_cons_succ,i64_w,i32_w]
    rfl
   refine take_ (i:=1) (N:=some 12) (v:=?_) (a':=?_) #[true,true,false,true,false,false,false,false,false] rfl rfl (take_ofW HT_.out HW_.out (by kernel_rfl)) (fun _ _ _ h => h) (Or.inl ⟨by rfl,?_⟩) hHeld ?_ ?_
   rotate_left
   ·rintro w' ⟨s0,s1,s2,s3⟩
    go_simp
    with_reducible rfl
   rotate_left
   ·simp only [Act.put,List.setIfInBounds_toArray,List.set_cons_zero,List.set_cons_succ,i64_w,i32_w]
    rfl
   refine pure_ (i:=2) (N:=some 13) (v:=?_) (a':=?_) #[true,true,true,true,false,false,false,false,false] rfl rfl (any_of HT_.out (by kernel_rfl)) (fun _ _ _ h => h) (Or.inl ⟨by rfl,?_⟩) ?_ ?_
   rotate_left
   ·intro w'
    go_simp
    with_reducible rfl
   rotate_left
   ·simp only [Act.put,List.setIfInBounds_toArray,List.set_cons_zero,List.set_cons_succ,i64_w,i32_w]
    rfl
   refine take_ (i:=4) (N:=some 15) (v:=?_) (a':=?_) #[true,true,true,true,true,false,false,false,false] rfl rfl (take_ofW HT_.out HW_.out (by kernel_rfl)) (fun _ _ _ h => h) (Or.inl ⟨by rfl,?_⟩) hHeld ?_ ?_
   rotate_left
   ·rintro w' ⟨s0,s1,s2,s3⟩
    go_simp
    with_reducible rfl
   rotate_left
   ·simp only [Act.put,List.setIfInBounds_toArray,List.set_cons_zero,List.set_cons_succ,i64_w,i32_w]
    rfl
   refine pure_ (i:=5) (N:=some 16) (v:=?_) (a':=?_) #[true,true,true,true,true,true,false,false,false] rfl rfl (any_of HT_.out (by kernel_rfl)) (fun _ _ _ h => h) (Or.inl ⟨by rfl,?_⟩) ?_ ?_
   rotate_left
   ·intro w'
    go_simp
    with_reducible rfl
   rotate_left
   ·simp only [Act.put,List.setIfInBounds_toArray,List.set_cons_zero,List.set_cons_succ,i64_w,i32_w]
    rfl
   refine one_ (i:=6) (N:=some 17) #[true,true,true,true,true,true,true,false,false] rfl rfl (one_of HT_.out (by kernel_rfl)) (by decide) (fun K hK => ?_)
   refine goes_ Tryd.func43 (by kernel_rfl) rfl #[.int .i64 (l0_3.length : Int)] (by rfl) rfl rfl (by (try simp only [List.map_toArray,List.map_cons,List.map_nil]);first|done|rfl|(simp only [List.length_drop,List.length_take];rfl)) ?_
   with_reducible refine (spec_Decimal.calls k (l0_3.length : Int) t148 _ A12.out).mono ?_
   rintro e w17 ⟨rfl,hb⟩
   refine ⟨_,rfl,?_⟩
   have n0_:=Aside0.mk (blk_below (g:=gb146) (o:=.cells #[.int .i64 a0_0,.string a0_1,.int .i64 a0_2,.slice A0_3 l0_3.length c0_3] 29 (0,0)) (by (with_reducible repeat (first|refine blk_drewN ?_ _|refine blk_drew ?_|refine blk_alloc ?_ _));exact BK146.out) hb)
   have n1_:=Aside0.mk (below_step (by repeat (first|(with_reducible first|exact HB.out|apply below_alloc|apply pw_below_drewN|apply below_drew1|refine below_set ?_ GE146.out)|exact HB.out)) hb)
   clear BK146
   clear HB
   have BK146:=n0_
   have HB:=n1_
   clear n0_ n1_
   (try clear hb)
   refine hK.out _ _ ⟨(blk_cell BK146.out 0).trans rfl,(blk_cell BK146.out 1).trans rfl,(blk_cell BK146.out 2).trans rfl,(blk_cell BK146.out 3).trans rfl⟩ (fun hHeld => ?_)
   clear hK K
   refine norm_ (a':=?_) ?_ ?_
   rotate_left
   ·show Act.put _ (some 17) _ = _
    simp only [Act.put,List.setIfInBounds_toArray,List.set_cons_zero,List.set_cons_succ,i64_w,i32_w]
    rfl
   refine pure_ (i:=7) (N:=some 18) (v:=?_) (a':=?_) #[true,true,true,true,true,true,true,true,false] rfl rfl (any_of HT_.out (by kernel_rfl)) (fun _ _ _ h => h) (Or.inl ⟨by rfl,?_⟩) ?_ ?_
   rotate_left
   ·intro w'
    go_simp
    with_reducible rfl
   rotate_left
   ·simp only [Act.put,List.setIfInBounds_toArray,List.set_cons_zero,List.set_cons_succ,i64_w,i32_w]
    rfl
   refine pure_ (i:=8) (N:=some 2) (v:=?_) (a':=?_) #[true,true,true,true,true,true,true,true,true] rfl rfl (any_of HT_.out (by kernel_rfl)) (fun _ _ _ h => h) (Or.inl ⟨by rfl,?_⟩) ?_ ?_
   rotate_left
   ·intro w'
    go_simp
    with_reducible rfl
   rotate_left
   ·simp only [Act.put,List.setIfInBounds_toArray,List.set_cons_zero,List.set_cons_succ,i64_w,i32_w]
    rfl
   refine done_ (done_of HT_.out (by kernel_rfl)) ?_
   try go_wp2
   go_ret
   exact ⟨by first|rfl|(simp [errW_none,errW_some] <;> rfl)|(simp [*,errW_none,errW_some] <;> rfl),by repeat (first|(with_reducible first|exact HB.out|apply below_alloc|apply pw_below_drewN|apply below_drew1|refine below_set ?_ GE146.out)|exact HB.out)⟩
  ·rw [if_neg c10] at H
   have c10b0 : (a0_0 == 4) = false:=beq_eq_false_iff_ne.mpr c10
   have c10b1 : (a0_0 != 4) = true:=bne_iff_ne.mpr c10
   obtain rfl:=Option.some.inj H
   go_enter Tryd.func11,Tryd.ntmps11
   go_wp2_with (first|((with_reducible refine gate_dst (N:=1) rfl ?_);refine box_event ?hg (N:=1) ?hd (cs:=#[.int .i64 a0_0,.string a0_1,.int .i64 a0_2,.slice A0_3 l0_3.length c0_3]) (t:=29) ?hr ?_;(case hd => rfl);(case hg => rfl);(case hr => first|(go_simp;done)|(go_simp;rfl));intro gb146 hg w18 hbox hb;have n0_:=Aside0.mk (below_step (by repeat (first|(with_reducible first|exact HB.out|apply below_alloc|apply pw_below_drewN|apply below_drew1)|exact HB.out)) hb);have n1_:=Aside0.mk (hbox);have n2_:=Aside0.mk ((by rw [hg];exact (below_size (by repeat (first|(with_reducible first|exact HB.out|apply below_alloc|apply pw_below_drewN|apply below_drew1)|exact HB.out))) : w.heap.size ≤ gb146));have n3_:=Aside0.mk ((by rw [hg];exact (below_size (by repeat (first|(with_reducible first|exact HB.out|apply below_alloc|apply pw_below_drewN|apply below_drew1)|exact HB.out))) : w.heap.size ≤ gb146));clear HB;have HB:=n0_;have BK146:=n1_;have GW146:=n2_;have GE146:=n3_;clear n0_ n1_ n2_ n3_;clear hb hbox hg;have hcz19_0 : w18.cell? ⟨gb146,0,none⟩ = some (.int .i64 a0_0):=(blk_cell BK146.out 0).trans rfl;have hcz19_1 : w18.cell? ⟨gb146,1,none⟩ = some (.string a0_1):=(blk_cell BK146.out 1).trans rfl;have hcz19_2 : w18.cell? ⟨gb146,2,none⟩ = some (.int .i64 a0_2):=(blk_cell BK146.out 2).trans rfl;have hcz19_3 : w18.cell? ⟨gb146,3,none⟩ = some (.slice A0_3 l0_3.length c0_3):=(blk_cell BK146.out 3).trans rfl;have hfz19_0:=blk_frozen BK146.out 0;have hfz19_1:=blk_frozen BK146.out 1;have hfz19_2:=blk_frozen BK146.out 2;have hfz19_3:=blk_frozen BK146.out 3))
   go_ret
   exact ⟨by first|rfl|(simp [errW_none,errW_some] <;> rfl)|(simp [*,errW_none,errW_some] <;> rfl),by repeat (first|(with_reducible first|exact HB.out|apply below_alloc|apply pw_below_drewN|apply below_drew1|refine below_set ?_ GE146.out)|exact HB.out)⟩

/-! ### spec_l08ClausesOfRaw: function 65 -/
def spec_l08ClausesOfRaw.l0 : Nat → ByteArray → List (S48) → Int → List (S48) → List ByteArray → Option ((List (S48)))
 | 0,_,_,_,_,_ => none
 | k + 1,x1,x5,x6,x150000,x150001 => if x6 < (x150000.length : Int) then (if 0 ≤ x6 then ((spec_PredOf.f k ((rd_T48 x150000 x6).f0.f0) ((rd_T48 x150000 x6).f0.f1) ((rd_T48 x150000 x6).f0.f2) ((rd_T48 x150000 x6).f0.f3)).bind fun t154 => (if t154.toList = x1.toList then (if x5.length < 1099511627776 then (spec_l08ClausesOfRaw.l0 k x1 (x5 ++ [(⟨(⟨(rd_T48 x150000 x6).f0.f0,(rd_T48 x150000 x6).f0.f1,(rd_T48 x150000 x6).f0.f2,(rd_T48 x150000 x6).f0.f3⟩ : S29),(⟨(rd_T48 x150000 x6).f1.f0,(rd_T48 x150000 x6).f1.f1,(rd_T48 x150000 x6).f1.f2,(rd_T48 x150000 x6).f1.f3⟩ : S29),(rd_T48 x150000 x6).f2⟩ : S48)]) (wrap64 (x6 + 1)) x150000 x150001) else (none)) else (spec_l08ClausesOfRaw.l0 k x1 x5 (wrap64 (x6 + 1)) x150000 x150001))) else (none)) else (some x5)
def spec_l08ClausesOfRaw.f (k : Nat) (l0_0 : List (S48)) (l0_1 : List ByteArray) (a1 : ByteArray) : Option ((List (S48))):=spec_l08ClausesOfRaw.l0 k a1 (([] : List (S48))) 0 l0_0 l0_1
theorem spec_l08ClausesOfRaw.mono_l : ∀ k,(∀ y0 y1 y2 y3 y4,LeO (spec_l08ClausesOfRaw.l0 k y0 y1 y2 y3 y4) (spec_l08ClausesOfRaw.l0 (k + 1) y0 y1 y2 y3 y4))
 | 0 => fun _ _ _ _ _ r h => by simp [spec_l08ClausesOfRaw.l0] at h
 | k + 1 => by
  have ih0:=spec_l08ClausesOfRaw.mono_l k
  ·intro y0 y1 y2 y3 y4
   unfold spec_l08ClausesOfRaw.l0
   repeat' first
   | (with_reducible exact ih0 _ _ _ _ _)
   | (with_reducible exact spec_PredOf.mono _ _ _ _ _)
   | (with_reducible exact LeO.refl _)
   | (with_reducible exact LeO.none _)
   | (with_reducible refine LeO.ite ?_ ?_)
   | (with_reducible refine LeO.bind ?_ (fun _ => ?_))
   | exact ih0 _ _ _ _ _
   | exact spec_PredOf.mono _ _ _ _ _
   | exact LeO.none _
   | refine LeO.ite ?_ ?_
   | refine LeO.bind ?_ (fun _ => ?_)
theorem spec_l08ClausesOfRaw.mono : ∀ a0 a1 a2 k,LeO (spec_l08ClausesOfRaw.f k a0 a1 a2) (spec_l08ClausesOfRaw.f (k + 1) a0 a1 a2):=by
 intro a0 a1 a2 k
 have ih0:=spec_l08ClausesOfRaw.mono_l k
 unfold spec_l08ClausesOfRaw.f
 repeat' first
   | (with_reducible exact ih0 _ _ _ _ _)
   | (with_reducible exact spec_PredOf.mono _ _ _ _ _)
   | (with_reducible exact LeO.refl _)
   | (with_reducible exact LeO.none _)
   | (with_reducible refine LeO.ite ?_ ?_)
   | (with_reducible refine LeO.bind ?_ (fun _ => ?_))
   | exact ih0 _ _ _ _ _
   | exact spec_PredOf.mono _ _ _ _ _
   | exact LeO.none _
   | refine LeO.ite ?_ ?_
   | refine LeO.bind ?_ (fun _ => ?_)
set_option maxHeartbeats 8000000 in
set_option maxRecDepth 100000 in
theorem spec_l08ClausesOfRaw.calls (k : Nat) (P0_0_ : Nat → Prop) (A0_0 : Option Addr) (c0_0 : Nat) (l0_0 : List (S48)) (A0_1 : Option Addr) (c0_1 : Nat) (l0_1 : List ByteArray) (a1 : ByteArray) (r : List (S48)) (w : World) (hs0_0 : Kd.V k48 48 w w.heap.size (fun k_ => P0_0_ k_) (.slice A0_0 l0_0.length c0_0) l0_0) (hr0_1 : Kd.C Kd.string w A0_1 l0_1.length l0_1) (hc0_1 : l0_1.length ≤ c0_1) (h : spec_l08ClausesOfRaw.f k l0_0 l0_1 a1 = some r) :
  Calls Tryd.prog 65 #[.agg #[.slice A0_0 l0_0.length c0_0,.slice A0_1 l0_1.length c0_1],.string a1] w fun e w' => ∃ v0_ : Value,e = .returned (v0_) ∧ Kd.N k48 48 w' w.heap.size (fun k_ => (P0_0_ k_ ∨ w.heap.size ≤ k_)) v0_ r ∧ Below w.heap.size w w':=by
 have hu41:=Tryd.underlying41
 have hu29:=Tryd.underlying29
 have hu48:=Tryd.underlying48
 have HO0_0:=Aside0.mk (show Kd.V k48 48 w w.heap.size (fun k_ => (P0_0_ k_ ∨ w.heap.size ≤ k_)) (.slice A0_0 l0_0.length c0_0) l0_0 from Kd.V_mono hs0_0 (fun k_ hk => .inl hk))
 have HR0_1:=Aside0.mk hr0_1
 have HC0_1:=Aside0.mk hc0_1
 clear hr0_1 hc0_1
 have HB:=Aside0.mk (Below.refl w.heap.size w)
 have H : (spec_l08ClausesOfRaw.l0 k a1 (([] : List (S48))) 0 l0_0 l0_1) = some r:=h
 clear h
 obtain ⟨y150,hy150⟩ : ∃ y_ : List (S48),y_ = (([] : List (S48))):=⟨_,rfl⟩
 replace H : (spec_l08ClausesOfRaw.l0 k a1 y150 0 l0_0 l0_1) = some r:=by first|(rw [hy150];with_reducible exact H)|(have H2_:=(Option.bind_some _ _).symm.trans H;rw [hy150];with_reducible exact H2_)|(have H2_:=(Option.bind_some _ _).symm.trans H;with_reducible exact H2_)|with_reducible exact H|(rw [hy150];exact H)|exact H
 have Ny150:=Aside0.mk hy150
 clear hy150
 have H':=Aside0.mk H
 clear H
 go_enter Tryd.func65,Tryd.ntmps65
 go_wp2_with (first|((with_reducible refine gate_dst (N:=2) rfl ?_);refine box_event ?hg (N:=2) ?hd (cs:=#[.slice A0_0 l0_0.length c0_0,.slice A0_1 l0_1.length c0_1]) (t:=41) ?hr ?_;(case hd => rfl);(case hg => rfl);(case hr => first|(go_simp;done)|(go_simp;rfl));intro gb149 hg w3 hbox hb;have n0_:=Aside0.mk (Kd.V_below (Kd.V_elderB (by (with_reducible repeat (first|apply Kd.V_alloc|apply Kd.V_drewN|apply Kd.V_drew));exact HO0_0.out) gb149 (Nat.le_of_eq hg.symm)) hb);have n1_:=Aside0.mk (below_step (by repeat (first|(with_reducible first|exact HB.out|apply below_alloc|apply pw_below_drewN|apply below_drew1)|exact HB.out)) hb);have n2_:=Aside0.mk (hbox);have n3_:=Aside0.mk ((by rw [hg];exact (below_size (by repeat (first|(with_reducible first|exact HB.out|apply below_alloc|apply pw_below_drewN|apply below_drew1)|exact HB.out))) : w.heap.size ≤ gb149));have n4_:=Aside0.mk ((by rw [hg];exact (below_size (by repeat (first|(with_reducible first|exact HB.out|apply below_alloc|apply pw_below_drewN|apply below_drew1)|exact HB.out))) : w.heap.size ≤ gb149));clear HO0_0;clear HB;have HO0_0:=n0_;have HB:=n1_;have BK149:=n2_;have GW149:=n3_;have GE149:=n4_;clear n0_ n1_ n2_ n3_ n4_;clear hb hbox hg)|((with_reducible refine gate_dst (N:=7) rfl ?_);refine Kd.N_lit k48 _ 48 ?hg (N':=7) ?hd (xs:=([] : List (S48))) (inner:=[]) (ok:=(fun k_ => (P0_0_ k_ ∨ w.heap.size ≤ k_) ∧ k_ ≠ gb149)) (okp:=(fun k_ => (P0_0_ k_ ∨ w.heap.size ≤ k_) ∧ k_ ≠ gb149)) ?hr ?hp (fun _ hk => hk) ((show ∀ k_,w3.heap.size ≤ k_ → (fun k_ => (P0_0_ k_ ∨ w.heap.size ≤ k_) ∧ k_ ≠ gb149) k_ from fun k_ hk => ⟨(.inr (Nat.le_trans (below_size (by repeat (first|(with_reducible first|exact HB.out|apply below_alloc|apply pw_below_drewN|apply below_drew1|refine below_set ?_ GE149.out)|exact HB.out))) hk)),Kd.freshB (g:=gb149) (o:=.cells #[.slice A0_0 l0_0.length c0_0,.slice A0_1 l0_1.length c0_1] 41 (0,0)) (by (with_reducible repeat (first|refine blk_drewN ?_ _|refine blk_drew ?_|refine blk_alloc ?_ _));exact BK149.out) k_ hk⟩) _ (Nat.le_refl _)) (Below.refl _ _) (Nat.le_refl _) (by simp) ?_;(case hd => rfl);(case hg => rfl);(case hr => first|(go_simp;done)|(go_simp;rfl));(case hp => exact (Reps.none _ _));intro v151 w4 ho5 hb hg_ hnew_;clear hg_ hnew_;(first|rw [← Ny150.out] at ho5|(simp only [Int.reduceToNat] at ho5;rw [← Ny150.out] at ho5));have n0_:=Aside0.mk (Kd.V_elder' (by (with_reducible repeat (first|apply Kd.V_alloc|apply Kd.V_drewN|apply Kd.V_drew));exact HO0_0.out) (Kd.N_base ho5) hb);have n1_:=Aside0.mk (Kd.N_lower ho5 (below_size (by repeat (first|(with_reducible first|exact HB.out|apply below_alloc|apply pw_below_drewN|apply below_drew1|refine below_set ?_ GE149.out)|exact HB.out))));have n2_:=Aside0.mk (blk_below (g:=gb149) (o:=.cells #[.slice A0_0 l0_0.length c0_0,.slice A0_1 l0_1.length c0_1] 41 (0,0)) (by (with_reducible repeat (first|refine blk_drewN ?_ _|refine blk_drew ?_|refine blk_alloc ?_ _));exact BK149.out) hb);have n3_:=Aside0.mk (below_step (by repeat (first|(with_reducible first|exact HB.out|apply below_alloc|apply pw_below_drewN|apply below_drew1|refine below_set ?_ GE149.out)|exact HB.out)) hb);clear HO0_0;clear BK149;clear HB;have HO0_0:=n0_;have HO152:=n1_;have BK149:=n2_;have HB:=n3_;clear n0_ n1_ n2_ n3_;clear hb ho5))
 go_loopg [5,6] k (fun kq v5 v6 w' => ∃ (x5_1 : List (S48)) (x6_1 : Int),v6 = .int .i64 x6_1 ∧ Aside0 (spec_l08ClausesOfRaw.l0 kq a1 x5_1 x6_1 l0_0 l0_1 = some r) ∧ Aside0 (kq ≤ k) ∧ Aside0 (Kd.N k48 48 w' w.heap.size (fun k_ => (P0_0_ k_ ∨ w.heap.size ≤ k_) ∧ k_ ≠ gb149) v5 x5_1) ∧ Aside0 (Kd.V k48 48 w' w.heap.size (fun k_ => (P0_0_ k_ ∨ w.heap.size ≤ k_) ∧ some k_ ≠ (v5 : Value).ownBlock ∧ k_ ≠ gb149) (.slice A0_0 l0_0.length c0_0) l0_0) ∧ Aside0 (w'.heap[gb149]? = some (.cells #[(.slice A0_0 l0_0.length c0_0),(.slice A0_1 l0_1.length c0_1)] 41 (0,0))) ∧ Aside0 (Below w.heap.size w w'))
 case atStart => exact ⟨(y150),(0),(by first|rfl|(simp;done)|(simp [*];done)),H',⟨Nat.le_refl _⟩,⟨by (with_reducible repeat (first|apply Kd.N_alloc|apply Kd.N_drewN|apply Kd.N_drew));exact HO152.out⟩,⟨by (with_reducible repeat (first|apply Kd.V_alloc|apply Kd.V_drewN|apply Kd.V_drew));exact Kd.V_mono HO0_0.out (fun _ hk => ⟨hk.1.1,⟨hk.2,hk.1.2⟩⟩)⟩,⟨by (with_reducible repeat (first|refine blk_drewN ?_ _|refine blk_drew ?_|refine blk_alloc ?_ _));exact BK149.out⟩,⟨by repeat (first|(with_reducible first|exact HB.out|apply below_alloc|apply pw_below_drewN|apply below_drew1|refine below_set ?_ GE149.out)|exact HB.out)⟩⟩
 case round =>
  clear H'
  try clear BK149
  obtain ⟨x5_1,x6_1,rfl,HA,HK1,HO_5,HO_150000,BK149,HB⟩:=hrel
  cases gk with
  | zero => exact absurd HA.out (by simp [spec_l08ClausesOfRaw.l0])
  | succ k1 =>
   have H:=HA.out
   clear HA
   simp only [spec_l08ClausesOfRaw.l0] at H
   by_cases c6 : x6_1 < (l0_0.length : Int)
   ·rw [if_pos c6] at H
    have c6b0 : decide (x6_1 < (l0_0.length : Int)) = true:=decide_eq_true c6
    clear c6
    by_cases c7 : 0 ≤ x6_1
    rotate_left
    ·rw [if_neg c7] at H
     exact absurd H (by simp)
    rw [if_pos c7] at H
    have c7b0 : decide (0 ≤ x6_1) = true:=decide_eq_true c7
    clear c7
    replace H:=Option.bind_eq_some_iff.mp H
    obtain ⟨t154,A80,H⟩:=H
    replace H : (if t154.toList = a1.toList then (if x5_1.length < 1099511627776 then (spec_l08ClausesOfRaw.l0 k1 a1 (x5_1 ++ [(⟨(⟨(rd_T48 l0_0 x6_1).f0.f0,(rd_T48 l0_0 x6_1).f0.f1,(rd_T48 l0_0 x6_1).f0.f2,(rd_T48 l0_0 x6_1).f0.f3⟩ : S29),(⟨(rd_T48 l0_0 x6_1).f1.f0,(rd_T48 l0_0 x6_1).f1.f1,(rd_T48 l0_0 x6_1).f1.f2,(rd_T48 l0_0 x6_1).f1.f3⟩ : S29),(rd_T48 l0_0 x6_1).f2⟩ : S48)]) (wrap64 (x6_1 + 1)) l0_0 l0_1) else (none)) else (spec_l08ClausesOfRaw.l0 k1 a1 x5_1 (wrap64 (x6_1 + 1)) l0_0 l0_1)) = some r:=H
    have A8:=Aside0.mk A80
    clear A80
    by_cases c9 : t154.toList = a1.toList
    ·rw [if_pos c9] at H
     have c9b0 : (t154.toList == a1.toList) = true:=beq_iff_eq.mpr c9
     have c9b1 : (t154.toList != a1.toList) = false:=bne_eq_false_iff_eq.mpr c9
     clear c9
     by_cases c10 : x5_1.length < 1099511627776
     rotate_left
     ·rw [if_neg c10] at H
      exact absurd H (by simp)
     rw [if_pos c10] at H
     have LMc10:=Aside0.mk c10
     clear c10
     obtain ⟨y156,hy156⟩ : ∃ y_ : List (S48),y_ = (x5_1 ++ [(⟨(⟨(rd_T48 l0_0 x6_1).f0.f0,(rd_T48 l0_0 x6_1).f0.f1,(rd_T48 l0_0 x6_1).f0.f2,(rd_T48 l0_0 x6_1).f0.f3⟩ : S29),(⟨(rd_T48 l0_0 x6_1).f1.f0,(rd_T48 l0_0 x6_1).f1.f1,(rd_T48 l0_0 x6_1).f1.f2,(rd_T48 l0_0 x6_1).f1.f3⟩ : S29),(rd_T48 l0_0 x6_1).f2⟩ : S48)]):=⟨_,rfl⟩
     replace H : (spec_l08ClausesOfRaw.l0 k1 a1 y156 (wrap64 (x6_1 + 1)) l0_0 l0_1) = some r:=by first|(rw [hy156];with_reducible exact H)|(have H2_:=(Option.bind_some _ _).symm.trans H;rw [hy156];with_reducible exact H2_)|(have H2_:=(Option.bind_some _ _).symm.trans H;with_reducible exact H2_)|with_reducible exact H|(rw [hy156];exact H)|exact H
     have Ny156:=Aside0.mk hy156
     clear hy156
     have H':=Aside0.mk H
     clear H
     have hcz11_0 : wr.cell? ⟨gb149,0,none⟩ = some (.slice A0_0 l0_0.length c0_0):=(blk_cell BK149.out 0).trans rfl
     have hcz11_1 : wr.cell? ⟨gb149,1,none⟩ = some (.slice A0_1 l0_1.length c0_1):=(blk_cell BK149.out 1).trans rfl
     have hfz11_0:=blk_frozen BK149.out 0
     have hfz11_1:=blk_frozen BK149.out 1
     have p153 : 0 ≤ (x6_1 : Int):=of_decide_eq_true (by first|(with_reducible assumption)|assumption)
     have q153 : x6_1 < (l0_0.length : Int):=of_decide_eq_true (by first|(with_reducible assumption)|assumption)
     obtain ⟨ad153,A153_3,c153_3,A153_7,c153_7,e153,hx153_0,hx153_1,hx153_2,hx153_3,hx153_4,hx153_5,hx153_6,hx153_7,hx153_8,hl153_3,hi153_3,hl153_7,hi153_7⟩:=at_T48 (Kd.V_reads' HO_150000.out).2.2 x6_1 p153 q153
     cases e153
     obtain ⟨ce153,hce153,hMe153,hcc153⟩:=Kd.V_get HO_150000.out z48 x6_1 p153 (by first|exact q153|exact of_decide_eq_true (by first|(with_reducible assumption)|assumption)|(have e_:=(Kd.V_reads' HO_150000.out).1;omega))
     obtain ⟨ua153_3,uc153_3,ua153_7,uc153_7,rfl,ul153_3,ge153_3,ul153_7,ge153_7⟩:=k48_openF hMe153
     have hv153_3:=hcc153 3 _ rfl
     rw [add_field _ _ 3 (by omega)] at hv153_3
     replace hv153_3:=Option.some.inj (hv153_3.symm.trans hx153_3)
     injection hv153_3 with hva_ hvn_ hvc_
     rw [hva_] at ge153_3
     rw [hvc_] at ul153_3
     have HL153_3:=Aside0.mk (show Kd.V k29 29 _ w.heap.size _ _ ((rd_T48 l0_0 x6_1).f0.f3) from Kd.V_mk ul153_3 ge153_3)
     clear hva_ hvn_ hvc_ ge153_3 ul153_3
     have hv153_7:=hcc153 7 _ rfl
     rw [add_field _ _ 7 (by omega)] at hv153_7
     replace hv153_7:=Option.some.inj (hv153_7.symm.trans hx153_7)
     injection hv153_7 with hva_ hvn_ hvc_
     rw [hva_] at ge153_7
     rw [hvc_] at ul153_7
     have HL153_7:=Aside0.mk (show Kd.V k29 29 _ w.heap.size _ _ ((rd_T48 l0_0 x6_1).f1.f3) from Kd.V_mk ul153_7 ge153_7)
     clear hva_ hvn_ hvc_ ge153_7 ul153_7
     clear hcc153 hce153
     have HR153_3:=Aside0.mk hi153_3
     have HC153_3:=Aside0.mk hl153_3
     clear hi153_3 hl153_3
     have HR153_7:=Aside0.mk hi153_7
     have HC153_7:=Aside0.mk hl153_7
     clear hi153_7 hl153_7
     replace p153:=eq_true p153
     replace q153:=eq_true q153
     go_wp2_with (first|((with_reducible refine gate_callee (f:=11) rfl ?_);refine goesL_ (some 21) rfl rfl Tryd.func11 (by kernel_rfl) rfl #[.agg #[.int .i64 ((rd_T48 l0_0 x6_1).f0.f0),.string ((rd_T48 l0_0 x6_1).f0.f1),.int .i64 ((rd_T48 l0_0 x6_1).f0.f2),.slice A153_3 ((rd_T48 l0_0 x6_1).f0.f3).length c153_3]] rfl (by (try simp only [List.map_toArray,List.map_cons,List.map_nil]);first|done|rfl|(simp only [List.length_drop,List.length_take];rfl)) ?_;(with_reducible refine (spec_PredOf.calls k1 ((rd_T48 l0_0 x6_1).f0.f0) ((rd_T48 l0_0 x6_1).f0.f1) ((rd_T48 l0_0 x6_1).f0.f2) _ _ ((rd_T48 l0_0 x6_1).f0.f3) t154 _ ?side1 ?side2 A8.out).mono ?_);(case side1 => repeat (first|exact (by repeat (first|(with_reducible exact HR153_3.out)|(with_reducible refine Kd.C_alloc ?_ _)|(with_reducible refine Kd.C_drewN ?_ _)|(with_reducible refine Kd.C_drew ?_)|exact HR153_3.out))|(with_reducible refine Kd.C_alloc ?_ _)|(with_reducible refine Kd.C_drewN ?_ _)|(with_reducible refine Kd.C_drew ?_)));(case side2 => exact HC153_3.out);rintro e w12 ⟨rfl,hb⟩;refine ⟨_,rfl,?_⟩;have n0_:=Aside0.mk (Kd.N_below (by (with_reducible repeat (first|apply Kd.N_alloc|apply Kd.N_drewN|apply Kd.N_drew));exact HO_5.out) hb);have n1_:=Aside0.mk (Kd.V_below (by (with_reducible repeat (first|apply Kd.V_alloc|apply Kd.V_drewN|apply Kd.V_drew));exact HO_150000.out) hb);have n2_:=Aside0.mk (Kd.V_below (by (with_reducible repeat (first|apply Kd.V_alloc|apply Kd.V_drewN|apply Kd.V_drew));exact HL153_3.out) hb);have n3_:=Aside0.mk (Kd.V_below (by (with_reducible repeat (first|apply Kd.V_alloc|apply Kd.V_drewN|apply Kd.V_drew));exact HL153_7.out) hb);have n4_:=Aside0.mk (blk_below (g:=gb149) (o:=.cells #[.slice (some ad153) l0_0.length c0_0,.slice A0_1 l0_1.length c0_1] 41 (0,0)) (by (with_reducible repeat (first|refine blk_drewN ?_ _|refine blk_drew ?_|refine blk_alloc ?_ _));exact BK149.out) hb);have n5_:=Aside0.mk (Kd.C_below (by repeat (first|(with_reducible exact HR153_3.out)|(with_reducible refine Kd.C_alloc ?_ _)|(with_reducible refine Kd.C_drewN ?_ _)|(with_reducible refine Kd.C_drew ?_)|exact HR153_3.out)) hb);have n6_:=Aside0.mk (Kd.C_below (by repeat (first|(with_reducible exact HR153_7.out)|(with_reducible refine Kd.C_alloc ?_ _)|(with_reducible refine Kd.C_drewN ?_ _)|(with_reducible refine Kd.C_drew ?_)|exact HR153_7.out)) hb);have n7_:=Aside0.mk (below_step (by repeat (first|(with_reducible first|exact HB.out|apply below_alloc|apply pw_below_drewN|apply below_drew1|refine below_set ?_ GE149.out)|exact HB.out)) hb);clear HO_5;clear HO_150000;clear HL153_3;clear HL153_7;clear BK149;clear HR153_3;clear HR153_7;clear HB;have HO_5:=n0_;have HO_150000:=n1_;have HL153_3:=n2_;have HL153_7:=n3_;have BK149:=n4_;have HR153_3:=n5_;have HR153_7:=n6_;have HB:=n7_;clear n0_ n1_ n2_ n3_ n4_ n5_ n6_ n7_;(try clear hb);(try clear hb2);(try clear hk);(try clear hi);have hcz13_0 : w12.cell? ⟨gb149,0,none⟩ = some (.slice (some ad153) l0_0.length c0_0):=(blk_cell BK149.out 0).trans rfl;have hcz13_1 : w12.cell? ⟨gb149,1,none⟩ = some (.slice A0_1 l0_1.length c0_1):=(blk_cell BK149.out 1).trans rfl;have hfz13_0:=blk_frozen BK149.out 0;have hfz13_1:=blk_frozen BK149.out 1;have p155 : 0 ≤ (x6_1 : Int):=of_decide_eq_true (by first|(with_reducible assumption)|assumption);have q155 : x6_1 < (l0_0.length : Int):=of_decide_eq_true (by first|(with_reducible assumption)|assumption);obtain ⟨ad155,A155_3,c155_3,A155_7,c155_7,e155,hx155_0,hx155_1,hx155_2,hx155_3,hx155_4,hx155_5,hx155_6,hx155_7,hx155_8,hl155_3,hi155_3,hl155_7,hi155_7⟩:=at_T48 (Kd.V_reads' HO_150000.out).2.2 x6_1 p155 q155;obtain rfl : ad153 = ad155:=(by injection e155);obtain ⟨ce155,hce155,hMe155,hcc155⟩:=Kd.V_get HO_150000.out z48 x6_1 p155 (by first|exact q155|exact of_decide_eq_true (by first|(with_reducible assumption)|assumption)|(have e_:=(Kd.V_reads' HO_150000.out).1;omega));obtain ⟨ua155_3,uc155_3,ua155_7,uc155_7,rfl,ul155_3,ge155_3,ul155_7,ge155_7⟩:=k48_openF hMe155;have hv155_3:=hcc155 3 _ rfl;rw [add_field _ _ 3 (by omega)] at hv155_3;replace hv155_3:=Option.some.inj (hv155_3.symm.trans hx155_3);injection hv155_3 with hva_ hvn_ hvc_;rw [hva_] at ge155_3;rw [hvc_] at ul155_3;have HL155_3:=Aside0.mk (show Kd.V k29 29 _ w.heap.size _ _ ((rd_T48 l0_0 x6_1).f0.f3) from Kd.V_mk ul155_3 ge155_3);clear hva_ hvn_ hvc_ ge155_3 ul155_3;have hv155_7:=hcc155 7 _ rfl;rw [add_field _ _ 7 (by omega)] at hv155_7;replace hv155_7:=Option.some.inj (hv155_7.symm.trans hx155_7);injection hv155_7 with hva_ hvn_ hvc_;rw [hva_] at ge155_7;rw [hvc_] at ul155_7;have HL155_7:=Aside0.mk (show Kd.V k29 29 _ w.heap.size _ _ ((rd_T48 l0_0 x6_1).f1.f3) from Kd.V_mk ul155_7 ge155_7);clear hva_ hvn_ hvc_ ge155_7 ul155_7;clear hcc155 hce155;have HR155_3:=Aside0.mk hi155_3;have HC155_3:=Aside0.mk hl155_3;clear hi155_3 hl155_3;have HR155_7:=Aside0.mk hi155_7;have HC155_7:=Aside0.mk hl155_7;clear hi155_7 hl155_7;replace p155:=eq_true p155;replace q155:=eq_true q155)|((with_reducible refine gate_builtin (b:=.append) (xs:=#[.tmp 24,.tmp 30]) rfl ?_);at_builtin;refine Kd.N_append k48 (w0:=w) w.heap.size rfl (.tmp 24) (.tmp 30) 39 48 (.agg #[(.int .i64 0),(.string ⟨#[]⟩),(.int .i64 0),(.slice none 0 0),(.int .i64 0),(.string ⟨#[]⟩),(.int .i64 0),(.slice none 0 0),(.string ⟨#[]⟩)]) 128 rfl Tryd.underlying39 info48 rfl (by decide) (by omega) u5 x5_1 (⟨(⟨(rd_T48 l0_0 x6_1).f0.f0,(rd_T48 l0_0 x6_1).f0.f1,(rd_T48 l0_0 x6_1).f0.f2,(rd_T48 l0_0 x6_1).f0.f3⟩ : S29),(⟨(rd_T48 l0_0 x6_1).f1.f0,(rd_T48 l0_0 x6_1).f1.f1,(rd_T48 l0_0 x6_1).f1.f2,(rd_T48 l0_0 x6_1).f1.f3⟩ : S29),(rd_T48 l0_0 x6_1).f2⟩ : S48) [.int .i64 ((rd_T48 l0_0 x6_1).f0.f0),.string ((rd_T48 l0_0 x6_1).f0.f1),.int .i64 ((rd_T48 l0_0 x6_1).f0.f2),.slice A155_3 ((rd_T48 l0_0 x6_1).f0.f3).length c155_3,.int .i64 ((rd_T48 l0_0 x6_1).f1.f0),.string ((rd_T48 l0_0 x6_1).f1.f1),.int .i64 ((rd_T48 l0_0 x6_1).f1.f2),.slice A155_7 ((rd_T48 l0_0 x6_1).f1.f3).length c155_7,.string ((rd_T48 l0_0 x6_1).f2)] (fun k_ => (P0_0_ k_ ∨ w.heap.size ≤ k_) ∧ k_ ≠ gb149) (fun k_ => ((fun k_ => (P0_0_ k_ ∨ w.heap.size ≤ k_) ∧ k_ ≠ gb149)) k_ ∧ some k_ ≠ (u5 : Value).ownBlock) rfl rfl ?aP (fun _ hk => hk) ?aF ?aO ?aB ?aS ?aL ?_;(case aP => exact (k48_mkF _ _ (⟨(⟨(rd_T48 l0_0 x6_1).f0.f0,(rd_T48 l0_0 x6_1).f0.f1,(rd_T48 l0_0 x6_1).f0.f2,(rd_T48 l0_0 x6_1).f0.f3⟩ : S29),(⟨(rd_T48 l0_0 x6_1).f1.f0,(rd_T48 l0_0 x6_1).f1.f1,(rd_T48 l0_0 x6_1).f1.f2,(rd_T48 l0_0 x6_1).f1.f3⟩ : S29),(rd_T48 l0_0 x6_1).f2⟩ : S48) (Kd.V_reads' (Kd.V_mono (ok':=(fun k_ => ((fun k_ => (P0_0_ k_ ∨ w.heap.size ≤ k_) ∧ k_ ≠ gb149)) k_ ∧ some k_ ≠ (u5 : Value).ownBlock)) (HL155_3.out) (fun k_ hk => ⟨⟨hk.1,hk.2.2⟩,hk.2.1⟩))).2.1 (Kd.V_F (Kd.V_mono (ok':=(fun k_ => ((fun k_ => (P0_0_ k_ ∨ w.heap.size ≤ k_) ∧ k_ ≠ gb149)) k_ ∧ some k_ ≠ (u5 : Value).ownBlock)) (HL155_3.out) (fun k_ hk => ⟨⟨hk.1,hk.2.2⟩,hk.2.1⟩))) (Kd.V_reads' (Kd.V_mono (ok':=(fun k_ => ((fun k_ => (P0_0_ k_ ∨ w.heap.size ≤ k_) ∧ k_ ≠ gb149)) k_ ∧ some k_ ≠ (u5 : Value).ownBlock)) (HL155_7.out) (fun k_ hk => ⟨⟨hk.1,hk.2.2⟩,hk.2.1⟩))).2.1 (Kd.V_F (Kd.V_mono (ok':=(fun k_ => ((fun k_ => (P0_0_ k_ ∨ w.heap.size ≤ k_) ∧ k_ ≠ gb149)) k_ ∧ some k_ ≠ (u5 : Value).ownBlock)) (HL155_7.out) (fun k_ hk => ⟨⟨hk.1,hk.2.2⟩,hk.2.1⟩)))));(case aB => exact (by repeat (first|(with_reducible first|exact HB.out|apply below_alloc|apply pw_below_drewN|apply below_drew1|refine below_set ?_ GE149.out)|exact HB.out)));(case aF => exact (fun k_ hk => ⟨(.inr (Nat.le_trans (below_size (by repeat (first|(with_reducible first|exact HB.out|apply below_alloc|apply pw_below_drewN|apply below_drew1|refine below_set ?_ GE149.out)|exact HB.out))) hk)),Kd.freshB (g:=gb149) (o:=.cells #[.slice (some ad153) l0_0.length c0_0,.slice A0_1 l0_1.length c0_1] 41 (0,0)) (by (with_reducible repeat (first|refine blk_drewN ?_ _|refine blk_drew ?_|refine blk_alloc ?_ _));exact BK149.out) k_ hk⟩));(case aO => exact (by (with_reducible repeat (first|apply Kd.N_alloc|apply Kd.N_drewN|apply Kd.N_drew));exact HO_5.out));(case aS => exact (below_size (by repeat (first|(with_reducible first|exact HB.out|apply below_alloc|apply pw_below_drewN|apply below_drew1|refine below_set ?_ GE149.out)|exact HB.out))));(case aL => have:=LMc10.out;omega);intro v157 w14 ho hb hg hat;rw [← Ny156.out] at ho;have n0_:=Aside0.mk (Kd.V_afterv (ok:=(fun k_ => (P0_0_ k_ ∨ w.heap.size ≤ k_) ∧ k_ ≠ gb149)) (by (with_reducible repeat (first|apply Kd.V_alloc|apply Kd.V_drewN|apply Kd.V_drew));exact Kd.V_mono HO_150000.out (fun _ hk => ⟨⟨hk.1,hk.2.2⟩,hk.2.1⟩)) hg hat);have n1_:=Aside0.mk (blk_grown (g:=gb149) (o:=.cells #[.slice (some ad153) l0_0.length c0_0,.slice A0_1 l0_1.length c0_1] 41 (0,0)) (by (with_reducible repeat (first|refine blk_drewN ?_ _|refine blk_drew ?_|refine blk_alloc ?_ _));exact BK149.out) hg (Kd.N_ne HO_5.out BK149.out (by decide)));have n2_:=Aside0.mk (Kd.V_afterv (ok:=(fun k_ => (P0_0_ k_ ∨ w.heap.size ≤ k_) ∧ k_ ≠ gb149)) (by (with_reducible repeat (first|apply Kd.V_alloc|apply Kd.V_drewN|apply Kd.V_drew));exact Kd.V_mono HL153_3.out (fun _ hk => ⟨⟨hk.1,hk.2.2⟩,hk.2.1⟩)) hg hat);have n3_:=Aside0.mk (Kd.V_afterv (ok:=(fun k_ => (P0_0_ k_ ∨ w.heap.size ≤ k_) ∧ k_ ≠ gb149)) (by (with_reducible repeat (first|apply Kd.V_alloc|apply Kd.V_drewN|apply Kd.V_drew));exact Kd.V_mono HL153_7.out (fun _ hk => ⟨⟨hk.1,hk.2.2⟩,hk.2.1⟩)) hg hat);have n4_:=Aside0.mk (Kd.V_afterv (ok:=(fun k_ => (P0_0_ k_ ∨ w.heap.size ≤ k_) ∧ k_ ≠ gb149)) (by (with_reducible repeat (first|apply Kd.V_alloc|apply Kd.V_drewN|apply Kd.V_drew));exact Kd.V_mono HL155_3.out (fun _ hk => ⟨⟨hk.1,hk.2.2⟩,hk.2.1⟩)) hg hat);have n5_:=Aside0.mk (Kd.V_afterv (ok:=(fun k_ => (P0_0_ k_ ∨ w.heap.size ≤ k_) ∧ k_ ≠ gb149)) (by (with_reducible repeat (first|apply Kd.V_alloc|apply Kd.V_drewN|apply Kd.V_drew));exact Kd.V_mono HL155_7.out (fun _ hk => ⟨⟨hk.1,hk.2.2⟩,hk.2.1⟩)) hg hat);have n6_:=Aside0.mk (hb);have n7_:=Aside0.mk (ho);clear HO_150000;clear BK149;clear HL153_3;clear HL153_7;clear HL155_3;clear HL155_7;clear HB;clear HO_5;have HO_150000:=n0_;have BK149:=n1_;have HL153_3:=n2_;have HL153_7:=n3_;have HL155_3:=n4_;have HL155_7:=n5_;have HB:=n6_;have HO158:=n7_;clear n0_ n1_ n2_ n3_ n4_ n5_ n6_ n7_;clear ho hb hg hat))
     go_roundg k1
     case measure => have:=HK1.out;omega
     case rel => exact ⟨(y156),(wrap64 (x6_1 + 1)),(by first|rfl|(simp;done)|(simp [*];done)),H',⟨by have:=HK1.out;omega⟩,⟨by (with_reducible repeat (first|apply Kd.N_alloc|apply Kd.N_drewN|apply Kd.N_drew));exact HO158.out⟩,⟨by (with_reducible repeat (first|apply Kd.V_alloc|apply Kd.V_drewN|apply Kd.V_drew));exact Kd.V_mono HO_150000.out (fun _ hk => ⟨hk.1.1,⟨hk.2,hk.1.2⟩⟩)⟩,⟨by (with_reducible repeat (first|refine blk_drewN ?_ _|refine blk_drew ?_|refine blk_alloc ?_ _));exact BK149.out⟩,⟨by repeat (first|(with_reducible first|exact HB.out|apply below_alloc|apply pw_below_drewN|apply below_drew1|refine below_set ?_ GE149.out)|exact HB.out)⟩⟩
    ·rw [if_neg c9] at H
     have c9b0 : (t154.toList == a1.toList) = false:=beq_eq_false_iff_ne.mpr c9
     have c9b1 : (t154.toList != a1.toList) = true:=bne_iff_ne.mpr c9
     have H':=Aside0.mk H
     clear H
     have hcz15_0 : wr.cell? ⟨gb149,0,none⟩ = some (.slice A0_0 l0_0.length c0_0):=(blk_cell BK149.out 0).trans rfl
     have hcz15_1 : wr.cell? ⟨gb149,1,none⟩ = some (.slice A0_1 l0_1.length c0_1):=(blk_cell BK149.out 1).trans rfl
     have hfz15_0:=blk_frozen BK149.out 0
     have hfz15_1:=blk_frozen BK149.out 1
     have p153 : 0 ≤ (x6_1 : Int):=of_decide_eq_true (by first|(with_reducible assumption)|assumption)
     have q153 : x6_1 < (l0_0.length : Int):=of_decide_eq_true (by first|(with_reducible assumption)|assumption)
     obtain ⟨ad153,A153_3,c153_3,A153_7,c153_7,e153,hx153_0,hx153_1,hx153_2,hx153_3,hx153_4,hx153_5,hx153_6,hx153_7,hx153_8,hl153_3,hi153_3,hl153_7,hi153_7⟩:=at_T48 (Kd.V_reads' HO_150000.out).2.2 x6_1 p153 q153
     cases e153
     obtain ⟨ce153,hce153,hMe153,hcc153⟩:=Kd.V_get HO_150000.out z48 x6_1 p153 (by first|exact q153|exact of_decide_eq_true (by first|(with_reducible assumption)|assumption)|(have e_:=(Kd.V_reads' HO_150000.out).1;omega))
     obtain ⟨ua153_3,uc153_3,ua153_7,uc153_7,rfl,ul153_3,ge153_3,ul153_7,ge153_7⟩:=k48_openF hMe153
     have hv153_3:=hcc153 3 _ rfl
     rw [add_field _ _ 3 (by omega)] at hv153_3
     replace hv153_3:=Option.some.inj (hv153_3.symm.trans hx153_3)
     injection hv153_3 with hva_ hvn_ hvc_
     rw [hva_] at ge153_3
     rw [hvc_] at ul153_3
     have HL153_3:=Aside0.mk (show Kd.V k29 29 _ w.heap.size _ _ ((rd_T48 l0_0 x6_1).f0.f3) from Kd.V_mk ul153_3 ge153_3)
     clear hva_ hvn_ hvc_ ge153_3 ul153_3
     have hv153_7:=hcc153 7 _ rfl
     rw [add_field _ _ 7 (by omega)] at hv153_7
     replace hv153_7:=Option.some.inj (hv153_7.symm.trans hx153_7)
     injection hv153_7 with hva_ hvn_ hvc_
     rw [hva_] at ge153_7
     rw [hvc_] at ul153_7
     have HL153_7:=Aside0.mk (show Kd.V k29 29 _ w.heap.size _ _ ((rd_T48 l0_0 x6_1).f1.f3) from Kd.V_mk ul153_7 ge153_7)
     clear hva_ hvn_ hvc_ ge153_7 ul153_7
     clear hcc153 hce153
     have HR153_3:=Aside0.mk hi153_3
     have HC153_3:=Aside0.mk hl153_3
     clear hi153_3 hl153_3
     have HR153_7:=Aside0.mk hi153_7
     have HC153_7:=Aside0.mk hl153_7
     clear hi153_7 hl153_7
     replace p153:=eq_true p153
     replace q153:=eq_true q153
     go_wp2_with (first|((with_reducible refine gate_callee (f:=11) rfl ?_);refine goesL_ (some 21) rfl rfl Tryd.func11 (by kernel_rfl) rfl #[.agg #[.int .i64 ((rd_T48 l0_0 x6_1).f0.f0),.string ((rd_T48 l0_0 x6_1).f0.f1),.int .i64 ((rd_T48 l0_0 x6_1).f0.f2),.slice A153_3 ((rd_T48 l0_0 x6_1).f0.f3).length c153_3]] rfl (by (try simp only [List.map_toArray,List.map_cons,List.map_nil]);first|done|rfl|(simp only [List.length_drop,List.length_take];rfl)) ?_;(with_reducible refine (spec_PredOf.calls k1 ((rd_T48 l0_0 x6_1).f0.f0) ((rd_T48 l0_0 x6_1).f0.f1) ((rd_T48 l0_0 x6_1).f0.f2) _ _ ((rd_T48 l0_0 x6_1).f0.f3) t154 _ ?side1 ?side2 A8.out).mono ?_);(case side1 => repeat (first|exact (by repeat (first|(with_reducible exact HR153_3.out)|(with_reducible refine Kd.C_alloc ?_ _)|(with_reducible refine Kd.C_drewN ?_ _)|(with_reducible refine Kd.C_drew ?_)|exact HR153_3.out))|(with_reducible refine Kd.C_alloc ?_ _)|(with_reducible refine Kd.C_drewN ?_ _)|(with_reducible refine Kd.C_drew ?_)));(case side2 => exact HC153_3.out);rintro e w16 ⟨rfl,hb⟩;refine ⟨_,rfl,?_⟩;have n0_:=Aside0.mk (Kd.N_below (by (with_reducible repeat (first|apply Kd.N_alloc|apply Kd.N_drewN|apply Kd.N_drew));exact HO_5.out) hb);have n1_:=Aside0.mk (Kd.V_below (by (with_reducible repeat (first|apply Kd.V_alloc|apply Kd.V_drewN|apply Kd.V_drew));exact HO_150000.out) hb);have n2_:=Aside0.mk (Kd.V_below (by (with_reducible repeat (first|apply Kd.V_alloc|apply Kd.V_drewN|apply Kd.V_drew));exact HL153_3.out) hb);have n3_:=Aside0.mk (Kd.V_below (by (with_reducible repeat (first|apply Kd.V_alloc|apply Kd.V_drewN|apply Kd.V_drew));exact HL153_7.out) hb);have n4_:=Aside0.mk (blk_below (g:=gb149) (o:=.cells #[.slice (some ad153) l0_0.length c0_0,.slice A0_1 l0_1.length c0_1] 41 (0,0)) (by (with_reducible repeat (first|refine blk_drewN ?_ _|refine blk_drew ?_|refine blk_alloc ?_ _));exact BK149.out) hb);have n5_:=Aside0.mk (Kd.C_below (by repeat (first|(with_reducible exact HR153_3.out)|(with_reducible refine Kd.C_alloc ?_ _)|(with_reducible refine Kd.C_drewN ?_ _)|(with_reducible refine Kd.C_drew ?_)|exact HR153_3.out)) hb);have n6_:=Aside0.mk (Kd.C_below (by repeat (first|(with_reducible exact HR153_7.out)|(with_reducible refine Kd.C_alloc ?_ _)|(with_reducible refine Kd.C_drewN ?_ _)|(with_reducible refine Kd.C_drew ?_)|exact HR153_7.out)) hb);have n7_:=Aside0.mk (below_step (by repeat (first|(with_reducible first|exact HB.out|apply below_alloc|apply pw_below_drewN|apply below_drew1|refine below_set ?_ GE149.out)|exact HB.out)) hb);clear HO_5;clear HO_150000;clear HL153_3;clear HL153_7;clear BK149;clear HR153_3;clear HR153_7;clear HB;have HO_5:=n0_;have HO_150000:=n1_;have HL153_3:=n2_;have HL153_7:=n3_;have BK149:=n4_;have HR153_3:=n5_;have HR153_7:=n6_;have HB:=n7_;clear n0_ n1_ n2_ n3_ n4_ n5_ n6_ n7_;(try clear hb)))
     go_roundg k1
     case measure => have:=HK1.out;omega
     case rel => exact ⟨(x5_1),(wrap64 (x6_1 + 1)),(by first|rfl|(simp;done)|(simp [*];done)),H',⟨by have:=HK1.out;omega⟩,⟨by (with_reducible repeat (first|apply Kd.N_alloc|apply Kd.N_drewN|apply Kd.N_drew));exact HO_5.out⟩,⟨by (with_reducible repeat (first|apply Kd.V_alloc|apply Kd.V_drewN|apply Kd.V_drew));exact HO_150000.out⟩,⟨by (with_reducible repeat (first|refine blk_drewN ?_ _|refine blk_drew ?_|refine blk_alloc ?_ _));exact BK149.out⟩,⟨by repeat (first|(with_reducible first|exact HB.out|apply below_alloc|apply pw_below_drewN|apply below_drew1|refine below_set ?_ GE149.out)|exact HB.out)⟩⟩
   ·rw [if_neg c6] at H
    have c6b0 : decide (x6_1 < (l0_0.length : Int)) = false:=decide_eq_false c6
    clear c6
    obtain rfl:=Option.some.inj H
    have hcz17_0 : wr.cell? ⟨gb149,0,none⟩ = some (.slice A0_0 l0_0.length c0_0):=(blk_cell BK149.out 0).trans rfl
    have hcz17_1 : wr.cell? ⟨gb149,1,none⟩ = some (.slice A0_1 l0_1.length c0_1):=(blk_cell BK149.out 1).trans rfl
    have hfz17_0:=blk_frozen BK149.out 0
    have hfz17_1:=blk_frozen BK149.out 1
    go_wp2
    go_ret
    exact ⟨_,by first|rfl|(simp [errW_none,errW_some] <;> rfl)|(simp [*,errW_none,errW_some] <;> rfl),by (with_reducible repeat (first|apply Kd.N_alloc|apply Kd.N_drewN|apply Kd.N_drew));exact Kd.N_mono HO_5.out (fun _ hk => hk.1),by repeat (first|(with_reducible first|exact HB.out|apply below_alloc|apply pw_below_drewN|apply below_drew1|refine below_set ?_ GE149.out)|exact HB.out)⟩

/-! ### spec_l34Terms: function 100 -/
def spec_l34Terms.l0 : Nat → List (S29) → List (S29) → Int → Option ((List (S29)))
 | 0,_,_,_ => none
 | k + 1,x0,x3,x4 => if x4 < (x0.length : Int) then (if 0 ≤ x4 then ((fk_spec_l34Term.f k ((rd_T29 x0 x4).f0) ((rd_T29 x0 x4).f1) ((rd_T29 x0 x4).f2) ((rd_T29 x0 x4).f3)).bind fun bt163 => (if x3.length < 2513169434916 then (spec_l34Terms.l0 k x0 (x3 ++ [(⟨bt163.1,bt163.2.1,bt163.2.2.1,bt163.2.2.2⟩ : S29)]) (wrap64 (x4 + 1))) else (none))) else (none)) else (some x3)
def spec_l34Terms.f (k : Nat) (l0 : List (S29)) : Option ((List (S29))):=spec_l34Terms.l0 k l0 (([] : List (S29))) 0
theorem spec_l34Terms.mono_l : ∀ k,(∀ y0 y1 y2,LeO (spec_l34Terms.l0 k y0 y1 y2) (spec_l34Terms.l0 (k + 1) y0 y1 y2))
 | 0 => fun _ _ _ r h => by simp [spec_l34Terms.l0] at h
 | k + 1 => by
  have ih0:=spec_l34Terms.mono_l k
  ·intro y0 y1 y2
   unfold spec_l34Terms.l0
   repeat' first
   | (with_reducible exact ih0 _ _ _)
   | (with_reducible exact fk_spec_l34Term.mono _ _ _ _ _)
   | (with_reducible exact LeO.refl _)
   | (with_reducible exact LeO.none _)
   | (with_reducible refine LeO.ite ?_ ?_)
   | (with_reducible refine LeO.bind ?_ (fun _ => ?_))
   | exact ih0 _ _ _
   | exact fk_spec_l34Term.mono _ _ _ _ _
   | exact LeO.none _
   | refine LeO.ite ?_ ?_
   | refine LeO.bind ?_ (fun _ => ?_)
theorem spec_l34Terms.mono : ∀ a0 k,LeO (spec_l34Terms.f k a0) (spec_l34Terms.f (k + 1) a0):=by
 intro a0 k
 have ih0:=spec_l34Terms.mono_l k
 unfold spec_l34Terms.f
 repeat' first
   | (with_reducible exact ih0 _ _ _)
   | (with_reducible exact fk_spec_l34Term.mono _ _ _ _ _)
   | (with_reducible exact LeO.refl _)
   | (with_reducible exact LeO.none _)
   | (with_reducible refine LeO.ite ?_ ?_)
   | (with_reducible refine LeO.bind ?_ (fun _ => ?_))
   | exact ih0 _ _ _
   | exact fk_spec_l34Term.mono _ _ _ _ _
   | exact LeO.none _
   | refine LeO.ite ?_ ?_
   | refine LeO.bind ?_ (fun _ => ?_)
set_option maxHeartbeats 8000000 in
set_option maxRecDepth 100000 in
theorem spec_l34Terms.calls (k : Nat) (A0 : Option Addr) (c0 : Nat) (l0 : List (S29)) (r : List (S29)) (w : World) (hr0 : Kd.C k29 w A0 l0.length l0) (hc0 : l0.length ≤ c0) (h : spec_l34Terms.f k l0 = some r) :
  Calls Tryd.prog 100 #[.slice A0 l0.length c0] w fun e w' => ∃ v0_ : Value,e = .returned (v0_) ∧ Kd.R k29 29 w' w.heap.size (fun _ => True) v0_ r ∧ Below w.heap.size w w':=by
 have hu29:=Tryd.underlying29
 have HR0:=Aside0.mk hr0
 have HC0:=Aside0.mk hc0
 clear hr0 hc0
 have HB:=Aside0.mk (Below.refl w.heap.size w)
 have H : (spec_l34Terms.l0 k l0 (([] : List (S29))) 0) = some r:=h
 clear h
 obtain ⟨y159,hy159⟩ : ∃ y_ : List (S29),y_ = (([] : List (S29))):=⟨_,rfl⟩
 replace H : (spec_l34Terms.l0 k l0 y159 0) = some r:=by first|(rw [hy159];with_reducible exact H)|(have H2_:=(Option.bind_some _ _).symm.trans H;rw [hy159];with_reducible exact H2_)|(have H2_:=(Option.bind_some _ _).symm.trans H;with_reducible exact H2_)|with_reducible exact H|(rw [hy159];exact H)|exact H
 have Ny159:=Aside0.mk hy159
 clear hy159
 have H':=Aside0.mk H
 clear H
 go_enter Tryd.func100,Tryd.ntmps100
 go_wp2_with (first|((with_reducible refine gate_dst (N:=5) rfl ?_);refine Kd.R_lit k29 _ 29 ?hg (N:=5) ?hd (xs:=([] : List (S29))) (inner:=[]) (ok:=fun _ => True) (okp:=fun _ => True) ?hr ?hp (fun _ hk => hk) trivial (Below.refl _ _) (Nat.le_refl _) (by simp) ?_;(case hd => rfl);(case hg => rfl);(case hr => first|(go_simp;done)|(go_simp;rfl));(case hp => exact (Reps.none _ _));intro v160 w2 ho3 hb hg_ hnew_;clear hg_ hnew_;(first|rw [← Ny159.out] at ho3|(simp only [Int.reduceToNat] at ho3;rw [← Ny159.out] at ho3));have n0_:=Aside0.mk (Kd.R_lower ho3 (below_size (by repeat (first|(with_reducible first|exact HB.out|apply below_alloc|apply pw_below_drewN|apply below_drew1)|exact HB.out))));have n1_:=Aside0.mk (below_step (by repeat (first|(with_reducible first|exact HB.out|apply below_alloc|apply pw_below_drewN|apply below_drew1)|exact HB.out)) hb);clear HB;have HO161:=n0_;have HB:=n1_;clear n0_ n1_;clear hb ho3))
 go_loopg [3,4] k (fun kq v3 v4 w' => ∃ (x3_1 : List (S29)) (x4_1 : Int),v4 = .int .i64 x4_1 ∧ Aside0 (spec_l34Terms.l0 kq l0 x3_1 x4_1 = some r) ∧ Aside0 (kq ≤ k) ∧ Aside0 (Kd.R k29 29 w' w.heap.size (fun _ => True) v3 x3_1) ∧ Aside0 (Below w.heap.size w w'))
 case atStart => exact ⟨(y159),(0),(by first|rfl|(simp;done)|(simp [*];done)),H',⟨Nat.le_refl _⟩,⟨by (with_reducible repeat (first|apply Kd.R_alloc|apply Kd.R_drewN|apply Kd.R_drew));exact HO161.out⟩,⟨by repeat (first|(with_reducible first|exact HB.out|apply below_alloc|apply pw_below_drewN|apply below_drew1)|exact HB.out)⟩⟩
 case round =>
  clear H'
  obtain ⟨x3_1,x4_1,rfl,HA,HK1,HO_3,HB⟩:=hrel
  cases gk with
  | zero => exact absurd HA.out (by simp [spec_l34Terms.l0])
  | succ k1 =>
   have H:=HA.out
   clear HA
   simp only [spec_l34Terms.l0] at H
   by_cases c4 : x4_1 < (l0.length : Int)
   ·rw [if_pos c4] at H
    have c4b0 : decide (x4_1 < (l0.length : Int)) = true:=decide_eq_true c4
    clear c4
    by_cases c5 : 0 ≤ x4_1
    rotate_left
    ·rw [if_neg c5] at H
     exact absurd H (by simp)
    rw [if_pos c5] at H
    have c5b0 : decide (0 ≤ x4_1) = true:=decide_eq_true c5
    clear c5
    replace H:=Option.bind_eq_some_iff.mp H
    obtain ⟨⟨t163,t164,t165,t166⟩,A60,H⟩:=H
    replace H : (if x3_1.length < 2513169434916 then (spec_l34Terms.l0 k1 l0 (x3_1 ++ [(⟨t163,t164,t165,t166⟩ : S29)]) (wrap64 (x4_1 + 1))) else (none)) = some r:=H
    have A6:=Aside0.mk A60
    clear A60
    by_cases c7 : x3_1.length < 2513169434916
    rotate_left
    ·rw [if_neg c7] at H
     exact absurd H (by simp)
    rw [if_pos c7] at H
    have LMc7:=Aside0.mk c7
    clear c7
    obtain ⟨y169,hy169⟩ : ∃ y_ : List (S29),y_ = (x3_1 ++ [(⟨t163,t164,t165,t166⟩ : S29)]):=⟨_,rfl⟩
    replace H : (spec_l34Terms.l0 k1 l0 y169 (wrap64 (x4_1 + 1))) = some r:=by first|(rw [hy169];with_reducible exact H)|(have H2_:=(Option.bind_some _ _).symm.trans H;rw [hy169];with_reducible exact H2_)|(have H2_:=(Option.bind_some _ _).symm.trans H;with_reducible exact H2_)|with_reducible exact H|(rw [hy169];exact H)|exact H
    have Ny169:=Aside0.mk hy169
    clear hy169
    have H':=Aside0.mk H
    clear H
    have p162 : 0 ≤ (x4_1 : Int):=of_decide_eq_true (by first|(with_reducible assumption)|assumption)
    have q162 : x4_1 < (l0.length : Int):=of_decide_eq_true (by first|(with_reducible assumption)|assumption)
    obtain ⟨ad162,A162_3,c162_3,e162,hx162_0,hx162_1,hx162_2,hx162_3,hl162_3,hi162_3⟩:=at_T29 HR0.out x4_1 p162 q162
    cases e162
    replace hx162_0:=(HB.out.cell (World.block_lt_of_cell? w _ hx162_0)).trans hx162_0
    replace hx162_1:=(HB.out.cell (World.block_lt_of_cell? w _ hx162_1)).trans hx162_1
    replace hx162_2:=(HB.out.cell (World.block_lt_of_cell? w _ hx162_2)).trans hx162_2
    replace hx162_3:=(HB.out.cell (World.block_lt_of_cell? w _ hx162_3)).trans hx162_3
    have HR162_3:=Aside0.mk hi162_3
    have HC162_3:=Aside0.mk hl162_3
    clear hi162_3 hl162_3
    replace p162:=eq_true p162
    replace q162:=eq_true q162
    go_wp2_with (first|((with_reducible refine gate_callee (f:=75) rfl ?_);refine goesL_ (some 17) rfl rfl Tryd.func75 (by kernel_rfl) rfl #[.agg #[.int .i64 ((rd_T29 l0 x4_1).f0),.string ((rd_T29 l0 x4_1).f1),.int .i64 ((rd_T29 l0 x4_1).f2),.slice A162_3 ((rd_T29 l0 x4_1).f3).length c162_3]] rfl (by (try simp only [List.map_toArray,List.map_cons,List.map_nil]);first|done|rfl|(simp only [List.length_drop,List.length_take];rfl)) ?_;(with_reducible refine (fk_spec_l34Term.calls k1 ((rd_T29 l0 x4_1).f0) ((rd_T29 l0 x4_1).f1) ((rd_T29 l0 x4_1).f2) _ _ ((rd_T29 l0 x4_1).f3) t163 t164 t165 t166 _ ?side1 ?side2 A6.out).mono ?_);(case side1 => repeat (first|exact (Kd.C_below HR162_3.out HB.out)|(with_reducible refine Kd.C_alloc ?_ _)|(with_reducible refine Kd.C_drewN ?_ _)|(with_reducible refine Kd.C_drew ?_)));(case side2 => exact HC162_3.out);rintro e w8 ⟨v167,rfl,ho0,hb⟩;refine ⟨_,rfl,?_⟩;have n0_:=Aside0.mk (Kd.R_elder' (by (with_reducible repeat (first|apply Kd.R_alloc|apply Kd.R_drewN|apply Kd.R_drew));exact HO_3.out) (Kd.R_base ho0) hb);have n1_:=Aside0.mk (Kd.R_lower (Kd.R_new' ho0 (Kd.R_lt (by (with_reducible repeat (first|apply Kd.R_alloc|apply Kd.R_drewN|apply Kd.R_drew));exact HO_3.out))) (below_size (by repeat (first|(with_reducible first|exact HB.out|apply below_alloc|apply pw_below_drewN|apply below_drew1)|exact HB.out))));have n2_:=Aside0.mk (below_step (by repeat (first|(with_reducible first|exact HB.out|apply below_alloc|apply pw_below_drewN|apply below_drew1)|exact HB.out)) hb);clear HO_3;clear HB;have HO_3:=n0_;have HO168:=n1_;have HB:=n2_;clear n0_ n1_ n2_;(try clear hb);(try clear hb2);(try clear hk);(try clear hi);(try clear ho0);obtain ⟨Ao10,co10,eo10⟩:=Kd.R_slice HO168.out;subst eo10)|((with_reducible refine gate_builtin (b:=.append) (xs:=#[.tmp 12,.tmp 18]) rfl ?_);at_builtin;refine Kd.R_append k29 (w0:=w) w.heap.size rfl (.tmp 12) (.tmp 18) 27 29 (.agg #[(.int .i64 0),(.string ⟨#[]⟩),(.int .i64 0),(.slice none 0 0)]) 56 rfl Tryd.underlying27 info29 rfl (by decide) (by omega) u3 x3_1 (⟨t163,t164,t165,t166⟩ : S29) [.int .i64 t163,.string t164,.int .i64 t165,.slice Ao10 t166.length co10] (fun _ => True) (fun k_ => ((fun _ => True)) k_ ∧ some k_ ≠ (u3 : Value).ownBlock) rfl rfl ?aP (fun _ hk => hk) ?aF ?aO ?aB ?aS ?aL ?_;(case aP => exact k29_mkM _ _ _ (⟨t163,t164,t165,t166⟩ : S29) (Kd.R_mono (HO168.out) (fun k_ hk => ⟨trivial,hk.2⟩)));(case aB => exact (by repeat (first|(with_reducible first|exact HB.out|apply below_alloc|apply pw_below_drewN|apply below_drew1)|exact HB.out)));(case aF => exact (fun _ _ => trivial));(case aO => exact (by (with_reducible repeat (first|apply Kd.R_alloc|apply Kd.R_drewN|apply Kd.R_drew));exact Kd.R_mono HO_3.out (fun _ hk => trivial)));(case aS => exact (below_size (by repeat (first|(with_reducible first|exact HB.out|apply below_alloc|apply pw_below_drewN|apply below_drew1)|exact HB.out))));(case aL => have:=LMc7.out;omega);intro v170 w9 ho hb hg hat;rw [← Ny169.out] at ho;have n0_:=Aside0.mk (hb);have n1_:=Aside0.mk (ho);clear HB;clear HO_3;clear HO168;have HB:=n0_;have HO171:=n1_;clear n0_ n1_;clear ho hb hg hat))
    go_roundg k1
    case measure => have:=HK1.out;omega
    case rel => exact ⟨(y169),(wrap64 (x4_1 + 1)),(by first|rfl|(simp;done)|(simp [*];done)),H',⟨by have:=HK1.out;omega⟩,⟨by (with_reducible repeat (first|apply Kd.R_alloc|apply Kd.R_drewN|apply Kd.R_drew));exact HO171.out⟩,⟨by repeat (first|(with_reducible first|exact HB.out|apply below_alloc|apply pw_below_drewN|apply below_drew1)|exact HB.out)⟩⟩
   ·rw [if_neg c4] at H
    have c4b0 : decide (x4_1 < (l0.length : Int)) = false:=decide_eq_false c4
    clear c4
    obtain rfl:=Option.some.inj H
    go_wp2
    go_ret
    exact ⟨_,by first|rfl|(simp [errW_none,errW_some] <;> rfl)|(simp [*,errW_none,errW_some] <;> rfl),by (with_reducible repeat (first|apply Kd.R_alloc|apply Kd.R_drewN|apply Kd.R_drew));exact HO_3.out,by repeat (first|(with_reducible first|exact HB.out|apply below_alloc|apply pw_below_drewN|apply below_drew1)|exact HB.out)⟩

/-! ### spec_l34Term: function 75 -/
def spec_l34Term.f (k : Nat) (a0_0 : Int) (a0_1 : ByteArray) (a0_2 : Int) (l0_3 : List (S29)) : Option (Int × ByteArray × Int × (List (S29))):=(spec_l34Terms.f k l0_3).bind fun t174 => (some (a0_0,a0_1,a0_2,t174))
theorem spec_l34Term.mono : ∀ a0 a1 a2 a3 k,LeO (spec_l34Term.f k a0 a1 a2 a3) (spec_l34Term.f (k + 1) a0 a1 a2 a3):=by
 intro a0 a1 a2 a3 k
 unfold spec_l34Term.f
 repeat' first
   | (with_reducible exact spec_l34Terms.mono _ _)
   | (with_reducible exact LeO.refl _)
   | (with_reducible exact LeO.none _)
   | (with_reducible refine LeO.ite ?_ ?_)
   | (with_reducible refine LeO.bind ?_ (fun _ => ?_))
   | exact spec_l34Terms.mono _ _
   | exact LeO.none _
   | refine LeO.ite ?_ ?_
   | refine LeO.bind ?_ (fun _ => ?_)
set_option maxHeartbeats 8000000 in
set_option maxRecDepth 100000 in
theorem spec_l34Term.calls (k : Nat) (a0_0 : Int) (a0_1 : ByteArray) (a0_2 : Int) (A0_3 : Option Addr) (c0_3 : Nat) (l0_3 : List (S29)) (r1 : Int) (r2 : ByteArray) (r3 : Int) (r4 : List (S29)) (w : World) (hr0_3 : Kd.C k29 w A0_3 l0_3.length l0_3) (hc0_3 : l0_3.length ≤ c0_3) (h : spec_l34Term.f k a0_0 a0_1 a0_2 l0_3 = some (r1,r2,r3,r4)) :
  Calls Tryd.prog 75 #[.agg #[.int .i64 a0_0,.string a0_1,.int .i64 a0_2,.slice A0_3 l0_3.length c0_3]] w fun e w' => ∃ v3_ : Value,e = .returned (.agg #[.int .i64 r1,.string r2,.int .i64 r3,v3_]) ∧ Kd.R k29 29 w' w.heap.size (fun _ => True) v3_ r4 ∧ Below w.heap.size w w':=by
 have hu29:=Tryd.underlying29
 have HR0_3:=Aside0.mk hr0_3
 have HC0_3:=Aside0.mk hc0_3
 clear hr0_3 hc0_3
 have HB:=Aside0.mk (Below.refl w.heap.size w)
 have H : ((spec_l34Terms.f k l0_3).bind fun t174 => (some (a0_0,a0_1,a0_2,t174))) = some (r1,r2,r3,r4):=h
 clear h
 replace H:=Option.bind_eq_some_iff.mp H
 obtain ⟨t174,A20,H⟩:=H
 replace H : (some (a0_0,a0_1,a0_2,t174)) = some (r1,r2,r3,r4):=H
 have A2:=Aside0.mk A20
 clear A20
 simp only [Option.some.injEq,Prod.mk.injEq] at H
 obtain ⟨rfl,rfl,rfl,rfl⟩:=H
 go_enter Tryd.func75,Tryd.ntmps75
 go_wp2_with (first|((with_reducible refine gate_dst (N:=1) rfl ?_);refine box_event ?hg (N:=1) ?hd (cs:=#[.int .i64 a0_0,.string a0_1,.int .i64 a0_2,.slice A0_3 l0_3.length c0_3]) (t:=29) ?hr ?_;(case hd => rfl);(case hg => rfl);(case hr => first|(go_simp;done)|(go_simp;rfl));intro gb172 hg w3 hbox hb;have n0_:=Aside0.mk (below_step (by repeat (first|(with_reducible first|exact HB.out|apply below_alloc|apply pw_below_drewN|apply below_drew1)|exact HB.out)) hb);have n1_:=Aside0.mk (hbox);have n2_:=Aside0.mk ((by rw [hg];exact (below_size (by repeat (first|(with_reducible first|exact HB.out|apply below_alloc|apply pw_below_drewN|apply below_drew1)|exact HB.out))) : w.heap.size ≤ gb172));have n3_:=Aside0.mk ((by rw [hg];exact (below_size (by repeat (first|(with_reducible first|exact HB.out|apply below_alloc|apply pw_below_drewN|apply below_drew1)|exact HB.out))) : w.heap.size ≤ gb172));clear HB;have HB:=n0_;have BK172:=n1_;have GW172:=n2_;have GE172:=n3_;clear n0_ n1_ n2_ n3_;clear hb hbox hg)|((with_reducible refine gate_dst (N:=2) rfl ?_);refine box_event ?hg (N:=2) ?hd (cs:=#[.int .i64 0,.string (⟨#[]⟩ : ByteArray),.int .i64 0,.slice none 0 0]) (t:=29) ?hr ?_;(case hd => rfl);(case hg => rfl);(case hr => first|(go_simp;done)|(go_simp;rfl));intro gb173 hg w4 hbox hb;have n0_:=Aside0.mk (blk_below (g:=gb172) (o:=.cells #[.int .i64 a0_0,.string a0_1,.int .i64 a0_2,.slice A0_3 l0_3.length c0_3] 29 (0,0)) (by (with_reducible repeat (first|refine blk_drewN ?_ _|refine blk_drew ?_|refine blk_alloc ?_ _));exact BK172.out) hb);have n1_:=Aside0.mk (below_step (by repeat (first|(with_reducible first|exact HB.out|apply below_alloc|apply pw_below_drewN|apply below_drew1|refine below_set ?_ GE172.out)|exact HB.out)) hb);have n2_:=Aside0.mk (hbox);have n3_:=Aside0.mk ((by rw [hg];exact (below_size (by repeat (first|(with_reducible first|exact HB.out|apply below_alloc|apply pw_below_drewN|apply below_drew1|refine below_set ?_ GE172.out)|exact HB.out))) : w.heap.size ≤ gb173));have n4_:=Aside0.mk ((by rw [hg];exact (below_size (by repeat (first|(with_reducible first|exact HB.out|apply below_alloc|apply pw_below_drewN|apply below_drew1|refine below_set ?_ GE172.out)|exact HB.out))) : w.heap.size ≤ gb173));have n5_:=Aside0.mk ((by rw [hg];exact Nat.ne_of_lt (blk_lt (g:=gb172) (o:=.cells #[.int .i64 a0_0,.string a0_1,.int .i64 a0_2,.slice A0_3 l0_3.length c0_3] 29 (0,0)) (by (with_reducible repeat (first|refine blk_drewN ?_ _|refine blk_drew ?_|refine blk_alloc ?_ _));exact BK172.out)) : gb172 ≠ gb173));have n6_:=Aside0.mk ((by rw [hg];exact Nat.ne_of_gt (blk_lt (g:=gb172) (o:=.cells #[.int .i64 a0_0,.string a0_1,.int .i64 a0_2,.slice A0_3 l0_3.length c0_3] 29 (0,0)) (by (with_reducible repeat (first|refine blk_drewN ?_ _|refine blk_drew ?_|refine blk_alloc ?_ _));exact BK172.out)) : gb173 ≠ gb172));clear BK172;clear HB;have BK172:=n0_;have HB:=n1_;have BK173:=n2_;have GW173:=n3_;have GE173:=n4_;have NB172_173:=n5_;have NB173_172:=n6_;clear n0_ n1_ n2_ n3_ n4_ n5_ n6_;clear hb hbox hg;have hnb5:=NB172_173.out;have hnc5:=NB173_172.out;have hcz6_0 : w4.cell? ⟨gb172,0,none⟩ = some (.int .i64 a0_0):=(blk_cell BK172.out 0).trans rfl;have hcz6_1 : w4.cell? ⟨gb172,1,none⟩ = some (.string a0_1):=(blk_cell BK172.out 1).trans rfl;have hcz6_2 : w4.cell? ⟨gb172,2,none⟩ = some (.int .i64 a0_2):=(blk_cell BK172.out 2).trans rfl;have hcz6_3 : w4.cell? ⟨gb172,3,none⟩ = some (.slice A0_3 l0_3.length c0_3):=(blk_cell BK172.out 3).trans rfl;have hfz6_0:=blk_frozen BK172.out 0;have hfz6_1:=blk_frozen BK172.out 1;have hfz6_2:=blk_frozen BK172.out 2;have hfz6_3:=blk_frozen BK172.out 3)|((with_reducible refine gate_callee (f:=100) rfl ?_);refine goesL_ (some 5) rfl rfl Tryd.func100 (by kernel_rfl) rfl #[.slice A0_3 l0_3.length c0_3] rfl (by (try simp only [List.map_toArray,List.map_cons,List.map_nil]);first|done|rfl|(simp only [List.length_drop,List.length_take];rfl)) ?_;(with_reducible refine (spec_l34Terms.calls k _ _ l0_3 t174 _ ?side1 ?side2 A2.out).mono ?_);(case side1 => repeat (first|exact (Kd.C_below HR0_3.out HB.out)|(with_reducible refine Kd.C_alloc ?_ _)|(with_reducible refine Kd.C_drewN ?_ _)|(with_reducible refine Kd.C_drew ?_)));(case side2 => exact HC0_3.out);rintro e w7 ⟨v175,rfl,ho0,hb⟩;refine ⟨_,rfl,?_⟩;have n0_:=Aside0.mk (Kd.R_lower (Kd.R_newB (Kd.R_newB ho0 (g:=gb172) (o:=.cells #[.int .i64 a0_0,.string a0_1,.int .i64 a0_2,.slice A0_3 l0_3.length c0_3] 29 (0,0)) (by (with_reducible repeat (first|refine blk_drewN ?_ _|refine blk_drew ?_|refine blk_alloc ?_ _));exact BK172.out)) (g:=gb173) (o:=.cells #[.int .i64 0,.string (⟨#[]⟩ : ByteArray),.int .i64 0,.slice none 0 0] 29 (0,0)) (by (with_reducible repeat (first|refine blk_drewN ?_ _|refine blk_drew ?_|refine blk_alloc ?_ _));exact BK173.out)) (below_size (by repeat (first|(with_reducible first|exact HB.out|apply below_alloc|apply pw_below_drewN|apply below_drew1|refine below_set ?_ GE172.out|refine below_set ?_ GE173.out)|exact HB.out))));have n1_:=Aside0.mk (blk_below (g:=gb172) (o:=.cells #[.int .i64 a0_0,.string a0_1,.int .i64 a0_2,.slice A0_3 l0_3.length c0_3] 29 (0,0)) (by (with_reducible repeat (first|refine blk_drewN ?_ _|refine blk_drew ?_|refine blk_alloc ?_ _));exact BK172.out) hb);have n2_:=Aside0.mk (blk_below (g:=gb173) (o:=.cells #[.int .i64 0,.string (⟨#[]⟩ : ByteArray),.int .i64 0,.slice none 0 0] 29 (0,0)) (by (with_reducible repeat (first|refine blk_drewN ?_ _|refine blk_drew ?_|refine blk_alloc ?_ _));exact BK173.out) hb);have n3_:=Aside0.mk (below_step (by repeat (first|(with_reducible first|exact HB.out|apply below_alloc|apply pw_below_drewN|apply below_drew1|refine below_set ?_ GE172.out|refine below_set ?_ GE173.out)|exact HB.out)) hb);clear BK172;clear BK173;clear HB;have HO176:=n0_;have BK172:=n1_;have BK173:=n2_;have HB:=n3_;clear n0_ n1_ n2_ n3_;(try clear hb);(try clear hb2);(try clear hk);(try clear hi);(try clear ho0);obtain ⟨Ao8,co8,eo8⟩:=Kd.R_slice HO176.out;subst eo8;have hcz9_0 : w7.cell? ⟨gb172,0,none⟩ = some (.int .i64 a0_0):=(blk_cell BK172.out 0).trans rfl;have hcz9_1 : w7.cell? ⟨gb172,1,none⟩ = some (.string a0_1):=(blk_cell BK172.out 1).trans rfl;have hcz9_2 : w7.cell? ⟨gb172,2,none⟩ = some (.int .i64 a0_2):=(blk_cell BK172.out 2).trans rfl;have hcz9_3 : w7.cell? ⟨gb172,3,none⟩ = some (.slice A0_3 l0_3.length c0_3):=(blk_cell BK172.out 3).trans rfl;have hfz9_0:=blk_frozen BK172.out 0;have hfz9_1:=blk_frozen BK172.out 1;have hfz9_2:=blk_frozen BK172.out 2;have hfz9_3:=blk_frozen BK172.out 3;have hcz10_0 : w7.cell? ⟨gb173,0,none⟩ = some (.int .i64 0):=(blk_cell BK173.out 0).trans rfl;have hcz10_1 : w7.cell? ⟨gb173,1,none⟩ = some (.string (⟨#[]⟩ : ByteArray)):=(blk_cell BK173.out 1).trans rfl;have hcz10_2 : w7.cell? ⟨gb173,2,none⟩ = some (.int .i64 0):=(blk_cell BK173.out 2).trans rfl;have hcz10_3 : w7.cell? ⟨gb173,3,none⟩ = some (.slice none 0 0):=(blk_cell BK173.out 3).trans rfl;have hfz10_0:=blk_frozen BK173.out 0;have hfz10_1:=blk_frozen BK173.out 1;have hfz10_2:=blk_frozen BK173.out 2;have hfz10_3:=blk_frozen BK173.out 3))
 refine bodyPost_ret (results_cell_row rfl _ _ gb173 29 #[.int .i64 a0_0,.string a0_1,.int .i64 a0_2,.slice Ao8 t174.length co8] (0,0) _ rfl (by (with_reducible repeat (first|refine blk_drewN ?_ _|refine blk_drew ?_|refine blk_alloc ?_ _));refine blk_put (cs:=#[.int .i64 a0_0,.string a0_1,.int .i64 a0_2,.slice none 0 0]) ?_ 3 _ rfl;(with_reducible repeat (first|refine blk_drewN ?_ _|refine blk_drew ?_|refine blk_alloc ?_ _));refine blk_put (cs:=#[.int .i64 a0_0,.string a0_1,.int .i64 0,.slice none 0 0]) ?_ 2 _ rfl;(with_reducible repeat (first|refine blk_drewN ?_ _|refine blk_drew ?_|refine blk_alloc ?_ _));refine blk_put (cs:=#[.int .i64 a0_0,.string (⟨#[]⟩ : ByteArray),.int .i64 0,.slice none 0 0]) ?_ 1 _ rfl;(with_reducible repeat (first|refine blk_drewN ?_ _|refine blk_drew ?_|refine blk_alloc ?_ _));refine blk_put (cs:=#[.int .i64 0,.string (⟨#[]⟩ : ByteArray),.int .i64 0,.slice none 0 0]) ?_ 0 _ rfl;(with_reducible repeat (first|refine blk_drewN ?_ _|refine blk_drew ?_|refine blk_alloc ?_ _));refine blk_far ?_ NB173_172.out _;(with_reducible repeat (first|refine blk_drewN ?_ _|refine blk_drew ?_|refine blk_alloc ?_ _));exact BK173.out) Tryd.underlying29 rfl (by kernel_rfl)) rfl ?_
 exact ⟨_,by first|rfl|(simp [errW_none,errW_some] <;> rfl)|(simp [*,errW_none,errW_some] <;> rfl),by (with_reducible repeat (first|apply Kd.R_alloc|apply Kd.R_drewN|apply Kd.R_drew));exact Kd.R_mono (Kd.R_far (p:=⟨gb173,3,none⟩) (Kd.R_far (p:=⟨gb173,2,none⟩) (Kd.R_far (p:=⟨gb173,1,none⟩) (Kd.R_far (p:=⟨gb173,0,none⟩) (Kd.R_far (p:=⟨gb172,3,none⟩) (Kd.R_mono (Kd.R_mono HO176.out (fun k_ hk => (⟨hk,hk.1.2⟩ : _ ∧ k_ ≠ gb172))) (fun k_ hk => (⟨hk,hk.1.2⟩ : _ ∧ k_ ≠ gb173))) (fun _ hk => hk.1.2) (.slice Ao8 t174.length co8)) (fun _ hk => hk.2) (.int .i64 a0_0)) (fun _ hk => hk.2) (.string a0_1)) (fun _ hk => hk.2) (.int .i64 a0_2)) (fun _ hk => hk.2) (.slice Ao8 t174.length co8)) (fun _ hk => trivial),by repeat (first|(with_reducible first|exact HB.out|apply below_alloc|apply pw_below_drewN|apply below_drew1|refine below_set ?_ GE172.out|refine below_set ?_ GE173.out)|exact HB.out)⟩

/-! ### spec_l34Clause: function 59 -/
def spec_l34Clause.f (k : Nat) (a0_0 : Int) (a0_1 : ByteArray) (a0_2 : Int) (l0_3 : List (S29)) (a0_4 : Int) (a0_5 : ByteArray) (a0_6 : Int) (l0_7 : List (S29)) (a0_8 : ByteArray) : Option (Int × ByteArray × Int × (List (S29)) × Int × ByteArray × Int × (List (S29)) × ByteArray):=(spec_l34Term.f k a0_0 a0_1 a0_2 l0_3).bind fun bt179 => ((spec_l34Term.f k a0_4 a0_5 a0_6 l0_7).bind fun bt185 => (some (bt179.1,bt179.2.1,bt179.2.2.1,bt179.2.2.2,bt185.1,bt185.2.1,bt185.2.2.1,bt185.2.2.2,a0_8)))
theorem spec_l34Clause.mono : ∀ a0 a1 a2 a3 a4 a5 a6 a7 a8 k,LeO (spec_l34Clause.f k a0 a1 a2 a3 a4 a5 a6 a7 a8) (spec_l34Clause.f (k + 1) a0 a1 a2 a3 a4 a5 a6 a7 a8):=by
 intro a0 a1 a2 a3 a4 a5 a6 a7 a8 k
 unfold spec_l34Clause.f
 repeat' first
   | (with_reducible exact spec_l34Term.mono _ _ _ _ _)
   | (with_reducible exact LeO.refl _)
   | (with_reducible exact LeO.none _)
   | (with_reducible refine LeO.ite ?_ ?_)
   | (with_reducible refine LeO.bind ?_ (fun _ => ?_))
   | exact spec_l34Term.mono _ _ _ _ _
   | exact LeO.none _
   | refine LeO.ite ?_ ?_
   | refine LeO.bind ?_ (fun _ => ?_)
set_option maxHeartbeats 8000000 in
set_option maxRecDepth 100000 in
theorem spec_l34Clause.calls (k : Nat) (a0_0 : Int) (a0_1 : ByteArray) (a0_2 : Int) (A0_3 : Option Addr) (c0_3 : Nat) (l0_3 : List (S29)) (a0_4 : Int) (a0_5 : ByteArray) (a0_6 : Int) (A0_7 : Option Addr) (c0_7 : Nat) (l0_7 : List (S29)) (a0_8 : ByteArray) (r1 : Int) (r2 : ByteArray) (r3 : Int) (r4 : List (S29)) (r5 : Int) (r6 : ByteArray) (r7 : Int) (r8 : List (S29)) (r9 : ByteArray) (w : World) (hr0_3 : Kd.C k29 w A0_3 l0_3.length l0_3) (hc0_3 : l0_3.length ≤ c0_3) (hr0_7 : Kd.C k29 w A0_7 l0_7.length l0_7) (hc0_7 : l0_7.length ≤ c0_7) (h : spec_l34Clause.f k a0_0 a0_1 a0_2 l0_3 a0_4 a0_5 a0_6 l0_7 a0_8 = some (r1,r2,r3,r4,r5,r6,r7,r8,r9)) :
  Calls Tryd.prog 59 #[.agg #[.int .i64 a0_0,.string a0_1,.int .i64 a0_2,.slice A0_3 l0_3.length c0_3,.int .i64 a0_4,.string a0_5,.int .i64 a0_6,.slice A0_7 l0_7.length c0_7,.string a0_8]] w fun e w' => ∃ v3_ v7_ : Value,e = .returned (.agg #[.int .i64 r1,.string r2,.int .i64 r3,v3_,.int .i64 r5,.string r6,.int .i64 r7,v7_,.string r9]) ∧ Kd.R k29 29 w' w.heap.size (fun k_ => some k_ ≠ (v7_ : Value).ownBlock) v3_ r4 ∧ Kd.R k29 29 w' w.heap.size (fun k_ => some k_ ≠ (v3_ : Value).ownBlock) v7_ r8 ∧ Below w.heap.size w w':=by
 have hu48:=Tryd.underlying48
 have hu29:=Tryd.underlying29
 have HR0_3:=Aside0.mk hr0_3
 have HC0_3:=Aside0.mk hc0_3
 clear hr0_3 hc0_3
 have HR0_7:=Aside0.mk hr0_7
 have HC0_7:=Aside0.mk hc0_7
 clear hr0_7 hc0_7
 have HB:=Aside0.mk (Below.refl w.heap.size w)
 have H : ((spec_l34Term.f k a0_0 a0_1 a0_2 l0_3).bind fun bt179 => ((spec_l34Term.f k a0_4 a0_5 a0_6 l0_7).bind fun bt185 => (some (bt179.1,bt179.2.1,bt179.2.2.1,bt179.2.2.2,bt185.1,bt185.2.1,bt185.2.2.1,bt185.2.2.2,a0_8)))) = some (r1,r2,r3,r4,r5,r6,r7,r8,r9):=h
 clear h
 replace H:=Option.bind_eq_some_iff.mp H
 obtain ⟨⟨t179,t180,t181,t182⟩,A20,H⟩:=H
 replace H : ((spec_l34Term.f k a0_4 a0_5 a0_6 l0_7).bind fun bt185 => (some (t179,t180,t181,t182,bt185.1,bt185.2.1,bt185.2.2.1,bt185.2.2.2,a0_8))) = some (r1,r2,r3,r4,r5,r6,r7,r8,r9):=H
 have A2:=Aside0.mk A20
 clear A20
 replace H:=Option.bind_eq_some_iff.mp H
 obtain ⟨⟨t185,t186,t187,t188⟩,A30,H⟩:=H
 replace H : (some (t179,t180,t181,t182,t185,t186,t187,t188,a0_8)) = some (r1,r2,r3,r4,r5,r6,r7,r8,r9):=H
 have A3:=Aside0.mk A30
 clear A30
 simp only [Option.some.injEq,Prod.mk.injEq] at H
 obtain ⟨rfl,rfl,rfl,rfl,rfl,rfl,rfl,rfl,rfl⟩:=H
 go_enter Tryd.func59,Tryd.ntmps59
 go_wp2_with (first|((with_reducible refine gate_dst (N:=1) rfl ?_);refine box_event ?hg (N:=1) ?hd (cs:=#[.int .i64 a0_0,.string a0_1,.int .i64 a0_2,.slice A0_3 l0_3.length c0_3,.int .i64 a0_4,.string a0_5,.int .i64 a0_6,.slice A0_7 l0_7.length c0_7,.string a0_8]) (t:=48) ?hr ?_;(case hd => rfl);(case hg => rfl);(case hr => first|(go_simp;done)|(go_simp;rfl));intro gb177 hg w4 hbox hb;have n0_:=Aside0.mk (below_step (by repeat (first|(with_reducible first|exact HB.out|apply below_alloc|apply pw_below_drewN|apply below_drew1)|exact HB.out)) hb);have n1_:=Aside0.mk (hbox);have n2_:=Aside0.mk ((by rw [hg];exact (below_size (by repeat (first|(with_reducible first|exact HB.out|apply below_alloc|apply pw_below_drewN|apply below_drew1)|exact HB.out))) : w.heap.size ≤ gb177));have n3_:=Aside0.mk ((by rw [hg];exact (below_size (by repeat (first|(with_reducible first|exact HB.out|apply below_alloc|apply pw_below_drewN|apply below_drew1)|exact HB.out))) : w.heap.size ≤ gb177));clear HB;have HB:=n0_;have BK177:=n1_;have GW177:=n2_;have GE177:=n3_;clear n0_ n1_ n2_ n3_;clear hb hbox hg)|((with_reducible refine gate_dst (N:=2) rfl ?_);refine box_event ?hg (N:=2) ?hd (cs:=#[.int .i64 0,.string (⟨#[]⟩ : ByteArray),.int .i64 0,.slice none 0 0,.int .i64 0,.string (⟨#[]⟩ : ByteArray),.int .i64 0,.slice none 0 0,.string (⟨#[]⟩ : ByteArray)]) (t:=48) ?hr ?_;(case hd => rfl);(case hg => rfl);(case hr => first|(go_simp;done)|(go_simp;rfl));intro gb178 hg w5 hbox hb;have n0_:=Aside0.mk (blk_below (g:=gb177) (o:=.cells #[.int .i64 a0_0,.string a0_1,.int .i64 a0_2,.slice A0_3 l0_3.length c0_3,.int .i64 a0_4,.string a0_5,.int .i64 a0_6,.slice A0_7 l0_7.length c0_7,.string a0_8] 48 (0,0)) (by (with_reducible repeat (first|refine blk_drewN ?_ _|refine blk_drew ?_|refine blk_alloc ?_ _));exact BK177.out) hb);have n1_:=Aside0.mk (below_step (by repeat (first|(with_reducible first|exact HB.out|apply below_alloc|apply pw_below_drewN|apply below_drew1|refine below_set ?_ GE177.out)|exact HB.out)) hb);have n2_:=Aside0.mk (hbox);have n3_:=Aside0.mk ((by rw [hg];exact (below_size (by repeat (first|(with_reducible first|exact HB.out|apply below_alloc|apply pw_below_drewN|apply below_drew1|refine below_set ?_ GE177.out)|exact HB.out))) : w.heap.size ≤ gb178));have n4_:=Aside0.mk ((by rw [hg];exact (below_size (by repeat (first|(with_reducible first|exact HB.out|apply below_alloc|apply pw_below_drewN|apply below_drew1|refine below_set ?_ GE177.out)|exact HB.out))) : w.heap.size ≤ gb178));have n5_:=Aside0.mk ((by rw [hg];exact Nat.ne_of_lt (blk_lt (g:=gb177) (o:=.cells #[.int .i64 a0_0,.string a0_1,.int .i64 a0_2,.slice A0_3 l0_3.length c0_3,.int .i64 a0_4,.string a0_5,.int .i64 a0_6,.slice A0_7 l0_7.length c0_7,.string a0_8] 48 (0,0)) (by (with_reducible repeat (first|refine blk_drewN ?_ _|refine blk_drew ?_|refine blk_alloc ?_ _));exact BK177.out)) : gb177 ≠ gb178));have n6_:=Aside0.mk ((by rw [hg];exact Nat.ne_of_gt (blk_lt (g:=gb177) (o:=.cells #[.int .i64 a0_0,.string a0_1,.int .i64 a0_2,.slice A0_3 l0_3.length c0_3,.int .i64 a0_4,.string a0_5,.int .i64 a0_6,.slice A0_7 l0_7.length c0_7,.string a0_8] 48 (0,0)) (by (with_reducible repeat (first|refine blk_drewN ?_ _|refine blk_drew ?_|refine blk_alloc ?_ _));exact BK177.out)) : gb178 ≠ gb177));clear BK177;clear HB;have BK177:=n0_;have HB:=n1_;have BK178:=n2_;have GW178:=n3_;have GE178:=n4_;have NB177_178:=n5_;have NB178_177:=n6_;clear n0_ n1_ n2_ n3_ n4_ n5_ n6_;clear hb hbox hg;have hnb6:=NB177_178.out;have hnc6:=NB178_177.out;have hcz7_0 : w5.cell? ⟨gb177,0,none⟩ = some (.int .i64 a0_0):=(blk_cell BK177.out 0).trans rfl;have hcz7_1 : w5.cell? ⟨gb177,1,none⟩ = some (.string a0_1):=(blk_cell BK177.out 1).trans rfl;have hcz7_2 : w5.cell? ⟨gb177,2,none⟩ = some (.int .i64 a0_2):=(blk_cell BK177.out 2).trans rfl;have hcz7_3 : w5.cell? ⟨gb177,3,none⟩ = some (.slice A0_3 l0_3.length c0_3):=(blk_cell BK177.out 3).trans rfl;have hcz7_4 : w5.cell? ⟨gb177,4,none⟩ = some (.int .i64 a0_4):=(blk_cell BK177.out 4).trans rfl;have hcz7_5 : w5.cell? ⟨gb177,5,none⟩ = some (.string a0_5):=(blk_cell BK177.out 5).trans rfl;have hcz7_6 : w5.cell? ⟨gb177,6,none⟩ = some (.int .i64 a0_6):=(blk_cell BK177.out 6).trans rfl;have hcz7_7 : w5.cell? ⟨gb177,7,none⟩ = some (.slice A0_7 l0_7.length c0_7):=(blk_cell BK177.out 7).trans rfl;have hcz7_8 : w5.cell? ⟨gb177,8,none⟩ = some (.string a0_8):=(blk_cell BK177.out 8).trans rfl;have hfz7_0:=blk_frozen BK177.out 0;have hfz7_1:=blk_frozen BK177.out 1;have hfz7_2:=blk_frozen BK177.out 2;have hfz7_3:=blk_frozen BK177.out 3;have hfz7_4:=blk_frozen BK177.out 4;have hfz7_5:=blk_frozen BK177.out 5;have hfz7_6:=blk_frozen BK177.out 6;have hfz7_7:=blk_frozen BK177.out 7;have hfz7_8:=blk_frozen BK177.out 8)|((with_reducible refine gate_callee (f:=75) rfl ?_);refine goesL_ (some 5) rfl rfl Tryd.func75 (by kernel_rfl) rfl #[.agg #[.int .i64 a0_0,.string a0_1,.int .i64 a0_2,.slice A0_3 l0_3.length c0_3]] rfl (by (try simp only [List.map_toArray,List.map_cons,List.map_nil]);first|done|rfl|(simp only [List.length_drop,List.length_take];rfl)) ?_;(with_reducible refine (spec_l34Term.calls k a0_0 a0_1 a0_2 _ _ l0_3 t179 t180 t181 t182 _ ?side1 ?side2 A2.out).mono ?_);(case side1 => repeat (first|exact (Kd.C_below HR0_3.out HB.out)|(with_reducible refine Kd.C_alloc ?_ _)|(with_reducible refine Kd.C_drewN ?_ _)|(with_reducible refine Kd.C_drew ?_)));(case side2 => exact HC0_3.out);rintro e w8 ⟨v183,rfl,ho0,hb⟩;refine ⟨_,rfl,?_⟩;have n0_:=Aside0.mk (Kd.R_lower ho0 (below_size (by repeat (first|(with_reducible first|exact HB.out|apply below_alloc|apply pw_below_drewN|apply below_drew1|refine below_set ?_ GE177.out|refine below_set ?_ GE178.out)|exact HB.out))));have n1_:=Aside0.mk (blk_below (g:=gb177) (o:=.cells #[.int .i64 a0_0,.string a0_1,.int .i64 a0_2,.slice A0_3 l0_3.length c0_3,.int .i64 a0_4,.string a0_5,.int .i64 a0_6,.slice A0_7 l0_7.length c0_7,.string a0_8] 48 (0,0)) (by (with_reducible repeat (first|refine blk_drewN ?_ _|refine blk_drew ?_|refine blk_alloc ?_ _));exact BK177.out) hb);have n2_:=Aside0.mk (blk_below (g:=gb178) (o:=.cells #[.int .i64 0,.string (⟨#[]⟩ : ByteArray),.int .i64 0,.slice none 0 0,.int .i64 0,.string (⟨#[]⟩ : ByteArray),.int .i64 0,.slice none 0 0,.string (⟨#[]⟩ : ByteArray)] 48 (0,0)) (by (with_reducible repeat (first|refine blk_drewN ?_ _|refine blk_drew ?_|refine blk_alloc ?_ _));exact BK178.out) hb);have n3_:=Aside0.mk (below_step (by repeat (first|(with_reducible first|exact HB.out|apply below_alloc|apply pw_below_drewN|apply below_drew1|refine below_set ?_ GE177.out|refine below_set ?_ GE178.out)|exact HB.out)) hb);clear BK177;clear BK178;clear HB;have HO184:=n0_;have BK177:=n1_;have BK178:=n2_;have HB:=n3_;clear n0_ n1_ n2_ n3_;(try clear hb);(try clear hb2);(try clear hk);(try clear hi);(try clear ho0);have hcz9_0 : w8.cell? ⟨gb177,0,none⟩ = some (.int .i64 a0_0):=(blk_cell BK177.out 0).trans rfl;have hcz9_1 : w8.cell? ⟨gb177,1,none⟩ = some (.string a0_1):=(blk_cell BK177.out 1).trans rfl;have hcz9_2 : w8.cell? ⟨gb177,2,none⟩ = some (.int .i64 a0_2):=(blk_cell BK177.out 2).trans rfl;have hcz9_3 : w8.cell? ⟨gb177,3,none⟩ = some (.slice A0_3 l0_3.length c0_3):=(blk_cell BK177.out 3).trans rfl;have hcz9_4 : w8.cell? ⟨gb177,4,none⟩ = some (.int .i64 a0_4):=(blk_cell BK177.out 4).trans rfl;have hcz9_5 : w8.cell? ⟨gb177,5,none⟩ = some (.string a0_5):=(blk_cell BK177.out 5).trans rfl;have hcz9_6 : w8.cell? ⟨gb177,6,none⟩ = some (.int .i64 a0_6):=(blk_cell BK177.out 6).trans rfl;have hcz9_7 : w8.cell? ⟨gb177,7,none⟩ = some (.slice A0_7 l0_7.length c0_7):=(blk_cell BK177.out 7).trans rfl;have hcz9_8 : w8.cell? ⟨gb177,8,none⟩ = some (.string a0_8):=(blk_cell BK177.out 8).trans rfl;have hfz9_0:=blk_frozen BK177.out 0;have hfz9_1:=blk_frozen BK177.out 1;have hfz9_2:=blk_frozen BK177.out 2;have hfz9_3:=blk_frozen BK177.out 3;have hfz9_4:=blk_frozen BK177.out 4;have hfz9_5:=blk_frozen BK177.out 5;have hfz9_6:=blk_frozen BK177.out 6;have hfz9_7:=blk_frozen BK177.out 7;have hfz9_8:=blk_frozen BK177.out 8;obtain ⟨Ao10,co10,eo10⟩:=Kd.R_slice HO184.out;subst eo10)|((with_reducible refine gate_callee (f:=75) rfl ?_);refine goesL_ (some 9) rfl rfl Tryd.func75 (by kernel_rfl) rfl #[.agg #[.int .i64 a0_4,.string a0_5,.int .i64 a0_6,.slice A0_7 l0_7.length c0_7]] rfl (by (try simp only [List.map_toArray,List.map_cons,List.map_nil]);first|done|rfl|(simp only [List.length_drop,List.length_take];rfl)) ?_;(with_reducible refine (spec_l34Term.calls k a0_4 a0_5 a0_6 _ _ l0_7 t185 t186 t187 t188 _ ?side1 ?side2 A3.out).mono ?_);(case side1 => exact Kd.C_below HR0_7.out (by repeat (first|(with_reducible first|exact HB.out|apply below_alloc|apply pw_below_drewN|apply below_drew1|refine below_set ?_ GE177.out|refine below_set ?_ GE178.out)|exact HB.out)));(case side2 => exact HC0_7.out);rintro e w11 ⟨v189,rfl,ho0,hb⟩;refine ⟨_,rfl,?_⟩;have n0_:=Aside0.mk (Kd.R_elder' (by (with_reducible repeat (first|apply Kd.R_alloc|apply Kd.R_drewN|apply Kd.R_drew));exact (Kd.R_mono (Kd.R_far (p:=⟨gb177,3,none⟩) (Kd.R_far (p:=⟨gb177,2,none⟩) (Kd.R_far (p:=⟨gb177,1,none⟩) (Kd.R_far (p:=⟨gb177,0,none⟩) (Kd.R_types HO184.out BK177.out (by decide)) (fun _ hk => hk.2) (.int .i64 t179)) (fun _ hk => hk.2) (.string t180)) (fun _ hk => hk.2) (.int .i64 t181)) (fun _ hk => hk.2) (.slice Ao10 t182.length co10)) (fun _ h_ => h_.1))) (Kd.R_base ho0) hb);have n1_:=Aside0.mk (Kd.R_lower (Kd.R_new' ho0 (Kd.R_lt (by (with_reducible repeat (first|apply Kd.R_alloc|apply Kd.R_drewN|apply Kd.R_drew));exact (Kd.R_mono (Kd.R_far (p:=⟨gb177,3,none⟩) (Kd.R_far (p:=⟨gb177,2,none⟩) (Kd.R_far (p:=⟨gb177,1,none⟩) (Kd.R_far (p:=⟨gb177,0,none⟩) (Kd.R_types HO184.out BK177.out (by decide)) (fun _ hk => hk.2) (.int .i64 t179)) (fun _ hk => hk.2) (.string t180)) (fun _ hk => hk.2) (.int .i64 t181)) (fun _ hk => hk.2) (.slice Ao10 t182.length co10)) (fun _ h_ => h_.1))))) (below_size (by repeat (first|(with_reducible first|exact HB.out|apply below_alloc|apply pw_below_drewN|apply below_drew1|refine below_set ?_ GE177.out|refine below_set ?_ GE178.out)|exact HB.out))));have n2_:=Aside0.mk (blk_below (g:=gb177) (o:=.cells #[.int .i64 t179,.string t180,.int .i64 t181,.slice Ao10 t182.length co10,.int .i64 a0_4,.string a0_5,.int .i64 a0_6,.slice A0_7 l0_7.length c0_7,.string a0_8] 48 (0,0)) (by (with_reducible repeat (first|refine blk_drewN ?_ _|refine blk_drew ?_|refine blk_alloc ?_ _));refine blk_put (cs:=#[.int .i64 t179,.string t180,.int .i64 t181,.slice A0_3 l0_3.length c0_3,.int .i64 a0_4,.string a0_5,.int .i64 a0_6,.slice A0_7 l0_7.length c0_7,.string a0_8]) ?_ 3 _ rfl;(with_reducible repeat (first|refine blk_drewN ?_ _|refine blk_drew ?_|refine blk_alloc ?_ _));refine blk_put (cs:=#[.int .i64 t179,.string t180,.int .i64 a0_2,.slice A0_3 l0_3.length c0_3,.int .i64 a0_4,.string a0_5,.int .i64 a0_6,.slice A0_7 l0_7.length c0_7,.string a0_8]) ?_ 2 _ rfl;(with_reducible repeat (first|refine blk_drewN ?_ _|refine blk_drew ?_|refine blk_alloc ?_ _));refine blk_put (cs:=#[.int .i64 t179,.string a0_1,.int .i64 a0_2,.slice A0_3 l0_3.length c0_3,.int .i64 a0_4,.string a0_5,.int .i64 a0_6,.slice A0_7 l0_7.length c0_7,.string a0_8]) ?_ 1 _ rfl;(with_reducible repeat (first|refine blk_drewN ?_ _|refine blk_drew ?_|refine blk_alloc ?_ _));refine blk_put (cs:=#[.int .i64 a0_0,.string a0_1,.int .i64 a0_2,.slice A0_3 l0_3.length c0_3,.int .i64 a0_4,.string a0_5,.int .i64 a0_6,.slice A0_7 l0_7.length c0_7,.string a0_8]) ?_ 0 _ rfl;(with_reducible repeat (first|refine blk_drewN ?_ _|refine blk_drew ?_|refine blk_alloc ?_ _));exact BK177.out) hb);have n3_:=Aside0.mk (blk_below (g:=gb178) (o:=.cells #[.int .i64 0,.string (⟨#[]⟩ : ByteArray),.int .i64 0,.slice none 0 0,.int .i64 0,.string (⟨#[]⟩ : ByteArray),.int .i64 0,.slice none 0 0,.string (⟨#[]⟩ : ByteArray)] 48 (0,0)) (by (with_reducible repeat (first|refine blk_drewN ?_ _|refine blk_drew ?_|refine blk_alloc ?_ _));refine blk_far ?_ NB178_177.out _;(with_reducible repeat (first|refine blk_drewN ?_ _|refine blk_drew ?_|refine blk_alloc ?_ _));refine blk_far ?_ NB178_177.out _;(with_reducible repeat (first|refine blk_drewN ?_ _|refine blk_drew ?_|refine blk_alloc ?_ _));refine blk_far ?_ NB178_177.out _;(with_reducible repeat (first|refine blk_drewN ?_ _|refine blk_drew ?_|refine blk_alloc ?_ _));refine blk_far ?_ NB178_177.out _;(with_reducible repeat (first|refine blk_drewN ?_ _|refine blk_drew ?_|refine blk_alloc ?_ _));exact BK178.out) hb);have n4_:=Aside0.mk (below_step (by repeat (first|(with_reducible first|exact HB.out|apply below_alloc|apply pw_below_drewN|apply below_drew1|refine below_set ?_ GE177.out|refine below_set ?_ GE178.out)|exact HB.out)) hb);clear HO184;clear BK177;clear BK178;clear HB;have HO184:=n0_;have HO190:=n1_;have BK177:=n2_;have BK178:=n3_;have HB:=n4_;clear n0_ n1_ n2_ n3_ n4_;(try clear hb);(try clear hb2);(try clear hk);(try clear hi);(try clear ho0);have hcz12_0 : w11.cell? ⟨gb177,0,none⟩ = some (.int .i64 t179):=(blk_cell BK177.out 0).trans rfl;have hcz12_1 : w11.cell? ⟨gb177,1,none⟩ = some (.string t180):=(blk_cell BK177.out 1).trans rfl;have hcz12_2 : w11.cell? ⟨gb177,2,none⟩ = some (.int .i64 t181):=(blk_cell BK177.out 2).trans rfl;have hcz12_3 : w11.cell? ⟨gb177,3,none⟩ = some (.slice Ao10 t182.length co10):=(blk_cell BK177.out 3).trans rfl;have hcz12_4 : w11.cell? ⟨gb177,4,none⟩ = some (.int .i64 a0_4):=(blk_cell BK177.out 4).trans rfl;have hcz12_5 : w11.cell? ⟨gb177,5,none⟩ = some (.string a0_5):=(blk_cell BK177.out 5).trans rfl;have hcz12_6 : w11.cell? ⟨gb177,6,none⟩ = some (.int .i64 a0_6):=(blk_cell BK177.out 6).trans rfl;have hcz12_7 : w11.cell? ⟨gb177,7,none⟩ = some (.slice A0_7 l0_7.length c0_7):=(blk_cell BK177.out 7).trans rfl;have hcz12_8 : w11.cell? ⟨gb177,8,none⟩ = some (.string a0_8):=(blk_cell BK177.out 8).trans rfl;have hfz12_0:=blk_frozen BK177.out 0;have hfz12_1:=blk_frozen BK177.out 1;have hfz12_2:=blk_frozen BK177.out 2;have hfz12_3:=blk_frozen BK177.out 3;have hfz12_4:=blk_frozen BK177.out 4;have hfz12_5:=blk_frozen BK177.out 5;have hfz12_6:=blk_frozen BK177.out 6;have hfz12_7:=blk_frozen BK177.out 7;have hfz12_8:=blk_frozen BK177.out 8;obtain ⟨Ao13,co13,eo13⟩:=Kd.R_slice HO190.out;subst eo13;have hcz14_0 : w11.cell? ⟨gb178,0,none⟩ = some (.int .i64 0):=(blk_cell BK178.out 0).trans rfl;have hcz14_1 : w11.cell? ⟨gb178,1,none⟩ = some (.string (⟨#[]⟩ : ByteArray)):=(blk_cell BK178.out 1).trans rfl;have hcz14_2 : w11.cell? ⟨gb178,2,none⟩ = some (.int .i64 0):=(blk_cell BK178.out 2).trans rfl;have hcz14_3 : w11.cell? ⟨gb178,3,none⟩ = some (.slice none 0 0):=(blk_cell BK178.out 3).trans rfl;have hcz14_4 : w11.cell? ⟨gb178,4,none⟩ = some (.int .i64 0):=(blk_cell BK178.out 4).trans rfl;have hcz14_5 : w11.cell? ⟨gb178,5,none⟩ = some (.string (⟨#[]⟩ : ByteArray)):=(blk_cell BK178.out 5).trans rfl;have hcz14_6 : w11.cell? ⟨gb178,6,none⟩ = some (.int .i64 0):=(blk_cell BK178.out 6).trans rfl;have hcz14_7 : w11.cell? ⟨gb178,7,none⟩ = some (.slice none 0 0):=(blk_cell BK178.out 7).trans rfl;have hcz14_8 : w11.cell? ⟨gb178,8,none⟩ = some (.string (⟨#[]⟩ : ByteArray)):=(blk_cell BK178.out 8).trans rfl;have hfz14_0:=blk_frozen BK178.out 0;have hfz14_1:=blk_frozen BK178.out 1;have hfz14_2:=blk_frozen BK178.out 2;have hfz14_3:=blk_frozen BK178.out 3;have hfz14_4:=blk_frozen BK178.out 4;have hfz14_5:=blk_frozen BK178.out 5;have hfz14_6:=blk_frozen BK178.out 6;have hfz14_7:=blk_frozen BK178.out 7;have hfz14_8:=blk_frozen BK178.out 8))
 refine bodyPost_ret (results_cell_row rfl _ _ gb178 48 #[.int .i64 t179,.string t180,.int .i64 t181,.slice Ao10 t182.length co10,.int .i64 t185,.string t186,.int .i64 t187,.slice Ao13 t188.length co13,.string a0_8] (0,0) _ rfl (by (with_reducible repeat (first|refine blk_drewN ?_ _|refine blk_drew ?_|refine blk_alloc ?_ _));refine blk_put (cs:=#[.int .i64 t179,.string t180,.int .i64 t181,.slice Ao10 t182.length co10,.int .i64 t185,.string t186,.int .i64 t187,.slice Ao13 t188.length co13,.string (⟨#[]⟩ : ByteArray)]) ?_ 8 _ rfl;(with_reducible repeat (first|refine blk_drewN ?_ _|refine blk_drew ?_|refine blk_alloc ?_ _));refine blk_put (cs:=#[.int .i64 t179,.string t180,.int .i64 t181,.slice Ao10 t182.length co10,.int .i64 t185,.string t186,.int .i64 t187,.slice none 0 0,.string (⟨#[]⟩ : ByteArray)]) ?_ 7 _ rfl;(with_reducible repeat (first|refine blk_drewN ?_ _|refine blk_drew ?_|refine blk_alloc ?_ _));refine blk_put (cs:=#[.int .i64 t179,.string t180,.int .i64 t181,.slice Ao10 t182.length co10,.int .i64 t185,.string t186,.int .i64 0,.slice none 0 0,.string (⟨#[]⟩ : ByteArray)]) ?_ 6 _ rfl;(with_reducible repeat (first|refine blk_drewN ?_ _|refine blk_drew ?_|refine blk_alloc ?_ _));refine blk_put (cs:=#[.int .i64 t179,.string t180,.int .i64 t181,.slice Ao10 t182.length co10,.int .i64 t185,.string (⟨#[]⟩ : ByteArray),.int .i64 0,.slice none 0 0,.string (⟨#[]⟩ : ByteArray)]) ?_ 5 _ rfl;(with_reducible repeat (first|refine blk_drewN ?_ _|refine blk_drew ?_|refine blk_alloc ?_ _));refine blk_put (cs:=#[.int .i64 t179,.string t180,.int .i64 t181,.slice Ao10 t182.length co10,.int .i64 0,.string (⟨#[]⟩ : ByteArray),.int .i64 0,.slice none 0 0,.string (⟨#[]⟩ : ByteArray)]) ?_ 4 _ rfl;(with_reducible repeat (first|refine blk_drewN ?_ _|refine blk_drew ?_|refine blk_alloc ?_ _));refine blk_put (cs:=#[.int .i64 t179,.string t180,.int .i64 t181,.slice none 0 0,.int .i64 0,.string (⟨#[]⟩ : ByteArray),.int .i64 0,.slice none 0 0,.string (⟨#[]⟩ : ByteArray)]) ?_ 3 _ rfl;(with_reducible repeat (first|refine blk_drewN ?_ _|refine blk_drew ?_|refine blk_alloc ?_ _));refine blk_put (cs:=#[.int .i64 t179,.string t180,.int .i64 0,.slice none 0 0,.int .i64 0,.string (⟨#[]⟩ : ByteArray),.int .i64 0,.slice none 0 0,.string (⟨#[]⟩ : ByteArray)]) ?_ 2 _ rfl;(with_reducible repeat (first|refine blk_drewN ?_ _|refine blk_drew ?_|refine blk_alloc ?_ _));refine blk_put (cs:=#[.int .i64 t179,.string (⟨#[]⟩ : ByteArray),.int .i64 0,.slice none 0 0,.int .i64 0,.string (⟨#[]⟩ : ByteArray),.int .i64 0,.slice none 0 0,.string (⟨#[]⟩ : ByteArray)]) ?_ 1 _ rfl;(with_reducible repeat (first|refine blk_drewN ?_ _|refine blk_drew ?_|refine blk_alloc ?_ _));refine blk_put (cs:=#[.int .i64 0,.string (⟨#[]⟩ : ByteArray),.int .i64 0,.slice none 0 0,.int .i64 0,.string (⟨#[]⟩ : ByteArray),.int .i64 0,.slice none 0 0,.string (⟨#[]⟩ : ByteArray)]) ?_ 0 _ rfl;(with_reducible repeat (first|refine blk_drewN ?_ _|refine blk_drew ?_|refine blk_alloc ?_ _));refine blk_far ?_ NB178_177.out _;(with_reducible repeat (first|refine blk_drewN ?_ _|refine blk_drew ?_|refine blk_alloc ?_ _));refine blk_far ?_ NB178_177.out _;(with_reducible repeat (first|refine blk_drewN ?_ _|refine blk_drew ?_|refine blk_alloc ?_ _));refine blk_far ?_ NB178_177.out _;(with_reducible repeat (first|refine blk_drewN ?_ _|refine blk_drew ?_|refine blk_alloc ?_ _));refine blk_far ?_ NB178_177.out _;(with_reducible repeat (first|refine blk_drewN ?_ _|refine blk_drew ?_|refine blk_alloc ?_ _));exact BK178.out) Tryd.underlying48 rfl (by kernel_rfl)) rfl ?_
 exact ⟨_,_,by first|rfl|(simp [errW_none,errW_some] <;> rfl)|(simp [*,errW_none,errW_some] <;> rfl),by (with_reducible repeat (first|apply Kd.R_alloc|apply Kd.R_drewN|apply Kd.R_drew));exact Kd.R_mono (Kd.R_far (p:=⟨gb178,8,none⟩) (Kd.R_far (p:=⟨gb178,7,none⟩) (Kd.R_far (p:=⟨gb178,6,none⟩) (Kd.R_far (p:=⟨gb178,5,none⟩) (Kd.R_far (p:=⟨gb178,4,none⟩) (Kd.R_far (p:=⟨gb178,3,none⟩) (Kd.R_far (p:=⟨gb178,2,none⟩) (Kd.R_far (p:=⟨gb178,1,none⟩) (Kd.R_far (p:=⟨gb178,0,none⟩) (Kd.R_far (p:=⟨gb177,7,none⟩) (Kd.R_far (p:=⟨gb177,6,none⟩) (Kd.R_far (p:=⟨gb177,5,none⟩) (Kd.R_far (p:=⟨gb177,4,none⟩) (Kd.R_types (Kd.R_types HO184.out BK177.out (by decide)) BK178.out (by decide)) (fun _ hk => hk.1.2) (.int .i64 t185)) (fun _ hk => hk.1.2) (.string t186)) (fun _ hk => hk.1.2) (.int .i64 t187)) (fun _ hk => hk.1.2) (.slice Ao13 t188.length co13)) (fun _ hk => hk.2) (.int .i64 t179)) (fun _ hk => hk.2) (.string t180)) (fun _ hk => hk.2) (.int .i64 t181)) (fun _ hk => hk.2) (.slice Ao10 t182.length co10)) (fun _ hk => hk.2) (.int .i64 t185)) (fun _ hk => hk.2) (.string t186)) (fun _ hk => hk.2) (.int .i64 t187)) (fun _ hk => hk.2) (.slice Ao13 t188.length co13)) (fun _ hk => hk.2) (.string a0_8)) (fun _ hk => hk.1.1.2),by (with_reducible repeat (first|apply Kd.R_alloc|apply Kd.R_drewN|apply Kd.R_drew));exact Kd.R_mono (Kd.R_far (p:=⟨gb178,8,none⟩) (Kd.R_far (p:=⟨gb178,7,none⟩) (Kd.R_far (p:=⟨gb178,6,none⟩) (Kd.R_far (p:=⟨gb178,5,none⟩) (Kd.R_far (p:=⟨gb178,4,none⟩) (Kd.R_far (p:=⟨gb178,3,none⟩) (Kd.R_far (p:=⟨gb178,2,none⟩) (Kd.R_far (p:=⟨gb178,1,none⟩) (Kd.R_far (p:=⟨gb178,0,none⟩) (Kd.R_far (p:=⟨gb177,7,none⟩) (Kd.R_far (p:=⟨gb177,6,none⟩) (Kd.R_far (p:=⟨gb177,5,none⟩) (Kd.R_far (p:=⟨gb177,4,none⟩) (Kd.R_types (Kd.R_types HO190.out BK177.out (by decide)) BK178.out (by decide)) (fun _ hk => hk.1.2) (.int .i64 t185)) (fun _ hk => hk.1.2) (.string t186)) (fun _ hk => hk.1.2) (.int .i64 t187)) (fun _ hk => hk.1.2) (.slice Ao13 t188.length co13)) (fun _ hk => hk.2) (.int .i64 t179)) (fun _ hk => hk.2) (.string t180)) (fun _ hk => hk.2) (.int .i64 t181)) (fun _ hk => hk.2) (.slice Ao10 t182.length co10)) (fun _ hk => hk.2) (.int .i64 t185)) (fun _ hk => hk.2) (.string t186)) (fun _ hk => hk.2) (.int .i64 t187)) (fun _ hk => hk.2) (.slice Ao13 t188.length co13)) (fun _ hk => hk.2) (.string a0_8)) (fun _ hk => hk.1.1.2),by repeat (first|(with_reducible first|exact HB.out|apply below_alloc|apply pw_below_drewN|apply below_drew1|refine below_set ?_ GE177.out|refine below_set ?_ GE178.out)|exact HB.out)⟩

/-! ### spec_l34Clauses: function 66 -/
def spec_l34Clauses.l0 : Nat → List (S48) → List (S48) → Int → Option ((List (S48)))
 | 0,_,_,_ => none
 | k + 1,x0,x3,x4 => if x4 < (x0.length : Int) then (if 0 ≤ x4 then ((spec_l34Clause.f k ((rd_T48 x0 x4).f0.f0) ((rd_T48 x0 x4).f0.f1) ((rd_T48 x0 x4).f0.f2) ((rd_T48 x0 x4).f0.f3) ((rd_T48 x0 x4).f1.f0) ((rd_T48 x0 x4).f1.f1) ((rd_T48 x0 x4).f1.f2) ((rd_T48 x0 x4).f1.f3) ((rd_T48 x0 x4).f2)).bind fun bt195 => (if x3.length < 1099511627776 then (spec_l34Clauses.l0 k x0 (x3 ++ [(⟨(⟨bt195.1,bt195.2.1,bt195.2.2.1,bt195.2.2.2.1⟩ : S29),(⟨bt195.2.2.2.2.1,bt195.2.2.2.2.2.1,bt195.2.2.2.2.2.2.1,bt195.2.2.2.2.2.2.2.1⟩ : S29),bt195.2.2.2.2.2.2.2.2⟩ : S48)]) (wrap64 (x4 + 1))) else (none))) else (none)) else (some x3)
def spec_l34Clauses.f (k : Nat) (l0 : List (S48)) : Option ((List (S48))):=spec_l34Clauses.l0 k l0 (([] : List (S48))) 0
theorem spec_l34Clauses.mono_l : ∀ k,(∀ y0 y1 y2,LeO (spec_l34Clauses.l0 k y0 y1 y2) (spec_l34Clauses.l0 (k + 1) y0 y1 y2))
 | 0 => fun _ _ _ r h => by simp [spec_l34Clauses.l0] at h
 | k + 1 => by
  have ih0:=spec_l34Clauses.mono_l k
  ·intro y0 y1 y2
   unfold spec_l34Clauses.l0
   repeat' first
   | (with_reducible exact ih0 _ _ _)
   | (with_reducible exact spec_l34Clause.mono _ _ _ _ _ _ _ _ _ _)
   | (with_reducible exact LeO.refl _)
   | (with_reducible exact LeO.none _)
   | (with_reducible refine LeO.ite ?_ ?_)
   | (with_reducible refine LeO.bind ?_ (fun _ => ?_))
   | exact ih0 _ _ _
   | exact spec_l34Clause.mono _ _ _ _ _ _ _ _ _ _
   | exact LeO.none _
   | refine LeO.ite ?_ ?_
   | refine LeO.bind ?_ (fun _ => ?_)
theorem spec_l34Clauses.mono : ∀ a0 k,LeO (spec_l34Clauses.f k a0) (spec_l34Clauses.f (k + 1) a0):=by
 intro a0 k
 have ih0:=spec_l34Clauses.mono_l k
 unfold spec_l34Clauses.f
 repeat' first
   | (with_reducible exact ih0 _ _ _)
   | (with_reducible exact spec_l34Clause.mono _ _ _ _ _ _ _ _ _ _)
   | (with_reducible exact LeO.refl _)
   | (with_reducible exact LeO.none _)
   | (with_reducible refine LeO.ite ?_ ?_)
   | (with_reducible refine LeO.bind ?_ (fun _ => ?_))
   | exact ih0 _ _ _
   | exact spec_l34Clause.mono _ _ _ _ _ _ _ _ _ _
   | exact LeO.none _
   | refine LeO.ite ?_ ?_
   | refine LeO.bind ?_ (fun _ => ?_)
set_option maxHeartbeats 8000000 in
set_option maxRecDepth 100000 in
theorem spec_l34Clauses.calls (k : Nat) (A0 : Option Addr) (c0 : Nat) (l0 : List (S48)) (r : List (S48)) (w : World) (hr0 : Kd.C k48 w A0 l0.length l0) (hc0 : l0.length ≤ c0) (h : spec_l34Clauses.f k l0 = some r) :
  Calls Tryd.prog 66 #[.slice A0 l0.length c0] w fun e w' => ∃ v0_ : Value,e = .returned (v0_) ∧ Kd.R k48 48 w' w.heap.size (fun _ => True) v0_ r ∧ Below w.heap.size w w':=by
 have hu48:=Tryd.underlying48
 have HR0:=Aside0.mk hr0
 have HC0:=Aside0.mk hc0
 clear hr0 hc0
 have HB:=Aside0.mk (Below.refl w.heap.size w)
 have H : (spec_l34Clauses.l0 k l0 (([] : List (S48))) 0) = some r:=h
 clear h
 obtain ⟨y191,hy191⟩ : ∃ y_ : List (S48),y_ = (([] : List (S48))):=⟨_,rfl⟩
 replace H : (spec_l34Clauses.l0 k l0 y191 0) = some r:=by first|(rw [hy191];with_reducible exact H)|(have H2_:=(Option.bind_some _ _).symm.trans H;rw [hy191];with_reducible exact H2_)|(have H2_:=(Option.bind_some _ _).symm.trans H;with_reducible exact H2_)|with_reducible exact H|(rw [hy191];exact H)|exact H
 have Ny191:=Aside0.mk hy191
 clear hy191
 have H':=Aside0.mk H
 clear H
 go_enter Tryd.func66,Tryd.ntmps66
 go_wp2_with (first|((with_reducible refine gate_dst (N:=5) rfl ?_);refine Kd.R_lit k48 _ 48 ?hg (N:=5) ?hd (xs:=([] : List (S48))) (inner:=[]) (ok:=fun _ => True) (okp:=fun _ => True) ?hr ?hp (fun _ hk => hk) trivial (Below.refl _ _) (Nat.le_refl _) (by simp) ?_;(case hd => rfl);(case hg => rfl);(case hr => first|(go_simp;done)|(go_simp;rfl));(case hp => exact (Reps.none _ _));intro v192 w2 ho3 hb hg_ hnew_;clear hg_ hnew_;(first|rw [← Ny191.out] at ho3|(simp only [Int.reduceToNat] at ho3;rw [← Ny191.out] at ho3));have n0_:=Aside0.mk (Kd.R_lower ho3 (below_size (by repeat (first|(with_reducible first|exact HB.out|apply below_alloc|apply pw_below_drewN|apply below_drew1)|exact HB.out))));have n1_:=Aside0.mk (below_step (by repeat (first|(with_reducible first|exact HB.out|apply below_alloc|apply pw_below_drewN|apply below_drew1)|exact HB.out)) hb);clear HB;have HO193:=n0_;have HB:=n1_;clear n0_ n1_;clear hb ho3))
 go_loopg [3,4] k (fun kq v3 v4 w' => ∃ (x3_1 : List (S48)) (x4_1 : Int),v4 = .int .i64 x4_1 ∧ Aside0 (spec_l34Clauses.l0 kq l0 x3_1 x4_1 = some r) ∧ Aside0 (kq ≤ k) ∧ Aside0 (Kd.R k48 48 w' w.heap.size (fun _ => True) v3 x3_1) ∧ Aside0 (Below w.heap.size w w'))
 case atStart => exact ⟨(y191),(0),(by first|rfl|(simp;done)|(simp [*];done)),H',⟨Nat.le_refl _⟩,⟨by (with_reducible repeat (first|apply Kd.R_alloc|apply Kd.R_drewN|apply Kd.R_drew));exact HO193.out⟩,⟨by repeat (first|(with_reducible first|exact HB.out|apply below_alloc|apply pw_below_drewN|apply below_drew1)|exact HB.out)⟩⟩
 case round =>
  clear H'
  obtain ⟨x3_1,x4_1,rfl,HA,HK1,HO_3,HB⟩:=hrel
  cases gk with
  | zero => exact absurd HA.out (by simp [spec_l34Clauses.l0])
  | succ k1 =>
   have H:=HA.out
   clear HA
   simp only [spec_l34Clauses.l0] at H
   by_cases c4 : x4_1 < (l0.length : Int)
   ·rw [if_pos c4] at H
    have c4b0 : decide (x4_1 < (l0.length : Int)) = true:=decide_eq_true c4
    clear c4
    by_cases c5 : 0 ≤ x4_1
    rotate_left
    ·rw [if_neg c5] at H
     exact absurd H (by simp)
    rw [if_pos c5] at H
    have c5b0 : decide (0 ≤ x4_1) = true:=decide_eq_true c5
    clear c5
    replace H:=Option.bind_eq_some_iff.mp H
    obtain ⟨⟨t195,t196,t197,t198,t201,t202,t203,t204,t207⟩,A60,H⟩:=H
    replace H : (if x3_1.length < 1099511627776 then (spec_l34Clauses.l0 k1 l0 (x3_1 ++ [(⟨(⟨t195,t196,t197,t198⟩ : S29),(⟨t201,t202,t203,t204⟩ : S29),t207⟩ : S48)]) (wrap64 (x4_1 + 1))) else (none)) = some r:=H
    have A6:=Aside0.mk A60
    clear A60
    by_cases c7 : x3_1.length < 1099511627776
    rotate_left
    ·rw [if_neg c7] at H
     exact absurd H (by simp)
    rw [if_pos c7] at H
    have LMc7:=Aside0.mk c7
    clear c7
    obtain ⟨y208,hy208⟩ : ∃ y_ : List (S48),y_ = (x3_1 ++ [(⟨(⟨t195,t196,t197,t198⟩ : S29),(⟨t201,t202,t203,t204⟩ : S29),t207⟩ : S48)]):=⟨_,rfl⟩
    replace H : (spec_l34Clauses.l0 k1 l0 y208 (wrap64 (x4_1 + 1))) = some r:=by first|(rw [hy208];with_reducible exact H)|(have H2_:=(Option.bind_some _ _).symm.trans H;rw [hy208];with_reducible exact H2_)|(have H2_:=(Option.bind_some _ _).symm.trans H;with_reducible exact H2_)|with_reducible exact H|(rw [hy208];exact H)|exact H
    have Ny208:=Aside0.mk hy208
    clear hy208
    have H':=Aside0.mk H
    clear H
    have p194 : 0 ≤ (x4_1 : Int):=of_decide_eq_true (by first|(with_reducible assumption)|assumption)
    have q194 : x4_1 < (l0.length : Int):=of_decide_eq_true (by first|(with_reducible assumption)|assumption)
    obtain ⟨ad194,A194_3,c194_3,A194_7,c194_7,e194,hx194_0,hx194_1,hx194_2,hx194_3,hx194_4,hx194_5,hx194_6,hx194_7,hx194_8,hl194_3,hi194_3,hl194_7,hi194_7⟩:=at_T48 HR0.out x4_1 p194 q194
    cases e194
    replace hx194_0:=(HB.out.cell (World.block_lt_of_cell? w _ hx194_0)).trans hx194_0
    replace hx194_1:=(HB.out.cell (World.block_lt_of_cell? w _ hx194_1)).trans hx194_1
    replace hx194_2:=(HB.out.cell (World.block_lt_of_cell? w _ hx194_2)).trans hx194_2
    replace hx194_3:=(HB.out.cell (World.block_lt_of_cell? w _ hx194_3)).trans hx194_3
    replace hx194_4:=(HB.out.cell (World.block_lt_of_cell? w _ hx194_4)).trans hx194_4
    replace hx194_5:=(HB.out.cell (World.block_lt_of_cell? w _ hx194_5)).trans hx194_5
    replace hx194_6:=(HB.out.cell (World.block_lt_of_cell? w _ hx194_6)).trans hx194_6
    replace hx194_7:=(HB.out.cell (World.block_lt_of_cell? w _ hx194_7)).trans hx194_7
    replace hx194_8:=(HB.out.cell (World.block_lt_of_cell? w _ hx194_8)).trans hx194_8
    have HR194_3:=Aside0.mk hi194_3
    have HC194_3:=Aside0.mk hl194_3
    clear hi194_3 hl194_3
    have HR194_7:=Aside0.mk hi194_7
    have HC194_7:=Aside0.mk hl194_7
    clear hi194_7 hl194_7
    replace p194:=eq_true p194
    replace q194:=eq_true q194
    go_wp2_with (first|((with_reducible refine gate_callee (f:=59) rfl ?_);refine goesL_ (some 17) rfl rfl Tryd.func59 (by kernel_rfl) rfl #[.agg #[.int .i64 ((rd_T48 l0 x4_1).f0.f0),.string ((rd_T48 l0 x4_1).f0.f1),.int .i64 ((rd_T48 l0 x4_1).f0.f2),.slice A194_3 ((rd_T48 l0 x4_1).f0.f3).length c194_3,.int .i64 ((rd_T48 l0 x4_1).f1.f0),.string ((rd_T48 l0 x4_1).f1.f1),.int .i64 ((rd_T48 l0 x4_1).f1.f2),.slice A194_7 ((rd_T48 l0 x4_1).f1.f3).length c194_7,.string ((rd_T48 l0 x4_1).f2)]] rfl (by (try simp only [List.map_toArray,List.map_cons,List.map_nil]);first|done|rfl|(simp only [List.length_drop,List.length_take];rfl)) ?_;(with_reducible refine (spec_l34Clause.calls k1 ((rd_T48 l0 x4_1).f0.f0) ((rd_T48 l0 x4_1).f0.f1) ((rd_T48 l0 x4_1).f0.f2) _ _ ((rd_T48 l0 x4_1).f0.f3) ((rd_T48 l0 x4_1).f1.f0) ((rd_T48 l0 x4_1).f1.f1) ((rd_T48 l0 x4_1).f1.f2) _ _ ((rd_T48 l0 x4_1).f1.f3) ((rd_T48 l0 x4_1).f2) t195 t196 t197 t198 t201 t202 t203 t204 t207 _ ?side1 ?side2 ?side3 ?side4 A6.out).mono ?_);(case side1 => repeat (first|exact (Kd.C_below HR194_3.out HB.out)|(with_reducible refine Kd.C_alloc ?_ _)|(with_reducible refine Kd.C_drewN ?_ _)|(with_reducible refine Kd.C_drew ?_)));(case side2 => exact HC194_3.out);(case side3 => repeat (first|exact (Kd.C_below HR194_7.out HB.out)|(with_reducible refine Kd.C_alloc ?_ _)|(with_reducible refine Kd.C_drewN ?_ _)|(with_reducible refine Kd.C_drew ?_)));(case side4 => exact HC194_7.out);rintro e w8 ⟨v199,v205,rfl,ho0,ho1,hb⟩;refine ⟨_,rfl,?_⟩;have n0_:=Aside0.mk (Kd.R_mono (Kd.R_told (Kd.R_told (Kd.R_old (by (with_reducible repeat (first|apply Kd.R_alloc|apply Kd.R_drewN|apply Kd.R_drew));exact HO_3.out) hb) (Kd.R_base ho0)) (Kd.R_base ho1)) (fun _ h_ => h_.1));have n1_:=Aside0.mk (Kd.R_lower ho0 (below_size (by repeat (first|(with_reducible first|exact HB.out|apply below_alloc|apply pw_below_drewN|apply below_drew1)|exact HB.out))));have n2_:=Aside0.mk (Kd.R_lower ho1 (below_size (by repeat (first|(with_reducible first|exact HB.out|apply below_alloc|apply pw_below_drewN|apply below_drew1)|exact HB.out))));have n3_:=Aside0.mk (below_step (by repeat (first|(with_reducible first|exact HB.out|apply below_alloc|apply pw_below_drewN|apply below_drew1)|exact HB.out)) hb);clear HO_3;clear HB;have HO_3:=n0_;have HO200:=n1_;have HO206:=n2_;have HB:=n3_;clear n0_ n1_ n2_ n3_;(try clear hb);(try clear hb2);(try clear hk);(try clear hi);(try clear ho0);(try clear ho1);obtain ⟨Ao10,co10,eo10⟩:=Kd.R_slice HO200.out;subst eo10;obtain ⟨Ao11,co11,eo11⟩:=Kd.R_slice HO206.out;subst eo11)|((with_reducible refine gate_builtin (b:=.append) (xs:=#[.tmp 12,.tmp 18]) rfl ?_);at_builtin;refine Kd.R_append k48 (w0:=w) w.heap.size rfl (.tmp 12) (.tmp 18) 39 48 (.agg #[(.int .i64 0),(.string ⟨#[]⟩),(.int .i64 0),(.slice none 0 0),(.int .i64 0),(.string ⟨#[]⟩),(.int .i64 0),(.slice none 0 0),(.string ⟨#[]⟩)]) 128 rfl Tryd.underlying39 info48 rfl (by decide) (by omega) u3 x3_1 (⟨(⟨t195,t196,t197,t198⟩ : S29),(⟨t201,t202,t203,t204⟩ : S29),t207⟩ : S48) [.int .i64 t195,.string t196,.int .i64 t197,.slice Ao10 t198.length co10,.int .i64 t201,.string t202,.int .i64 t203,.slice Ao11 t204.length co11,.string t207] (fun _ => True) (fun k_ => ((fun _ => True)) k_ ∧ some k_ ≠ (u3 : Value).ownBlock) rfl rfl ?aP (fun _ hk => hk) ?aF ?aO ?aB ?aS ?aL ?_;(case aP => exact k48_mkM _ _ _ (⟨(⟨t195,t196,t197,t198⟩ : S29),(⟨t201,t202,t203,t204⟩ : S29),t207⟩ : S48) (Kd.R_mono (Kd.R_apart' (HO200.out) (Kd.R_typed HO_3.out) (by decide)) (fun k_ hk => ⟨trivial,hk.2⟩)) (Kd.R_mono (Kd.R_apart' (HO206.out) (Kd.R_typed HO_3.out) (by decide)) (fun k_ hk => ⟨trivial,hk.2⟩)));(case aB => exact (by repeat (first|(with_reducible first|exact HB.out|apply below_alloc|apply pw_below_drewN|apply below_drew1)|exact HB.out)));(case aF => exact (fun _ _ => trivial));(case aO => exact (by (with_reducible repeat (first|apply Kd.R_alloc|apply Kd.R_drewN|apply Kd.R_drew));exact Kd.R_mono HO_3.out (fun _ hk => trivial)));(case aS => exact (below_size (by repeat (first|(with_reducible first|exact HB.out|apply below_alloc|apply pw_below_drewN|apply below_drew1)|exact HB.out))));(case aL => have:=LMc7.out;omega);intro v209 w9 ho hb hg hat;rw [← Ny208.out] at ho;have n0_:=Aside0.mk (hb);have n1_:=Aside0.mk (ho);clear HB;clear HO_3;clear HO200;clear HO206;have HB:=n0_;have HO210:=n1_;clear n0_ n1_;clear ho hb hg hat))
    go_roundg k1
    case measure => have:=HK1.out;omega
    case rel => exact ⟨(y208),(wrap64 (x4_1 + 1)),(by first|rfl|(simp;done)|(simp [*];done)),H',⟨by have:=HK1.out;omega⟩,⟨by (with_reducible repeat (first|apply Kd.R_alloc|apply Kd.R_drewN|apply Kd.R_drew));exact HO210.out⟩,⟨by repeat (first|(with_reducible first|exact HB.out|apply below_alloc|apply pw_below_drewN|apply below_drew1)|exact HB.out)⟩⟩
   ·rw [if_neg c4] at H
    have c4b0 : decide (x4_1 < (l0.length : Int)) = false:=decide_eq_false c4
    clear c4
    obtain rfl:=Option.some.inj H
    go_wp2
    go_ret
    exact ⟨_,by first|rfl|(simp [errW_none,errW_some] <;> rfl)|(simp [*,errW_none,errW_some] <;> rfl),by (with_reducible repeat (first|apply Kd.R_alloc|apply Kd.R_drewN|apply Kd.R_drew));exact HO_3.out,by repeat (first|(with_reducible first|exact HB.out|apply below_alloc|apply pw_below_drewN|apply below_drew1)|exact HB.out)⟩

/-! ### spec_ClausesOf: function 28 -/
def spec_ClausesOf.f (k : Nat) (l0_0 : List (S48)) (l0_1 : List ByteArray) (a1 : ByteArray) : Option ((List (S48))):=(spec_l08ClausesOfRaw.f k l0_0 l0_1 a1).bind fun t212 => ((spec_l34Clauses.f k t212).bind fun t215 => (some t215))
theorem spec_ClausesOf.mono : ∀ a0 a1 a2 k,LeO (spec_ClausesOf.f k a0 a1 a2) (spec_ClausesOf.f (k + 1) a0 a1 a2):=by
 intro a0 a1 a2 k
 unfold spec_ClausesOf.f
 repeat' first
   | (with_reducible exact spec_l08ClausesOfRaw.mono _ _ _ _)
   | (with_reducible exact spec_l34Clauses.mono _ _)
   | (with_reducible exact LeO.refl _)
   | (with_reducible exact LeO.none _)
   | (with_reducible refine LeO.ite ?_ ?_)
   | (with_reducible refine LeO.bind ?_ (fun _ => ?_))
   | exact spec_l08ClausesOfRaw.mono _ _ _ _
   | exact spec_l34Clauses.mono _ _
   | exact LeO.none _
   | refine LeO.ite ?_ ?_
   | refine LeO.bind ?_ (fun _ => ?_)
set_option maxHeartbeats 8000000 in
set_option maxRecDepth 100000 in
theorem spec_ClausesOf.calls (k : Nat) (P0_0_ : Nat → Prop) (A0_0 : Option Addr) (c0_0 : Nat) (l0_0 : List (S48)) (A0_1 : Option Addr) (c0_1 : Nat) (l0_1 : List ByteArray) (a1 : ByteArray) (r : List (S48)) (w : World) (hs0_0 : Kd.V k48 48 w w.heap.size (fun k_ => P0_0_ k_) (.slice A0_0 l0_0.length c0_0) l0_0) (hr0_1 : Kd.C Kd.string w A0_1 l0_1.length l0_1) (hc0_1 : l0_1.length ≤ c0_1) (h : spec_ClausesOf.f k l0_0 l0_1 a1 = some r) :
  Calls Tryd.prog 28 #[.agg #[.slice A0_0 l0_0.length c0_0,.slice A0_1 l0_1.length c0_1],.string a1] w fun e w' => ∃ v0_ : Value,e = .returned (v0_) ∧ Kd.N k48 48 w' w.heap.size (fun k_ => (P0_0_ k_ ∨ w.heap.size ≤ k_)) v0_ r ∧ Below w.heap.size w w':=by
 have hu41:=Tryd.underlying41
 have HO0_0:=Aside0.mk (show Kd.V k48 48 w w.heap.size (fun k_ => (P0_0_ k_ ∨ w.heap.size ≤ k_)) (.slice A0_0 l0_0.length c0_0) l0_0 from Kd.V_mono hs0_0 (fun k_ hk => .inl hk))
 have HR0_1:=Aside0.mk hr0_1
 have HC0_1:=Aside0.mk hc0_1
 clear hr0_1 hc0_1
 have HB:=Aside0.mk (Below.refl w.heap.size w)
 have H : ((spec_l08ClausesOfRaw.f k l0_0 l0_1 a1).bind fun t212 => ((spec_l34Clauses.f k t212).bind fun t215 => (some t215))) = some r:=h
 clear h
 replace H:=Option.bind_eq_some_iff.mp H
 obtain ⟨t212,A30,H⟩:=H
 replace H : ((spec_l34Clauses.f k t212).bind fun t215 => (some t215)) = some r:=H
 have A3:=Aside0.mk A30
 clear A30
 replace H:=Option.bind_eq_some_iff.mp H
 obtain ⟨t215,A40,H⟩:=H
 replace H : (some t215) = some r:=H
 have A4:=Aside0.mk A40
 clear A40
 obtain rfl:=Option.some.inj H
 go_enter Tryd.func28,Tryd.ntmps28
 go_wp2_with (first|((with_reducible refine gate_dst (N:=2) rfl ?_);refine box_event ?hg (N:=2) ?hd (cs:=#[.slice A0_0 l0_0.length c0_0,.slice A0_1 l0_1.length c0_1]) (t:=41) ?hr ?_;(case hd => rfl);(case hg => rfl);(case hr => first|(go_simp;done)|(go_simp;rfl));intro gb211 hg w5 hbox hb;have n0_:=Aside0.mk (Kd.V_below (Kd.V_elderB (by (with_reducible repeat (first|apply Kd.V_alloc|apply Kd.V_drewN|apply Kd.V_drew));exact HO0_0.out) gb211 (Nat.le_of_eq hg.symm)) hb);have n1_:=Aside0.mk (below_step (by repeat (first|(with_reducible first|exact HB.out|apply below_alloc|apply pw_below_drewN|apply below_drew1)|exact HB.out)) hb);have n2_:=Aside0.mk (hbox);have n3_:=Aside0.mk ((by rw [hg];exact (below_size (by repeat (first|(with_reducible first|exact HB.out|apply below_alloc|apply pw_below_drewN|apply below_drew1)|exact HB.out))) : w.heap.size ≤ gb211));have n4_:=Aside0.mk ((by rw [hg];exact (below_size (by repeat (first|(with_reducible first|exact HB.out|apply below_alloc|apply pw_below_drewN|apply below_drew1)|exact HB.out))) : w.heap.size ≤ gb211));clear HO0_0;clear HB;have HO0_0:=n0_;have HB:=n1_;have BK211:=n2_;have GW211:=n3_;have GE211:=n4_;clear n0_ n1_ n2_ n3_ n4_;clear hb hbox hg;have hcz6_0 : w5.cell? ⟨gb211,0,none⟩ = some (.slice A0_0 l0_0.length c0_0):=(blk_cell BK211.out 0).trans rfl;have hcz6_1 : w5.cell? ⟨gb211,1,none⟩ = some (.slice A0_1 l0_1.length c0_1):=(blk_cell BK211.out 1).trans rfl;have hfz6_0:=blk_frozen BK211.out 0;have hfz6_1:=blk_frozen BK211.out 1)|((with_reducible refine gate_callee (f:=65) rfl ?_);refine goesL_ (some 8) rfl rfl Tryd.func65 (by kernel_rfl) rfl #[.agg #[.slice A0_0 l0_0.length c0_0,.slice A0_1 l0_1.length c0_1],.string a1] rfl (by (try simp only [List.map_toArray,List.map_cons,List.map_nil]);first|done|rfl|(simp only [List.length_drop,List.length_take];rfl)) ?_;(with_reducible refine (spec_l08ClausesOfRaw.calls k (fun k_ => ((P0_0_ k_ ∨ w.heap.size ≤ k_) ∧ k_ ≠ gb211)) _ _ l0_0 _ _ l0_1 a1 t212 _ ?side1 ?side2 ?side3 A3.out).mono ?_);(case side1 => exact HO0_0.out);(case side2 => repeat (first|exact (Kd.C_below HR0_1.out HB.out)|(with_reducible refine Kd.C_alloc ?_ _)|(with_reducible refine Kd.C_drewN ?_ _)|(with_reducible refine Kd.C_drew ?_)));(case side3 => exact HC0_1.out);rintro e w7 ⟨v213,rfl,ho0,hb⟩;refine ⟨_,rfl,?_⟩;have n0_:=Aside0.mk (Kd.V_elder' (by (with_reducible repeat (first|apply Kd.V_alloc|apply Kd.V_drewN|apply Kd.V_drew));exact HO0_0.out) (by first|exact Kd.N_base ho0|exact Kd.R_base ho0) hb);have n1_:=Aside0.mk (Kd.N_lower (Kd.N_mono (ok':=fun k_ => (P0_0_ k_ ∨ w.heap.size ≤ k_) ∧ k_ ≠ gb211) ho0 (fun k_ hk_ => ⟨Or.elim hk_ (fun hs_ => hs_.1) (fun hn_ => (.inr (Nat.le_trans (below_size (by repeat (first|(with_reducible first|exact HB.out|apply below_alloc|apply pw_below_drewN|apply below_drew1|refine below_set ?_ GE211.out)|exact HB.out))) hn_))),Or.elim hk_ (fun hs_ => hs_.2) (fun hn_ => (Kd.freshB (g:=gb211) (o:=.cells #[.slice A0_0 l0_0.length c0_0,.slice A0_1 l0_1.length c0_1] 41 (0,0)) (by (with_reducible repeat (first|refine blk_drewN ?_ _|refine blk_drew ?_|refine blk_alloc ?_ _));exact BK211.out) k_ hn_))⟩)) (below_size (by repeat (first|(with_reducible first|exact HB.out|apply below_alloc|apply pw_below_drewN|apply below_drew1|refine below_set ?_ GE211.out)|exact HB.out))));have n2_:=Aside0.mk (blk_below (g:=gb211) (o:=.cells #[.slice A0_0 l0_0.length c0_0,.slice A0_1 l0_1.length c0_1] 41 (0,0)) (by (with_reducible repeat (first|refine blk_drewN ?_ _|refine blk_drew ?_|refine blk_alloc ?_ _));exact BK211.out) hb);have n3_:=Aside0.mk (below_step (by repeat (first|(with_reducible first|exact HB.out|apply below_alloc|apply pw_below_drewN|apply below_drew1|refine below_set ?_ GE211.out)|exact HB.out)) hb);clear HO0_0;clear BK211;clear HB;have HO0_0:=n0_;have HO214:=n1_;have BK211:=n2_;have HB:=n3_;clear n0_ n1_ n2_ n3_;(try clear hb);(try clear hb2);(try clear hk);(try clear hi);(try clear ho0);obtain ⟨Ao8,co8,eo8⟩:=Kd.N_slice HO214.out;subst eo8)|((with_reducible refine gate_callee (f:=66) rfl ?_);refine goesL_ (some 10) rfl rfl Tryd.func66 (by kernel_rfl) rfl #[.slice Ao8 t212.length co8] rfl (by (try simp only [List.map_toArray,List.map_cons,List.map_nil]);first|done|rfl|(simp only [List.length_drop,List.length_take];rfl)) ?_;(with_reducible refine (spec_l34Clauses.calls k _ _ t212 t215 _ ?side1 ?side2 A4.out).mono ?_);(case side1 => repeat (first|exact (Kd.N_reads' HO214.out).2.2|(with_reducible refine Kd.C_alloc ?_ _)|(with_reducible refine Kd.C_drewN ?_ _)|(with_reducible refine Kd.C_drew ?_)));(case side2 => exact (Kd.N_reads' HO214.out).2.1);rintro e w9 ⟨v216,rfl,ho0,hb⟩;refine ⟨_,rfl,?_⟩;have n0_:=Aside0.mk (Kd.V_elder' (by (with_reducible repeat (first|apply Kd.V_alloc|apply Kd.V_drewN|apply Kd.V_drew));exact HO0_0.out) (by first|exact Kd.N_base ho0|exact Kd.R_base ho0) hb);have n1_:=Aside0.mk (Kd.N_elder' (by (with_reducible repeat (first|apply Kd.N_alloc|apply Kd.N_drewN|apply Kd.N_drew));exact HO214.out) (by first|exact Kd.N_base ho0|exact Kd.R_base ho0) hb);have n2_:=Aside0.mk (Kd.N_lower (Kd.N_mono (ok':=fun k_ => (P0_0_ k_ ∨ w.heap.size ≤ k_) ∧ some k_ ≠ (.slice Ao8 t212.length co8 : Value).ownBlock ∧ k_ ≠ gb211) (Kd.R_N (Kd.R_bound ho0)) (fun k_ hk_ => ⟨(.inr (Nat.le_trans (below_size (by repeat (first|(with_reducible first|exact HB.out|apply below_alloc|apply pw_below_drewN|apply below_drew1|refine below_set ?_ GE211.out)|exact HB.out))) hk_.2.1)),(Kd.fresh' (Kd.N_lt (by (with_reducible repeat (first|apply Kd.N_alloc|apply Kd.N_drewN|apply Kd.N_drew));exact HO214.out)) k_ hk_.2.1),(Kd.freshB (g:=gb211) (o:=.cells #[.slice A0_0 l0_0.length c0_0,.slice A0_1 l0_1.length c0_1] 41 (0,0)) (by (with_reducible repeat (first|refine blk_drewN ?_ _|refine blk_drew ?_|refine blk_alloc ?_ _));exact BK211.out) k_ hk_.2.1)⟩)) (below_size (by repeat (first|(with_reducible first|exact HB.out|apply below_alloc|apply pw_below_drewN|apply below_drew1|refine below_set ?_ GE211.out)|exact HB.out))));have n3_:=Aside0.mk (blk_below (g:=gb211) (o:=.cells #[.slice A0_0 l0_0.length c0_0,.slice A0_1 l0_1.length c0_1] 41 (0,0)) (by (with_reducible repeat (first|refine blk_drewN ?_ _|refine blk_drew ?_|refine blk_alloc ?_ _));exact BK211.out) hb);have n4_:=Aside0.mk (below_step (by repeat (first|(with_reducible first|exact HB.out|apply below_alloc|apply pw_below_drewN|apply below_drew1|refine below_set ?_ GE211.out)|exact HB.out)) hb);clear HO0_0;clear HO214;clear BK211;clear HB;have HO0_0:=n0_;have HO214:=n1_;have HO217:=n2_;have BK211:=n3_;have HB:=n4_;clear n0_ n1_ n2_ n3_ n4_;(try clear hb);(try clear hb2);(try clear hk);(try clear hi);(try clear ho0)))
 go_ret
 exact ⟨_,by first|rfl|(simp [errW_none,errW_some] <;> rfl)|(simp [*,errW_none,errW_some] <;> rfl),by (with_reducible repeat (first|apply Kd.N_alloc|apply Kd.N_drewN|apply Kd.N_drew));exact Kd.N_mono HO217.out (fun _ hk => hk.1),by repeat (first|(with_reducible first|exact HB.out|apply below_alloc|apply pw_below_drewN|apply below_drew1|refine below_set ?_ GE211.out)|exact HB.out)⟩

-- NOT PRINTED: function 120 (strconv_small)

-- NOT PRINTED: function 126 (strconv_log10Pow2)

-- NOT PRINTED: function 127 (bits_Len64)

-- NOT PRINTED: function 128 (strconv_bool2_int)

-- NOT PRINTED: function 121 (strconv_numDigits)

-- NOT PRINTED: function 122 (strconv_formatBase10)

-- NOT PRINTED: function 129 (strconv_isPowerOfTwo)

-- NOT PRINTED: function 131 (bits_TrailingZeros32)

-- NOT PRINTED: function 132 (bits_TrailingZeros64)

-- NOT PRINTED: function 130 (bits_TrailingZeros)

-- NOT PRINTED: function 123 (strconv_formatBits)

-- NOT PRINTED: function 117 (strconv_FormatInt)

-- NOT PRINTED: function 106 (strconv_Itoa_106)

-- NOT PRINTED: function 83 (strconv_Itoa_83)

end Go.Proofs.YtojedbogbodkiaaDoor.KCs
