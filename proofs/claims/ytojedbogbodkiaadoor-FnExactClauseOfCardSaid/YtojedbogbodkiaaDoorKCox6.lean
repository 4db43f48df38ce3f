/- Of this claim's own making; what nothing names is struck (fewall.py). -/
import Derived.Test.YtojedbogbodkiaaDoorKCox0
import Derived.Test.YtojedbogbodkiaaDoorKCox1
import Derived.Test.YtojedbogbodkiaaDoorKCox5
namespace Go.Proofs.YtojedbogbodkiaaDoor.KCo
open Go.RowKit Go.Proofs.YtojedbogbodkiaaDoorW.PrintWords Go.Proofs.YtojedbogbodkiaaDoorW.PrintLast Go.Proofs.YtojedbogbodkiaaDoorW.PrintMore
attribute [local go_sem] max2_int min2_int max_two min_two max_three min_three max_four min_four   -- for this text's walks alone
set_option linter.unusedVariables false
set_option linter.unusedSimpArgs false
set_option linter.unusedSectionVars false
variable [fk_laws_szTerm] [fk_laws_eqTerm] [fk_spec_l34Term] [fk_strconv_Itoa]
def impl_TermOk.f (k : Nat) (a0_0 : Int) (a0_1 : ByteArray) (a0_2 : Int) (l0_3 : List (S29)) : Option (Bool):=(impl_sized.f k a0_0 a0_1 a0_2 l0_3 1).bind fun t187 => (some (decide (t187 ≤ 400)))
theorem impl_TermOk.mono : ∀ a0 a1 a2 a3 k,LeO (impl_TermOk.f k a0 a1 a2 a3) (impl_TermOk.f (k + 1) a0 a1 a2 a3):=by
 intro a0 a1 a2 a3 k
 unfold impl_TermOk.f
 repeat' first
   | (with_reducible exact impl_sized.mono _ _ _ _ _ _)
   | (with_reducible exact LeO.refl _)
   | (with_reducible exact LeO.none _)
   | (with_reducible refine LeO.ite ?_ ?_)
   | (with_reducible refine LeO.bind ?_ (fun _ => ?_))
   | exact impl_sized.mono _ _ _ _ _ _
   | exact LeO.none _
   | refine LeO.ite ?_ ?_
   | refine LeO.bind ?_ (fun _ => ?_)
set_option maxHeartbeats 8000000 in
set_option maxRecDepth 100000 in
theorem impl_TermOk.calls (k : Nat) (a0_0 : Int) (a0_1 : ByteArray) (a0_2 : Int) (A0_3 : Option Addr) (c0_3 : Nat) (l0_3 : List (S29)) (r : Bool) (w : World) (hr0_3 : Kd.C k29 w A0_3 l0_3.length l0_3) (hc0_3 : l0_3.length ≤ c0_3) (h : impl_TermOk.f k a0_0 a0_1 a0_2 l0_3 = some r) :
  Calls Tryd.prog 56 #[.agg #[.int .i64 a0_0,.string a0_1,.int .i64 a0_2,.slice A0_3 l0_3.length c0_3]] w fun e w' => e = .returned (.bool r) ∧ Below w.heap.size w w':=by
 have hu29:=Tryd.underlying29
 have HR0_3:=Aside0.mk hr0_3
 have HC0_3:=Aside0.mk hc0_3
 clear hr0_3 hc0_3
 have HB:=Aside0.mk (Below.refl w.heap.size w)
 have H : ((impl_sized.f k a0_0 a0_1 a0_2 l0_3 1).bind fun t187 => (some (decide (t187 ≤ 400)))) = some r:=h
 clear h
 replace H:=Option.bind_eq_some_iff.mp H
 obtain ⟨t187,A20,H⟩:=H
 replace H : (some (decide (t187 ≤ 400))) = some r:=H
 have A2:=Aside0.mk A20
 clear A20
 obtain rfl:=Option.some.inj H
 go_enter Tryd.func56,Tryd.ntmps56
 go_wp2_with (first|((with_reducible refine gate_dst (N:=1) rfl ?_);refine box_event ?hg (N:=1) ?hd (cs:=#[.int .i64 a0_0,.string a0_1,.int .i64 a0_2,.slice A0_3 l0_3.length c0_3]) (t:=29) ?hr ?_;(case hd => rfl);(case hg => rfl);(case hr => first|(go_simp;done)|(go_simp;rfl));intro gb186 hg w3 hbox hb;have n0_:=Aside0.mk (below_step (by repeat (first|(with_reducible first|exact HB.out|apply below_alloc|apply pw_below_drewN|apply below_drew1)|exact HB.out)) hb);have n1_:=Aside0.mk (hbox);have n2_:=Aside0.mk ((by rw [hg];exact (below_size (by repeat (first|(with_reducible first|exact HB.out|apply below_alloc|apply pw_below_drewN|apply below_drew1)|exact HB.out))) : w.heap.size ≤ gb186));have n3_:=Aside0.mk ((by rw [hg];exact (below_size (by repeat (first|(with_reducible first|exact HB.out|apply below_alloc|apply pw_below_drewN|apply below_drew1)|exact HB.out))) : w.heap.size ≤ gb186));clear HB;have HB:=n0_;have BK186:=n1_;have GW186:=n2_;have GE186:=n3_;clear n0_ n1_ n2_ n3_;clear hb hbox hg;have hcz4_0 : w3.cell? ⟨gb186,0,none⟩ = some (.int .i64 a0_0):=(blk_cell BK186.out 0).trans rfl;have hcz4_1 : w3.cell? ⟨gb186,1,none⟩ = some (.string a0_1):=(blk_cell BK186.out 1).trans rfl;have hcz4_2 : w3.cell? ⟨gb186,2,none⟩ = some (.int .i64 a0_2):=(blk_cell BK186.out 2).trans rfl;have hcz4_3 : w3.cell? ⟨gb186,3,none⟩ = some (.slice A0_3 l0_3.length c0_3):=(blk_cell BK186.out 3).trans rfl;have hfz4_0:=blk_frozen BK186.out 0;have hfz4_1:=blk_frozen BK186.out 1;have hfz4_2:=blk_frozen BK186.out 2;have hfz4_3:=blk_frozen BK186.out 3)|((with_reducible refine gate_callee (f:=88) rfl ?_);refine goesL_ (some 4) rfl rfl Tryd.func88 (by kernel_rfl) rfl #[.agg #[.int .i64 a0_0,.string a0_1,.int .i64 a0_2,.slice A0_3 l0_3.length c0_3],.int .i64 1] rfl (by (try simp only [List.map_toArray,List.map_cons,List.map_nil]);first|done|rfl|(simp only [List.length_drop,List.length_take];rfl)) ?_;(with_reducible refine (impl_sized.calls k a0_0 a0_1 a0_2 _ _ l0_3 1 t187 _ ?side1 ?side2 A2.out).mono ?_);(case side1 => repeat (first|exact (Kd.C_below HR0_3.out HB.out)|(with_reducible refine Kd.C_alloc ?_ _)|(with_reducible refine Kd.C_drewN ?_ _)|(with_reducible refine Kd.C_drew ?_)));(case side2 => exact HC0_3.out);rintro e w5 ⟨rfl,hb⟩;refine ⟨_,rfl,?_⟩;have n0_:=Aside0.mk (blk_below (g:=gb186) (o:=.cells #[.int .i64 a0_0,.string a0_1,.int .i64 a0_2,.slice A0_3 l0_3.length c0_3] 29 (0,0)) (by (with_reducible repeat (first|refine blk_drewN ?_ _|refine blk_drew ?_|refine blk_alloc ?_ _));exact BK186.out) hb);have n1_:=Aside0.mk (below_step (by repeat (first|(with_reducible first|exact HB.out|apply below_alloc|apply pw_below_drewN|apply below_drew1|refine below_set ?_ GE186.out)|exact HB.out)) hb);clear BK186;clear HB;have BK186:=n0_;have HB:=n1_;clear n0_ n1_;(try clear hb)))
 go_ret
 exact ⟨by first|rfl|(simp [errW_none,errW_some] <;> rfl)|(simp [*,errW_none,errW_some] <;> rfl),by repeat (first|(with_reducible first|exact HB.out|apply below_alloc|apply pw_below_drewN|apply below_drew1|refine below_set ?_ GE186.out)|exact HB.out)⟩
def impl_Decimal.f (k : Nat) (a0 : Int) : Option (ByteArray):=(fk_strconv_Itoa.f k a0).bind fun t188 => (some t188)
theorem impl_Decimal.mono : ∀ a0 k,LeO (impl_Decimal.f k a0) (impl_Decimal.f (k + 1) a0):=by
 intro a0 k
 unfold impl_Decimal.f
 repeat' first
   | (with_reducible exact fk_strconv_Itoa.mono _ _)
   | (with_reducible exact LeO.refl _)
   | (with_reducible exact LeO.none _)
   | (with_reducible refine LeO.ite ?_ ?_)
   | (with_reducible refine LeO.bind ?_ (fun _ => ?_))
   | exact fk_strconv_Itoa.mono _ _
   | exact LeO.none _
   | refine LeO.ite ?_ ?_
   | refine LeO.bind ?_ (fun _ => ?_)
set_option maxHeartbeats 8000000 in
set_option maxRecDepth 100000 in
theorem impl_Decimal.calls (k : Nat) (a0 : Int) (r : ByteArray) (w : World) (hTAB : Lib.TabBelow Tryd.prog w.heap.size w "internal/strconv.uint64pow10" .u64 Lib.pow10Tab) (h : impl_Decimal.f k a0 = some r) :
  Calls Tryd.prog 45 #[.int .i64 a0] w fun e w' => e = .returned (.string r) ∧ Below w.heap.size w w':=by
 have HB:=Aside0.mk (Below.refl w.heap.size w)
 have HTAB:=Aside0.mk hTAB
 clear hTAB
 have H : ((fk_strconv_Itoa.f k a0).bind fun t188 => (some t188)) = some r:=h
 clear h
 replace H:=Option.bind_eq_some_iff.mp H
 obtain ⟨t188,A20,H⟩:=H
 replace H : (some t188) = some r:=H
 have A2:=Aside0.mk A20
 clear A20
 obtain rfl:=Option.some.inj H
 go_enter Tryd.func45,Tryd.ntmps45
 go_wp2_with (first|((with_reducible refine gate_callee (f:=83) rfl ?_);refine goesL_ (some 4) rfl rfl Tryd.func83 (by kernel_rfl) rfl #[.int .i64 a0] rfl (by (try simp only [List.map_toArray,List.map_cons,List.map_nil]);first|done|rfl|(simp only [List.length_drop,List.length_take];rfl)) ?_;(with_reducible refine (fk_strconv_Itoa.calls k a0 t188 _ (tab_at HTAB.out (by repeat (first|(with_reducible first|exact HB.out|apply below_alloc|apply pw_below_drewN|apply below_drew1)|exact HB.out))) A2.out).mono ?_);rintro e w3 ⟨rfl,hb⟩;refine ⟨_,rfl,?_⟩;have n0_:=Aside0.mk (below_step (by repeat (first|(with_reducible first|exact HB.out|apply below_alloc|apply pw_below_drewN|apply below_drew1)|exact HB.out)) hb);clear HB;have HB:=n0_;clear n0_;(try clear hb)))
 go_ret
 exact ⟨by first|rfl|(simp [errW_none,errW_some] <;> rfl)|(simp [*,errW_none,errW_some] <;> rfl),by repeat (first|(with_reducible first|exact HB.out|apply below_alloc|apply pw_below_drewN|apply below_drew1)|exact HB.out)⟩
def impl_PredOf.f (k : Nat) (a0_0 : Int) (a0_1 : ByteArray) (a0_2 : Int) (l0_3 : List (S29)) : Option (ByteArray):=if a0_0 = 2 then (if a0_1.size + 1 ≤ 9223372036854775807 then ((impl_Decimal.f k (l0_3.length : Int)).bind fun t190 => (if (a0_1 ++ (⟨#[47]⟩ : ByteArray)).size + t190.size ≤ 9223372036854775807 then (some ((a0_1 ++ (⟨#[47]⟩ : ByteArray)) ++ t190)) else (none))) else (none)) else (if a0_0 = 4 then (if a0_1.size + 1 ≤ 9223372036854775807 then ((impl_Decimal.f k (l0_3.length : Int)).bind fun t191 => (if (a0_1 ++ (⟨#[47]⟩ : ByteArray)).size + t191.size ≤ 9223372036854775807 then (some ((a0_1 ++ (⟨#[47]⟩ : ByteArray)) ++ t191)) else (none))) else (none)) else (some (⟨#[]⟩ : ByteArray)))
theorem impl_PredOf.mono : ∀ a0 a1 a2 a3 k,LeO (impl_PredOf.f k a0 a1 a2 a3) (impl_PredOf.f (k + 1) a0 a1 a2 a3):=by
 intro a0 a1 a2 a3 k
 unfold impl_PredOf.f
 repeat' first
   | (with_reducible exact impl_Decimal.mono _ _)
   | (with_reducible exact LeO.refl _)
   | (with_reducible exact LeO.none _)
   | (with_reducible refine LeO.ite ?_ ?_)
   | (with_reducible refine LeO.bind ?_ (fun _ => ?_))
   | exact impl_Decimal.mono _ _
   | exact LeO.none _
   | refine LeO.ite ?_ ?_
   | refine LeO.bind ?_ (fun _ => ?_)
def impl_PredOf.T3 : Bool × List (List Nat × List Nat):=(true,[([],[]),([0],[0]),([1],[1]),([],[]),([3],[3]),([4],[4]),([5],[5]),([2,6],[2,6]),([7,6,0,1,2,3,4,5,6,7],[7])])
def impl_PredOf.B3 : List Nat:=[0,1,3,0,8,24,56,127,255]
theorem impl_PredOf.tab3 : rtab .any (opsOf Tryd.f13 3) = impl_PredOf.T3:=by kernel_rfl
theorem impl_PredOf.bits3 : waitsOk impl_PredOf.T3.2 impl_PredOf.B3 = true:=by kernel_rfl
set_option maxHeartbeats 8000000 in
set_option maxRecDepth 100000 in
theorem impl_PredOf.calls (k : Nat) (a0_0 : Int) (a0_1 : ByteArray) (a0_2 : Int) (A0_3 : Option Addr) (c0_3 : Nat) (l0_3 : List (S29)) (r : ByteArray) (w : World) (hTAB : Lib.TabBelow Tryd.prog w.heap.size w "internal/strconv.uint64pow10" .u64 Lib.pow10Tab) (hr0_3 : Kd.C k29 w A0_3 l0_3.length l0_3) (hc0_3 : l0_3.length ≤ c0_3) (h : impl_PredOf.f k a0_0 a0_1 a0_2 l0_3 = some r) :
  Calls Tryd.prog 13 #[.agg #[.int .i64 a0_0,.string a0_1,.int .i64 a0_2,.slice A0_3 l0_3.length c0_3]] w fun e w' => e = .returned (.string r) ∧ Below w.heap.size w w':=by
 have hu29:=Tryd.underlying29
 have HR0_3:=Aside0.mk hr0_3
 have HC0_3:=Aside0.mk hc0_3
 clear hr0_3 hc0_3
 have HB:=Aside0.mk (Below.refl w.heap.size w)
 have HTAB:=Aside0.mk hTAB
 clear hTAB
 have H : (if a0_0 = 2 then (if a0_1.size + 1 ≤ 9223372036854775807 then ((impl_Decimal.f k (l0_3.length : Int)).bind fun t190 => (if (a0_1 ++ (⟨#[47]⟩ : ByteArray)).size + t190.size ≤ 9223372036854775807 then (some ((a0_1 ++ (⟨#[47]⟩ : ByteArray)) ++ t190)) else (none))) else (none)) else (if a0_0 = 4 then (if a0_1.size + 1 ≤ 9223372036854775807 then ((impl_Decimal.f k (l0_3.length : Int)).bind fun t191 => (if (a0_1 ++ (⟨#[47]⟩ : ByteArray)).size + t191.size ≤ 9223372036854775807 then (some ((a0_1 ++ (⟨#[47]⟩ : ByteArray)) ++ t191)) else (none))) else (none)) else (some (⟨#[]⟩ : ByteArray)))) = some r:=h
 clear h
 by_cases c2 : a0_0 = 2
 ·rw [if_pos c2] at H
  have c2b0 : (a0_0 == 2) = true:=beq_iff_eq.mpr c2
  have c2b1 : (a0_0 != 2) = false:=bne_eq_false_iff_eq.mpr c2
  clear c2
  by_cases c3 : a0_1.size + 1 ≤ 9223372036854775807
  rotate_left
  ·rw [if_neg c3] at H
   exact absurd H (by simp)
  rw [if_pos c3] at H
  have c3b0:=eq_true c3
  have c3b1 : decide (a0_1.size + 1 ≤ 9223372036854775807) = true:=decide_eq_true c3
  try have c3b2 : (9223372036854775807 < a0_1.size + 1) = False:=eq_false (Nat.not_lt.2 c3)
  replace H:=Option.bind_eq_some_iff.mp H
  obtain ⟨t190,A40,H⟩:=H
  replace H : (if (a0_1 ++ (⟨#[47]⟩ : ByteArray)).size + t190.size ≤ 9223372036854775807 then (some ((a0_1 ++ (⟨#[47]⟩ : ByteArray)) ++ t190)) else (none)) = some r:=H
  have A4:=Aside0.mk A40
  clear A40
  by_cases c5 : (a0_1 ++ (⟨#[47]⟩ : ByteArray)).size + t190.size ≤ 9223372036854775807
  rotate_left
  ·rw [if_neg c5] at H
   exact absurd H (by simp)
  rw [if_pos c5] at H
  have c5b0:=eq_true c5
  have c5b1 : decide ((a0_1 ++ (⟨#[47]⟩ : ByteArray)).size + t190.size ≤ 9223372036854775807) = true:=decide_eq_true c5
  try have c5b2 : (9223372036854775807 < (a0_1 ++ (⟨#[47]⟩ : ByteArray)).size + t190.size) = False:=eq_false (Nat.not_lt.2 c5)
  try have c5b3 : (9223372036854775807 < a0_1.size + 1 + t190.size) = False:=by rw [ByteArray.size_append] at c5b2;exact c5b2
  obtain rfl:=Option.some.inj H
  go_enter Tryd.func13,Tryd.ntmps13
  try go_wp2_with (first|((with_reducible refine gate_dst (N:=1) rfl ?_);refine box_event ?hg (N:=1) ?hd (cs:=#[.int .i64 a0_0,.string a0_1,.int .i64 a0_2,.slice A0_3 l0_3.length c0_3]) (t:=29) ?hr ?_;(case hd => rfl);(case hg => rfl);(case hr => first|(go_simp;done)|(go_simp;rfl));intro gb189 hg w6 hbox hb;have n0_:=Aside0.mk (below_step (by repeat (first|(with_reducible first|exact HB.out|apply below_alloc|apply pw_below_drewN|apply below_drew1)|exact HB.out)) hb);have n1_:=Aside0.mk (hbox);have n2_:=Aside0.mk ((by rw [hg];exact (below_size (by repeat (first|(with_reducible first|exact HB.out|apply below_alloc|apply pw_below_drewN|apply below_drew1)|exact HB.out))) : w.heap.size ≤ gb189));have n3_:=Aside0.mk ((by rw [hg];exact (below_size (by repeat (first|(with_reducible first|exact HB.out|apply below_alloc|apply pw_below_drewN|apply below_drew1)|exact HB.out))) : w.heap.size ≤ gb189));clear HB;have HB:=n0_;have BK189:=n1_;have GW189:=n2_;have GE189:=n3_;clear n0_ n1_ n2_ n3_;clear hb hbox hg;have hcz7_0 : w6.cell? ⟨gb189,0,none⟩ = some (.int .i64 a0_0):=(blk_cell BK189.out 0).trans rfl;have hcz7_1 : w6.cell? ⟨gb189,1,none⟩ = some (.string a0_1):=(blk_cell BK189.out 1).trans rfl;have hcz7_2 : w6.cell? ⟨gb189,2,none⟩ = some (.int .i64 a0_2):=(blk_cell BK189.out 2).trans rfl;have hcz7_3 : w6.cell? ⟨gb189,3,none⟩ = some (.slice A0_3 l0_3.length c0_3):=(blk_cell BK189.out 3).trans rfl;have hfz7_0:=blk_frozen BK189.out 0;have hfz7_1:=blk_frozen BK189.out 1;have hfz7_2:=blk_frozen BK189.out 2;have hfz7_3:=blk_frozen BK189.out 3))
  have n0_:=Aside0.mk (blk_drew BK189.out)
  have n1_:=Aside0.mk (below_drew1 HB.out)
  clear BK189
  clear HB
  have BK189:=n0_
  have HB:=n1_
  clear n0_ n1_
  refine start_ (n:=9) (S:=fun w' => w'.cell? ⟨gb189,0,none⟩ = some (.int .i64 a0_0) ∧ w'.cell? ⟨gb189,1,none⟩ = some (.string a0_1) ∧ w'.cell? ⟨gb189,2,none⟩ = some (.int .i64 a0_2) ∧ w'.cell? ⟨gb189,3,none⟩ = some (.slice A0_3 l0_3.length c0_3)) (ds:=[]) #[false,false,false,false,false,false,false,false,false] (by kernel_rfl) rfl rfl ⟨(blk_cell BK189.out 0).trans rfl,(blk_cell BK189.out 1).trans rfl,(blk_cell BK189.out 2).trans rfl,(blk_cell BK189.out 3).trans rfl⟩ (fun hHeld => ?_);refine with_tabW impl_PredOf.tab3 impl_PredOf.bits3 (fun HT_ HW_ => ?_)
  generalize w6.drew = w8 at BK189 HB hHeld ⊢
  refine pure_ (i:=0) (N:=some 11) (v:=?_) (a':=?_) #[true,false,false,false,false,false,false,false,false] rfl rfl (any_of HT_.out (by kernel_rfl)) (fun _ _ _ h => h) (Or.inl ⟨by rfl,?_⟩) ?_ ?_
  rotate_left
  ·intro w'
   go_simp
   with_reducible rfl
  rotate_left
  ·simp only [Act.put,List.setIfInBounds_toArray,List.set_cons_zero,List.set_cons_succ,i64_w,i32_w]
   rfl
  refine pure_ (i:=3) (N:=some 14) (v:=?_) (a':=?_) #[true,false,false,true,false,false,false,false,false] rfl rfl (any_of HT_.out (by kernel_rfl)) (fun _ _ _ h => h) (Or.inl ⟨by rfl,?_⟩) ?_ ?_
  rotate_left
  ·intro w'
   go_simp
   with_reducible rfl
  rotate_left
  ·simp only [Act.put,List.setIfInBounds_toArray,List.set_cons_zero,List.set_cons_succ,i64_w,i32_w]
   rfl
  refine take_ (i:=1) (N:=some 12) (v:=?_) (a':=?_) #[true,true,false,true,false,false,false,false,false] rfl rfl (take_ofW HT_.out HW_.out (by kernel_rfl)) (fun _ _ _ h => h) (Or.inl ⟨by rfl,?_⟩) hHeld ?_ ?_
  rotate_left
  ·rintro w' ⟨s0,s1,s2,s3⟩
   go_simp
   with_reducible rfl
  rotate_left
  ·simp only [Act.put,List.setIfInBounds_toArray,List.set_cons_zero,List.set_cons_succ,i64_w,i32_w]
   rfl
  refine pure_ (i:=2) (N:=some 13) (v:=?_) (a':=?_) #[true,true,true,true,false,false,false,false,false] rfl rfl (any_of HT_.out (by kernel_rfl)) (fun _ _ _ h => h) (Or.inl ⟨by rfl,?_⟩) ?_ ?_
  rotate_left
  ·intro w'
   go_simp
   with_reducible rfl
  rotate_left
  ·simp only [Act.put,List.setIfInBounds_toArray,List.set_cons_zero,List.set_cons_succ,i64_w,i32_w]
   rfl
  refine take_ (i:=4) (N:=some 15) (v:=?_) (a':=?_) #[true,true,true,true,true,false,false,false,false] rfl rfl (take_ofW HT_.out HW_.out (by kernel_rfl)) (fun _ _ _ h => h) (Or.inl ⟨by rfl,?_⟩) hHeld ?_ ?_
  rotate_left
  ·rintro w' ⟨s0,s1,s2,s3⟩
   go_simp
   with_reducible rfl
  rotate_left
  ·simp only [Act.put,List.setIfInBounds_toArray,List.set_cons_zero,List.set_cons_succ,i64_w,i32_w]
   rfl
  refine pure_ (i:=5) (N:=some 16) (v:=?_) (a':=?_) #[true,true,true,true,true,true,false,false,false] rfl rfl (any_of HT_.out (by kernel_rfl)) (fun _ _ _ h => h) (Or.inl ⟨by rfl,?_⟩) ?_ ?_
  rotate_left
  ·intro w'
   go_simp
   with_reducible rfl
  rotate_left
  ·simp only [Act.put,List.setIfInBounds_toArray,List.set_cons_zero,List.set_cons_succ,i64_w,i32_w]
   rfl
  refine one_ (i:=6) (N:=some 17) #[true,true,true,true,true,true,true,false,false] rfl rfl (one_of HT_.out (by kernel_rfl)) (by decide) (fun K hK => ?_)
  refine goes_ Tryd.func45 (by kernel_rfl) rfl #[.int .i64 (l0_3.length : Int)] (by rfl) rfl rfl (by (try simp only [List.map_toArray,List.map_cons,List.map_nil]);first|done|rfl|(simp only [List.length_drop,List.length_take];rfl)) ?_
  with_reducible refine (impl_Decimal.calls k (l0_3.length : Int) t190 _ (tab_at HTAB.out (by repeat (first|(with_reducible first|exact HB.out|apply below_alloc|apply pw_below_drewN|apply below_drew1|refine below_set ?_ GE189.out)|exact HB.out))) A4.out).mono ?_
  rintro e w9 ⟨rfl,hb⟩
  refine ⟨_,rfl,?_⟩
  have n0_:=Aside0.mk (blk_below (g:=gb189) (o:=.cells #[.int .i64 a0_0,.string a0_1,.int .i64 a0_2,.slice A0_3 l0_3.length c0_3] 29 (0,0)) (by (with_reducible repeat (first|refine blk_drewN ?_ _|refine blk_drew ?_|refine blk_alloc ?_ _));exact BK189.out) hb)
  have n1_:=Aside0.mk (below_step (by repeat (first|(with_reducible first|exact HB.out|apply below_alloc|apply pw_below_drewN|apply below_drew1|refine below_set ?_ GE189.out)|exact HB.out)) hb)
  clear BK189
  clear HB
  have BK189:=n0_
  have HB:=n1_
  clear n0_ n1_
  (try clear hb)
  refine hK.out _ _ ⟨(blk_cell BK189.out 0).trans rfl,(blk_cell BK189.out 1).trans rfl,(blk_cell BK189.out 2).trans rfl,(blk_cell BK189.out 3).trans rfl⟩ (fun hHeld => ?_)
  clear hK K
  refine norm_ (a':=?_) ?_ ?_
  rotate_left
  ·show Act.put _ (some 17) _ = _
   simp only [Act.put,List.setIfInBounds_toArray,List.set_cons_zero,List.set_cons_succ,i64_w,i32_w]
   rfl
  refine pure_ (i:=7) (N:=some 18) (v:=?_) (a':=?_) #[true,true,true,true,true,true,true,true,false] rfl rfl (any_of HT_.out (by kernel_rfl)) (fun _ _ _ h => h) (Or.inl ⟨by rfl,?_⟩) ?_ ?_
  rotate_left
  ·intro w'
   go_simp
   with_reducible rfl
  rotate_left
  ·simp only [Act.put,List.setIfInBounds_toArray,List.set_cons_zero,List.set_cons_succ,i64_w,i32_w]
   rfl
  refine pure_ (i:=8) (N:=some 2) (v:=?_) (a':=?_) #[true,true,true,true,true,true,true,true,true] rfl rfl (any_of HT_.out (by kernel_rfl)) (fun _ _ _ h => h) (Or.inl ⟨by rfl,?_⟩) ?_ ?_
  rotate_left
  ·intro w'
   go_simp
   with_reducible rfl
  rotate_left
  ·simp only [Act.put,List.setIfInBounds_toArray,List.set_cons_zero,List.set_cons_succ,i64_w,i32_w]
   rfl
  refine done_ (done_of HT_.out (by kernel_rfl)) ?_
  try go_wp2
  go_ret
  exact ⟨by first|rfl|(simp [errW_none,errW_some] <;> rfl)|(simp [*,errW_none,errW_some] <;> rfl),by repeat (first|(with_reducible first|exact HB.out|apply below_alloc|apply pw_below_drewN|apply below_drew1|refine below_set ?_ GE189.out)|exact HB.out)⟩
 ·rw [if_neg c2] at H
  have c2b0 : (a0_0 == 2) = false:=beq_eq_false_iff_ne.mpr c2
  have c2b1 : (a0_0 != 2) = true:=bne_iff_ne.mpr c2
  by_cases c10 : a0_0 = 4
  ·rw [if_pos c10] at H
   have c10b0 : (a0_0 == 4) = true:=beq_iff_eq.mpr c10
   have c10b1 : (a0_0 != 4) = false:=bne_eq_false_iff_eq.mpr c10
   clear c10
   by_cases c11 : a0_1.size + 1 ≤ 9223372036854775807
   rotate_left
   ·rw [if_neg c11] at H
    exact absurd H (by simp)
   rw [if_pos c11] at H
   have c11b0:=eq_true c11
   have c11b1 : decide (a0_1.size + 1 ≤ 9223372036854775807) = true:=decide_eq_true c11
   try have c11b2 : (9223372036854775807 < a0_1.size + 1) = False:=eq_false (Nat.not_lt.2 c11)
   replace H:=Option.bind_eq_some_iff.mp H
   obtain ⟨t191,A120,H⟩:=H
   replace H : (if (a0_1 ++ (⟨#[47]⟩ : ByteArray)).size + t191.size ≤ 9223372036854775807 then (some ((a0_1 ++ (⟨#[47]⟩ : ByteArray)) ++ t191)) else (none)) = some r:=H
   have A12:=Aside0.mk A120
   clear A120
   by_cases c13 : (a0_1 ++ (⟨#[47]⟩ : ByteArray)).size + t191.size ≤ 9223372036854775807
   rotate_left
   ·rw [if_neg c13] at H
    exact absurd H (by simp)
   rw [if_pos c13] at H
   have c13b0:=eq_true c13
   have c13b1 : decide ((a0_1 ++ (⟨#[47]⟩ : ByteArray)).size + t191.size ≤ 9223372036854775807) = true:=decide_eq_true c13
   try have c13b2 : (9223372036854775807 < (a0_1 ++ (⟨#[47]⟩ : ByteArray)).size + t191.size) = False:=eq_false (Nat.not_lt.2 c13)
   try have c13b3 : (9223372036854775807 < a0_1.size + 1 + t191.size) = False:=by rw [ByteArray.size_append] at c13b2;exact c13b2
   obtain rfl:=Option.some.inj H
   go_enter Tryd.func13,Tryd.ntmps13
   try go_wp2_with (first|((with_reducible refine gate_dst (N:=1) rfl ?_);refine box_event ?hg (N:=1) ?hd (cs:=#[.int .i64 a0_0,.string a0_1,.int .i64 a0_2,.slice A0_3 l0_3.length c0_3]) (t:=29) ?hr ?_;(case hd => rfl);(case hg => rfl);(case hr => first|(go_simp;done)|(go_simp;rfl));intro gb189 hg w14 hbox hb;have n0_:=Aside0.mk (below_step (by repeat (first|(with_reducible first|exact HB.out|apply below_alloc|apply pw_below_drewN|apply below_drew1)|exact HB.out)) hb);have n1_:=Aside0.mk (hbox);have n2_:=Aside0.mk ((by rw [hg];exact (below_size (by repeat (first|(with_reducible first|exact HB.out|apply below_alloc|apply pw_below_drewN|apply below_drew1)|exact HB.out))) : w.heap.size ≤ gb189));have n3_:=Aside0.mk ((by rw [hg];exact (below_size (by repeat (first|(with_reducible first|exact HB.out|apply below_alloc|apply pw_below_drewN|apply below_drew1)|exact HB.out))) : w.heap.size ≤ gb189));clear HB;have HB:=n0_;have BK189:=n1_;have GW189:=n2_;have GE189:=n3_;clear n0_ n1_ n2_ n3_;clear hb hbox hg;have hcz15_0 : w14.cell? ⟨gb189,0,none⟩ = some (.int .i64 a0_0):=(blk_cell BK189.out 0).trans rfl;have hcz15_1 : w14.cell? ⟨gb189,1,none⟩ = some (.string a0_1):=(blk_cell BK189.out 1).trans rfl;have hcz15_2 : w14.cell? ⟨gb189,2,none⟩ = some (.int .i64 a0_2):=(blk_cell BK189.out 2).trans rfl;have hcz15_3 : w14.cell? ⟨gb189,3,none⟩ = some (.slice A0_3 l0_3.length c0_3):=(blk_cell BK189.out 3).trans rfl;have hfz15_0:=blk_frozen BK189.out 0;have hfz15_1:=blk_frozen BK189.out 1;have hfz15_2:=blk_frozen BK189.out 2;have hfz15_3:=blk_frozen BK189.out 3))
   have n0_:=Aside0.mk (blk_drew BK189.out)
   have n1_:=Aside0.mk (below_drew1 HB.out)
   clear BK189
   clear HB
   have BK189:=n0_
   have HB:=n1_
   clear n0_ n1_
   refine start_ (n:=9) (S:=fun w' => w'.cell? ⟨gb189,0,none⟩ = some (.int .i64 a0_0) ∧ w'.cell? ⟨gb189,1,none⟩ = some (.string a0_1) ∧ w'.cell? ⟨gb189,2,none⟩ = some (.int .i64 a0_2) ∧ w'.cell? ⟨gb189,3,none⟩ = some (.slice A0_3 l0_3.length c0_3)) (ds:=[]) #[false,false,false,false,false,false,false,false,false] (by kernel_rfl) rfl rfl ⟨(blk_cell BK189.out 0).trans rfl,(blk_cell BK189.out 1).trans rfl,(blk_cell BK189.out 2).trans rfl,(blk_cell BK189.out 3).trans rfl⟩ (fun hHeld => ?_);refine with_tabW impl_PredOf.tab3 impl_PredOf.bits3 (fun HT_ HW_ => ?_)
   generalize w14.drew = w16 at BK189 HB hHeld ⊢
   refine pure_ (i:=0) (N:=some 11) (v:=?_) (a':=?_) #[true,false,false,false,false,false,false,false,false] rfl rfl (any_of HT_.out (by kernel_rfl)) (fun _ _ _ h => h) (Or.inl ⟨by rfl,?_⟩) ?_ ?_
   rotate_left
   ·intro w'
    go_simp
    with_reducible rfl
   rotate_left
   ·simp only [Act.put,List.setIfInBounds_toArray,List.set_cons_zero,List.set_cons_succ,i64_w,i32_w]
    rfl
   refine pure_ (i:=3) (N:=some 14) (v:=?_) (a':=?_) #[true,false,false,true,false,false,false,false,false] rfl rfl (any_of HT_.out (by kernel_rfl)) (fun _ _ _ h => h) (Or.inl ⟨by rfl,?_⟩) ?_ ?_
   rotate_left
   ·intro w'
    go_simp
    with_reducible rfl
   rotate_left
   ·simp only [Act.put,List.setIfInBounds_toArray,List.set_cons_zero,List.set_cons_succ,i64_w,i32_w]
    rfl
   refine take_ (i:=1) (N:=some 12) (v:=?_) (a':=?_) #[true,true,false,true,false,false,false,false,false] rfl rfl (take_ofW HT_.out HW_.out (by kernel_rfl)) (fun _ _ _ h => h) (Or.inl ⟨by rfl,?_⟩) hHeld ?_ ?_
   rotate_left
   ·rintro w' ⟨s0,s1,s2,s3⟩
    go_simp
    with_reducible rfl
   rotate_left
   ·simp only [Act.put,List.setIfInBounds_toArray,List.set_cons_zero,List.set_cons_succ,i64_w,i32_w]
    rfl
   refine pure_ (i:=2) (N:=some 13) (v:=?_) (a':=?_) #[true,true,true,true,false,false,false,false,false] rfl rfl (any_of HT_.out (by kernel_rfl)) (fun _ _ _ h => h) (Or.inl ⟨by rfl,?_⟩) ?_ ?_
   rotate_left
   ·intro w'
    go_simp
    with_reducible rfl
   rotate_left
   ·simp only [Act.put,List.setIfInBounds_toArray,List.set_cons_zero,List.set_cons_succ,i64_w,i32_w]
    rfl
   refine take_ (i:=4) (N:=some 15) (v:=?_) (a':=?_) #[true,true,true,true,true,false,false,false,false] rfl rfl (take_ofW HT_.out HW_.out (by kernel_rfl)) (fun _ _ _ h => h) (Or.inl ⟨by rfl,?_⟩) hHeld ?_ ?_
   rotate_left
   ·rintro w' ⟨s0,s1,s2,s3⟩
    go_simp
    with_reducible rfl
   rotate_left
   ·simp only [Act.put,List.setIfInBounds_toArray,List.set_cons_zero,List.set_cons_succ,i64_w,i32_w]
    rfl
   refine pure_ (i:=5) (N:=some 16) (v:=?_) (a':=?_) #[true,true,true,true,true,true,false,false,false] rfl rfl (any_of HT_.out (by kernel_rfl)) (fun _ _ _ h => h) (Or.inl ⟨by rfl,?_⟩) ?_ ?_
   rotate_left
   ·intro w'
    go_simp
    with_reducible rfl
   rotate_left
   ·simp only [Act.put,List.setIfInBounds_toArray,List.set_cons_zero,List.set_cons_succ,i64_w,i32_w]
    rfl
   refine one_ (i:=6) (N:=some 17) #[true,true,true,true,true,true,true,false,false] rfl rfl (one_of HT_.out (by kernel_rfl)) (by decide) (fun K hK => ?_)
   refine goes_ Tryd.func45 (by kernel_rfl) rfl #[.int .i64 (l0_3.length : Int)] (by rfl) rfl rfl (by (try simp only [List.map_toArray,List.map_cons,List.map_nil]);first|done|rfl|(simp only [List.length_drop,List.length_take];rfl)) ?_
   with_reducible refine (impl_Decimal.calls k (l0_3.length : Int) t191 _ (tab_at HTAB.out (by repeat (first|(with_reducible first|exact HB.out|apply below_alloc|apply pw_below_drewN|apply below_drew1|refine below_set ?_ GE189.out)|exact HB.out))) A12.out).mono ?_
   rintro e w17 ⟨rfl,hb⟩
   refine ⟨_,rfl,?_⟩
   have n0_:=Aside0.mk (blk_below (g:=gb189) (o:=.cells #[.int .i64 a0_0,.string a0_1,.int .i64 a0_2,.slice A0_3 l0_3.length c0_3] 29 (0,0)) (by (with_reducible repeat (first|refine blk_drewN ?_ _|refine blk_drew ?_|refine blk_alloc ?_ _));exact BK189.out) hb)
   have n1_:=Aside0.mk (below_step (by repeat (first|(with_reducible first|exact HB.out|apply below_alloc|apply pw_below_drewN|apply below_drew1|refine below_set ?_ GE189.out)|exact HB.out)) hb)
   clear BK189
   clear HB
   have BK189:=n0_
   have HB:=n1_
   clear n0_ n1_
   (try clear hb)
   refine hK.out _ _ ⟨(blk_cell BK189.out 0).trans rfl,(blk_cell BK189.out 1).trans rfl,(blk_cell BK189.out 2).trans rfl,(blk_cell BK189.out 3).trans rfl⟩ (fun hHeld => ?_)
   clear hK K
   refine norm_ (a':=?_) ?_ ?_
   rotate_left
   ·show Act.put _ (some 17) _ = _
    simp only [Act.put,List.setIfInBounds_toArray,List.set_cons_zero,List.set_cons_succ,i64_w,i32_w]
    rfl
   refine pure_ (i:=7) (N:=some 18) (v:=?_) (a':=?_) #[true,true,true,true,true,true,true,true,false] rfl rfl (any_of HT_.out (by kernel_rfl)) (fun _ _ _ h => h) (Or.inl ⟨by rfl,?_⟩) ?_ ?_
   rotate_left
   ·intro w'
    go_simp
    with_reducible rfl
   rotate_left
   ·simp only [Act.put,List.setIfInBounds_toArray,List.set_cons_zero,List.set_cons_succ,i64_w,i32_w]
    rfl
   refine pure_ (i:=8) (N:=some 2) (v:=?_) (a':=?_) #[true,true,true,true,true,true,true,true,true] rfl rfl (any_of HT_.out (by kernel_rfl)) (fun _ _ _ h => h) (Or.inl ⟨by rfl,?_⟩) ?_ ?_
   rotate_left
   ·intro w'
    go_simp
    with_reducible rfl
   rotate_left
   ·simp only [Act.put,List.setIfInBounds_toArray,List.set_cons_zero,List.set_cons_succ,i64_w,i32_w]
    rfl
   refine done_ (done_of HT_.out (by kernel_rfl)) ?_
   try go_wp2
   go_ret
   exact ⟨by first|rfl|(simp [errW_none,errW_some] <;> rfl)|(simp [*,errW_none,errW_some] <;> rfl),by repeat (first|(with_reducible first|exact HB.out|apply below_alloc|apply pw_below_drewN|apply below_drew1|refine below_set ?_ GE189.out)|exact HB.out)⟩
  ·rw [if_neg c10] at H
   have c10b0 : (a0_0 == 4) = false:=beq_eq_false_iff_ne.mpr c10
   have c10b1 : (a0_0 != 4) = true:=bne_iff_ne.mpr c10
   obtain rfl:=Option.some.inj H
   go_enter Tryd.func13,Tryd.ntmps13
   go_wp2_with (first|((with_reducible refine gate_dst (N:=1) rfl ?_);refine box_event ?hg (N:=1) ?hd (cs:=#[.int .i64 a0_0,.string a0_1,.int .i64 a0_2,.slice A0_3 l0_3.length c0_3]) (t:=29) ?hr ?_;(case hd => rfl);(case hg => rfl);(case hr => first|(go_simp;done)|(go_simp;rfl));intro gb189 hg w18 hbox hb;have n0_:=Aside0.mk (below_step (by repeat (first|(with_reducible first|exact HB.out|apply below_alloc|apply pw_below_drewN|apply below_drew1)|exact HB.out)) hb);have n1_:=Aside0.mk (hbox);have n2_:=Aside0.mk ((by rw [hg];exact (below_size (by repeat (first|(with_reducible first|exact HB.out|apply below_alloc|apply pw_below_drewN|apply below_drew1)|exact HB.out))) : w.heap.size ≤ gb189));have n3_:=Aside0.mk ((by rw [hg];exact (below_size (by repeat (first|(with_reducible first|exact HB.out|apply below_alloc|apply pw_below_drewN|apply below_drew1)|exact HB.out))) : w.heap.size ≤ gb189));clear HB;have HB:=n0_;have BK189:=n1_;have GW189:=n2_;have GE189:=n3_;clear n0_ n1_ n2_ n3_;clear hb hbox hg;have hcz19_0 : w18.cell? ⟨gb189,0,none⟩ = some (.int .i64 a0_0):=(blk_cell BK189.out 0).trans rfl;have hcz19_1 : w18.cell? ⟨gb189,1,none⟩ = some (.string a0_1):=(blk_cell BK189.out 1).trans rfl;have hcz19_2 : w18.cell? ⟨gb189,2,none⟩ = some (.int .i64 a0_2):=(blk_cell BK189.out 2).trans rfl;have hcz19_3 : w18.cell? ⟨gb189,3,none⟩ = some (.slice A0_3 l0_3.length c0_3):=(blk_cell BK189.out 3).trans rfl;have hfz19_0:=blk_frozen BK189.out 0;have hfz19_1:=blk_frozen BK189.out 1;have hfz19_2:=blk_frozen BK189.out 2;have hfz19_3:=blk_frozen BK189.out 3))
   go_ret
   exact ⟨by first|rfl|(simp [errW_none,errW_some] <;> rfl)|(simp [*,errW_none,errW_some] <;> rfl),by repeat (first|(with_reducible first|exact HB.out|apply below_alloc|apply pw_below_drewN|apply below_drew1|refine below_set ?_ GE189.out)|exact HB.out)⟩
def slices_Index_string_string.l0 : Nat → List ByteArray → ByteArray → Int → Int → Option (Int)
 | 0,_,_,_,_ => none
 | k + 1,x0,x1,x7,x8 => if x8 < x7 then (if 0 ≤ x8 then (if x8 < (x0.length : Int) then (if x1.toList = (rdOf ByteArray.empty x0 x8).toList then (some x8) else (slices_Index_string_string.l0 k x0 x1 x7 (wrap64 (x8 + 1)))) else (none)) else (none)) else (some (-1))
def slices_Index_string_string.f (k : Nat) (l0 : List ByteArray) (a1 : ByteArray) : Option (Int):=slices_Index_string_string.l0 k l0 a1 (l0.length : Int) 0
theorem slices_Index_string_string.mono_l : ∀ k,(∀ y0 y1 y2 y3,LeO (slices_Index_string_string.l0 k y0 y1 y2 y3) (slices_Index_string_string.l0 (k + 1) y0 y1 y2 y3))
 | 0 => fun _ _ _ _ r h => by simp [slices_Index_string_string.l0] at h
 | k + 1 => by
  have ih0:=slices_Index_string_string.mono_l k
  ·intro y0 y1 y2 y3
   unfold slices_Index_string_string.l0
   repeat' first
   | (with_reducible exact ih0 _ _ _ _)
   | (with_reducible exact LeO.refl _)
   | (with_reducible exact LeO.none _)
   | (with_reducible refine LeO.ite ?_ ?_)
   | (with_reducible refine LeO.bind ?_ (fun _ => ?_))
   | exact ih0 _ _ _ _
   | exact LeO.none _
   | refine LeO.ite ?_ ?_
   | refine LeO.bind ?_ (fun _ => ?_)
theorem slices_Index_string_string.mono : ∀ a0 a1 k,LeO (slices_Index_string_string.f k a0 a1) (slices_Index_string_string.f (k + 1) a0 a1):=by
 intro a0 a1 k
 have ih0:=slices_Index_string_string.mono_l k
 unfold slices_Index_string_string.f
 repeat' first
   | (with_reducible exact ih0 _ _ _ _)
   | (with_reducible exact LeO.refl _)
   | (with_reducible exact LeO.none _)
   | (with_reducible refine LeO.ite ?_ ?_)
   | (with_reducible refine LeO.bind ?_ (fun _ => ?_))
   | exact ih0 _ _ _ _
   | exact LeO.none _
   | refine LeO.ite ?_ ?_
   | refine LeO.bind ?_ (fun _ => ?_)
set_option maxHeartbeats 8000000 in
set_option maxRecDepth 100000 in
theorem slices_Index_string_string.calls (k : Nat) (A0 : Option Addr) (c0 : Nat) (l0 : List ByteArray) (a1 : ByteArray) (r : Int) (w : World) (hr0 : Kd.C Kd.string w A0 l0.length l0) (hc0 : l0.length ≤ c0) (h : slices_Index_string_string.f k l0 a1 = some r) :
  Calls Tryd.prog 84 #[.slice A0 l0.length c0,.string a1] w fun e w' => e = .returned (.int .i64 r) ∧ Drawn0 w w':=by
 have HR0:=Aside0.mk hr0
 have HC0:=Aside0.mk hc0
 clear hr0 hc0
 have H : (slices_Index_string_string.l0 k l0 a1 (l0.length : Int) 0) = some r:=h
 clear h
 have H':=Aside0.mk H
 clear H
 go_enter Tryd.func84,Tryd.ntmps84
 go_wp2
 go_loopg [8] k (fun kq v8 w' => ∃ (x8_1 : Int),v8 = .int .i64 x8_1 ∧ Aside0 (slices_Index_string_string.l0 kq l0 a1 (l0.length : Int) x8_1 = some r) ∧ Aside0 (kq ≤ k) ∧ Drawn0 w w')
 case atStart => exact ⟨(0),(by first|rfl|(simp;done)|(simp [*];done)),H',⟨Nat.le_refl _⟩,by repeat (first|exact Drawn0.refl _|apply Drawn0.step)⟩
 case round =>
  clear H'
  obtain ⟨x8_1,rfl,HA,HK1,⟨m1,rfl⟩⟩:=hrel
  cases gk with
  | zero => exact absurd HA.out (by simp [slices_Index_string_string.l0])
  | succ k1 =>
   have H:=HA.out
   clear HA
   simp only [slices_Index_string_string.l0] at H
   by_cases c3 : x8_1 < (l0.length : Int)
   ·rw [if_pos c3] at H
    have c3b0 : decide (x8_1 < (l0.length : Int)) = true:=decide_eq_true c3
    clear c3
    by_cases c4 : 0 ≤ x8_1
    rotate_left
    ·rw [if_neg c4] at H
     exact absurd H (by simp)
    rw [if_pos c4] at H
    have c4b0 : decide (0 ≤ x8_1) = true:=decide_eq_true c4
    clear c4
    by_cases c5 : x8_1 < (l0.length : Int)
    rotate_left
    ·rw [if_neg c5] at H
     exact absurd H (by simp)
    rw [if_pos c5] at H
    have c5b0 : decide (x8_1 < (l0.length : Int)) = true:=decide_eq_true c5
    clear c5
    by_cases c6 : a1.toList = (rdOf ByteArray.empty l0 x8_1).toList
    ·rw [if_pos c6] at H
     have c6b0 : (a1.toList == (rdOf ByteArray.empty l0 x8_1).toList) = true:=beq_iff_eq.mpr c6
     have c6b1 : (a1.toList != (rdOf ByteArray.empty l0 x8_1).toList) = false:=bne_eq_false_iff_eq.mpr c6
     clear c6
     obtain rfl:=Option.some.inj H
     have p192 : 0 ≤ (x8_1 : Int):=of_decide_eq_true (by first|(with_reducible assumption)|assumption)
     have q192 : x8_1 < (l0.length : Int):=of_decide_eq_true (by first|(with_reducible assumption)|assumption)
     obtain ⟨ad192,e192,hx192_0⟩:=Kd.at_string HR0.out x8_1 p192 q192
     cases e192
     replace p192:=eq_true p192
     replace q192:=eq_true q192
     go_wp2
     go_ret
     exact ⟨by first|rfl|(simp;done)|(simp [*];done),by repeat (first|exact Drawn0.refl _|apply Drawn0.step)⟩
    ·rw [if_neg c6] at H
     have c6b0 : (a1.toList == (rdOf ByteArray.empty l0 x8_1).toList) = false:=beq_eq_false_iff_ne.mpr c6
     have c6b1 : (a1.toList != (rdOf ByteArray.empty l0 x8_1).toList) = true:=bne_iff_ne.mpr c6
     have H':=Aside0.mk H
     clear H
     have p192 : 0 ≤ (x8_1 : Int):=of_decide_eq_true (by first|(with_reducible assumption)|assumption)
     have q192 : x8_1 < (l0.length : Int):=of_decide_eq_true (by first|(with_reducible assumption)|assumption)
     obtain ⟨ad192,e192,hx192_0⟩:=Kd.at_string HR0.out x8_1 p192 q192
     cases e192
     replace p192:=eq_true p192
     replace q192:=eq_true q192
     go_wp2
     go_roundg k1
     case measure => have:=HK1.out;omega
     case rel => exact ⟨(wrap64 (x8_1 + 1)),(by first|rfl|(simp;done)|(simp [*];done)),H',⟨by have:=HK1.out;omega⟩,by repeat (first|exact Drawn0.refl _|apply Drawn0.step)⟩
   ·rw [if_neg c3] at H
    have c3b0 : decide (x8_1 < (l0.length : Int)) = false:=decide_eq_false c3
    clear c3
    obtain rfl:=Option.some.inj H
    go_wp2
    go_ret
    exact ⟨by first|rfl|(simp;done)|(simp [*];done),by repeat (first|exact Drawn0.refl _|apply Drawn0.step)⟩
def slices_Contains_string_string.f (k : Nat) (l0 : List ByteArray) (a1 : ByteArray) : Option (Bool):=(slices_Index_string_string.f k l0 a1).bind fun t193 => (some (decide (t193 ≥ 0)))
theorem slices_Contains_string_string.mono : ∀ a0 a1 k,LeO (slices_Contains_string_string.f k a0 a1) (slices_Contains_string_string.f (k + 1) a0 a1):=by
 intro a0 a1 k
 unfold slices_Contains_string_string.f
 repeat' first
   | (with_reducible exact slices_Index_string_string.mono _ _ _)
   | (with_reducible exact LeO.refl _)
   | (with_reducible exact LeO.none _)
   | (with_reducible refine LeO.ite ?_ ?_)
   | (with_reducible refine LeO.bind ?_ (fun _ => ?_))
   | exact slices_Index_string_string.mono _ _ _
   | exact LeO.none _
   | refine LeO.ite ?_ ?_
   | refine LeO.bind ?_ (fun _ => ?_)
set_option maxHeartbeats 8000000 in
set_option maxRecDepth 100000 in
theorem slices_Contains_string_string.calls (k : Nat) (A0 : Option Addr) (c0 : Nat) (l0 : List ByteArray) (a1 : ByteArray) (r : Bool) (w : World) (hr0 : Kd.C Kd.string w A0 l0.length l0) (hc0 : l0.length ≤ c0) (h : slices_Contains_string_string.f k l0 a1 = some r) :
  Calls Tryd.prog 51 #[.slice A0 l0.length c0,.string a1] w fun e w' => e = .returned (.bool r) ∧ Drawn0 w w':=by
 have HR0:=Aside0.mk hr0
 have HC0:=Aside0.mk hc0
 clear hr0 hc0
 have H : ((slices_Index_string_string.f k l0 a1).bind fun t193 => (some (decide (t193 ≥ 0)))) = some r:=h
 clear h
 replace H:=Option.bind_eq_some_iff.mp H
 obtain ⟨t193,A30,H⟩:=H
 replace H : (some (decide (t193 ≥ 0))) = some r:=H
 have A3:=Aside0.mk A30
 clear A30
 obtain rfl:=Option.some.inj H
 go_enter Tryd.func51,Tryd.ntmps51
 go_wp2_with (first|((with_reducible refine gate_callee (f:=84) rfl ?_);refine goesL_ (some 7) rfl rfl Tryd.func84 (by kernel_rfl) rfl #[.slice A0 l0.length c0,.string a1] rfl (by (try simp only [List.map_toArray,List.map_cons,List.map_nil]);first|done|rfl|(simp only [List.length_drop,List.length_take];rfl)) ?_;(with_reducible refine (slices_Index_string_string.calls k _ _ l0 a1 t193 _ ?side1 ?side2 A3.out).mono ?_);(case side1 => repeat (first|exact HR0.out|(with_reducible refine Kd.C_alloc ?_ _)|(with_reducible refine Kd.C_drewN ?_ _)|(with_reducible refine Kd.C_drew ?_)));(case side2 => exact HC0.out);rintro e w' ⟨rfl,⟨nd,rfl⟩⟩;refine ⟨_,rfl,?_⟩))
 go_ret
 exact ⟨by first|rfl|(simp;done)|(simp [*];done),by repeat (first|exact Drawn0.refl _|apply Drawn0.step)⟩
def impl_Control.f (k : Nat) (a0 : ByteArray) : Option (Bool):=(slices_Contains_string_string.f k (([(⟨#[116,114,117,101,47,48]⟩ : ByteArray),(⟨#[102,97,105,108,47,48]⟩ : ByteArray),(⟨#[33,47,48]⟩ : ByteArray),(⟨#[44,47,50]⟩ : ByteArray),(⟨#[59,47,50]⟩ : ByteArray),(⟨#[45,62,47,50]⟩ : ByteArray),(⟨#[92,43,47,49]⟩ : ByteArray),(⟨#[99,97,108,108,47,49]⟩ : ByteArray),(⟨#[99,97,108,108,47,50]⟩ : ByteArray),(⟨#[99,97,108,108,47,51]⟩ : ByteArray),(⟨#[99,97,116,99,104,47,51]⟩ : ByteArray),(⟨#[116,104,114,111,119,47,49]⟩ : ByteArray),(⟨#[61,47,50]⟩ : ByteArray),(⟨#[92,61,47,50]⟩ : ByteArray),(⟨#[61,61,47,50]⟩ : ByteArray),(⟨#[105,115,47,50]⟩ : ByteArray),(⟨#[60,47,50]⟩ : ByteArray),(⟨#[61,58,61,47,50]⟩ : ByteArray),(⟨#[118,97,114,47,49]⟩ : ByteArray),(⟨#[97,116,111,109,47,49]⟩ : ByteArray),(⟨#[119,114,105,116,101,47,49]⟩ : ByteArray),(⟨#[97,115,115,101,114,116,122,47,49]⟩ : ByteArray),(⟨#[114,101,116,114,97,99,116,47,49]⟩ : ByteArray),(⟨#[58,45,47,50]⟩ : ByteArray),(⟨#[58,45,47,49]⟩ : ByteArray),(⟨#[45,45,62,47,50]⟩ : ByteArray)] : List ByteArray)) a0).bind fun t197 => (some t197)
theorem impl_Control.mono : ∀ a0 k,LeO (impl_Control.f k a0) (impl_Control.f (k + 1) a0):=by
 intro a0 k
 unfold impl_Control.f
 repeat' first
   | (with_reducible exact slices_Contains_string_string.mono _ _ _)
   | (with_reducible exact LeO.refl _)
   | (with_reducible exact LeO.none _)
   | (with_reducible refine LeO.ite ?_ ?_)
   | (with_reducible refine LeO.bind ?_ (fun _ => ?_))
   | exact slices_Contains_string_string.mono _ _ _
   | exact LeO.none _
   | refine LeO.ite ?_ ?_
   | refine LeO.bind ?_ (fun _ => ?_)
set_option maxHeartbeats 8000000 in
set_option maxRecDepth 100000 in
theorem impl_Control.calls (k : Nat) (a0 : ByteArray) (r : Bool) (w : World) (h : impl_Control.f k a0 = some r) :
  Calls Tryd.prog 80 #[.string a0] w fun e w' => e = .returned (.bool r) ∧ Below w.heap.size w w':=by
 have HB:=Aside0.mk (Below.refl w.heap.size w)
 have H : ((slices_Contains_string_string.f k (([(⟨#[116,114,117,101,47,48]⟩ : ByteArray),(⟨#[102,97,105,108,47,48]⟩ : ByteArray),(⟨#[33,47,48]⟩ : ByteArray),(⟨#[44,47,50]⟩ : ByteArray),(⟨#[59,47,50]⟩ : ByteArray),(⟨#[45,62,47,50]⟩ : ByteArray),(⟨#[92,43,47,49]⟩ : ByteArray),(⟨#[99,97,108,108,47,49]⟩ : ByteArray),(⟨#[99,97,108,108,47,50]⟩ : ByteArray),(⟨#[99,97,108,108,47,51]⟩ : ByteArray),(⟨#[99,97,116,99,104,47,51]⟩ : ByteArray),(⟨#[116,104,114,111,119,47,49]⟩ : ByteArray),(⟨#[61,47,50]⟩ : ByteArray),(⟨#[92,61,47,50]⟩ : ByteArray),(⟨#[61,61,47,50]⟩ : ByteArray),(⟨#[105,115,47,50]⟩ : ByteArray),(⟨#[60,47,50]⟩ : ByteArray),(⟨#[61,58,61,47,50]⟩ : ByteArray),(⟨#[118,97,114,47,49]⟩ : ByteArray),(⟨#[97,116,111,109,47,49]⟩ : ByteArray),(⟨#[119,114,105,116,101,47,49]⟩ : ByteArray),(⟨#[97,115,115,101,114,116,122,47,49]⟩ : ByteArray),(⟨#[114,101,116,114,97,99,116,47,49]⟩ : ByteArray),(⟨#[58,45,47,50]⟩ : ByteArray),(⟨#[58,45,47,49]⟩ : ByteArray),(⟨#[45,45,62,47,50]⟩ : ByteArray)] : List ByteArray)) a0).bind fun t197 => (some t197)) = some r:=h
 clear h
 obtain ⟨y194,hy194⟩ : ∃ y_ : List ByteArray,y_ = (([(⟨#[116,114,117,101,47,48]⟩ : ByteArray),(⟨#[102,97,105,108,47,48]⟩ : ByteArray),(⟨#[33,47,48]⟩ : ByteArray),(⟨#[44,47,50]⟩ : ByteArray),(⟨#[59,47,50]⟩ : ByteArray),(⟨#[45,62,47,50]⟩ : ByteArray),(⟨#[92,43,47,49]⟩ : ByteArray),(⟨#[99,97,108,108,47,49]⟩ : ByteArray),(⟨#[99,97,108,108,47,50]⟩ : ByteArray),(⟨#[99,97,108,108,47,51]⟩ : ByteArray),(⟨#[99,97,116,99,104,47,51]⟩ : ByteArray),(⟨#[116,104,114,111,119,47,49]⟩ : ByteArray),(⟨#[61,47,50]⟩ : ByteArray),(⟨#[92,61,47,50]⟩ : ByteArray),(⟨#[61,61,47,50]⟩ : ByteArray),(⟨#[105,115,47,50]⟩ : ByteArray),(⟨#[60,47,50]⟩ : ByteArray),(⟨#[61,58,61,47,50]⟩ : ByteArray),(⟨#[118,97,114,47,49]⟩ : ByteArray),(⟨#[97,116,111,109,47,49]⟩ : ByteArray),(⟨#[119,114,105,116,101,47,49]⟩ : ByteArray),(⟨#[97,115,115,101,114,116,122,47,49]⟩ : ByteArray),(⟨#[114,101,116,114,97,99,116,47,49]⟩ : ByteArray),(⟨#[58,45,47,50]⟩ : ByteArray),(⟨#[58,45,47,49]⟩ : ByteArray),(⟨#[45,45,62,47,50]⟩ : ByteArray)] : List ByteArray)):=⟨_,rfl⟩
 replace H : ((slices_Contains_string_string.f k y194 a0).bind fun t197 => (some t197)) = some r:=by first|(rw [hy194];with_reducible exact H)|(have H2_:=(Option.bind_some _ _).symm.trans H;rw [hy194];with_reducible exact H2_)|(have H2_:=(Option.bind_some _ _).symm.trans H;with_reducible exact H2_)|with_reducible exact H|(rw [hy194];exact H)|exact H
 have Ny194:=Aside0.mk hy194
 clear hy194
 replace H:=Option.bind_eq_some_iff.mp H
 obtain ⟨t197,A20,H⟩:=H
 replace H : (some t197) = some r:=H
 have A2:=Aside0.mk A20
 clear A20
 obtain rfl:=Option.some.inj H
 go_enter Tryd.func80,Tryd.ntmps80
 go_wp2_with (first|((with_reducible refine gate_dst (N:=4) rfl ?_);refine Kd.R_lit Kd.string _ 9 ?hg (N:=4) ?hd (xs:=([(⟨#[116,114,117,101,47,48]⟩ : ByteArray),(⟨#[102,97,105,108,47,48]⟩ : ByteArray),(⟨#[33,47,48]⟩ : ByteArray),(⟨#[44,47,50]⟩ : ByteArray),(⟨#[59,47,50]⟩ : ByteArray),(⟨#[45,62,47,50]⟩ : ByteArray),(⟨#[92,43,47,49]⟩ : ByteArray),(⟨#[99,97,108,108,47,49]⟩ : ByteArray),(⟨#[99,97,108,108,47,50]⟩ : ByteArray),(⟨#[99,97,108,108,47,51]⟩ : ByteArray),(⟨#[99,97,116,99,104,47,51]⟩ : ByteArray),(⟨#[116,104,114,111,119,47,49]⟩ : ByteArray),(⟨#[61,47,50]⟩ : ByteArray),(⟨#[92,61,47,50]⟩ : ByteArray),(⟨#[61,61,47,50]⟩ : ByteArray),(⟨#[105,115,47,50]⟩ : ByteArray),(⟨#[60,47,50]⟩ : ByteArray),(⟨#[61,58,61,47,50]⟩ : ByteArray),(⟨#[118,97,114,47,49]⟩ : ByteArray),(⟨#[97,116,111,109,47,49]⟩ : ByteArray),(⟨#[119,114,105,116,101,47,49]⟩ : ByteArray),(⟨#[97,115,115,101,114,116,122,47,49]⟩ : ByteArray),(⟨#[114,101,116,114,97,99,116,47,49]⟩ : ByteArray),(⟨#[58,45,47,50]⟩ : ByteArray),(⟨#[58,45,47,49]⟩ : ByteArray),(⟨#[45,45,62,47,50]⟩ : ByteArray)] : List ByteArray)) (inner:=[.string (⟨#[116,114,117,101,47,48]⟩ : ByteArray),.string (⟨#[102,97,105,108,47,48]⟩ : ByteArray),.string (⟨#[33,47,48]⟩ : ByteArray),.string (⟨#[44,47,50]⟩ : ByteArray),.string (⟨#[59,47,50]⟩ : ByteArray),.string (⟨#[45,62,47,50]⟩ : ByteArray),.string (⟨#[92,43,47,49]⟩ : ByteArray),.string (⟨#[99,97,108,108,47,49]⟩ : ByteArray),.string (⟨#[99,97,108,108,47,50]⟩ : ByteArray),.string (⟨#[99,97,108,108,47,51]⟩ : ByteArray),.string (⟨#[99,97,116,99,104,47,51]⟩ : ByteArray),.string (⟨#[116,104,114,111,119,47,49]⟩ : ByteArray),.string (⟨#[61,47,50]⟩ : ByteArray),.string (⟨#[92,61,47,50]⟩ : ByteArray),.string (⟨#[61,61,47,50]⟩ : ByteArray),.string (⟨#[105,115,47,50]⟩ : ByteArray),.string (⟨#[60,47,50]⟩ : ByteArray),.string (⟨#[61,58,61,47,50]⟩ : ByteArray),.string (⟨#[118,97,114,47,49]⟩ : ByteArray),.string (⟨#[97,116,111,109,47,49]⟩ : ByteArray),.string (⟨#[119,114,105,116,101,47,49]⟩ : ByteArray),.string (⟨#[97,115,115,101,114,116,122,47,49]⟩ : ByteArray),.string (⟨#[114,101,116,114,97,99,116,47,49]⟩ : ByteArray),.string (⟨#[58,45,47,50]⟩ : ByteArray),.string (⟨#[58,45,47,49]⟩ : ByteArray),.string (⟨#[45,45,62,47,50]⟩ : ByteArray)]) (ok:=fun _ => True) (okp:=fun _ => True) ?hr ?hp (fun _ hk => hk) trivial (Below.refl _ _) (Nat.le_refl _) (by simp) ?_;(case hd => rfl);(case hg => rfl);(case hr => first|(go_simp;done)|(go_simp;rfl));(case hp => exact (Reps.one (show Kd.M Kd.string _ _ _ (⟨#[116,114,117,101,47,48]⟩ : ByteArray) [.string (⟨#[116,114,117,101,47,48]⟩ : ByteArray)] from rfl) (Reps.one (show Kd.M Kd.string _ _ _ (⟨#[102,97,105,108,47,48]⟩ : ByteArray) [.string (⟨#[102,97,105,108,47,48]⟩ : ByteArray)] from rfl) (Reps.one (show Kd.M Kd.string _ _ _ (⟨#[33,47,48]⟩ : ByteArray) [.string (⟨#[33,47,48]⟩ : ByteArray)] from rfl) (Reps.one (show Kd.M Kd.string _ _ _ (⟨#[44,47,50]⟩ : ByteArray) [.string (⟨#[44,47,50]⟩ : ByteArray)] from rfl) (Reps.one (show Kd.M Kd.string _ _ _ (⟨#[59,47,50]⟩ : ByteArray) [.string (⟨#[59,47,50]⟩ : ByteArray)] from rfl) (Reps.one (show Kd.M Kd.string _ _ _ (⟨#[45,62,47,50]⟩ : ByteArray) [.string (⟨#[45,62,47,50]⟩ : ByteArray)] from rfl) (Reps.one (show Kd.M Kd.string _ _ _ (⟨#[92,43,47,49]⟩ : ByteArray) [.string (⟨#[92,43,47,49]⟩ : ByteArray)] from rfl) (Reps.one (show Kd.M Kd.string _ _ _ (⟨#[99,97,108,108,47,49]⟩ : ByteArray) [.string (⟨#[99,97,108,108,47,49]⟩ : ByteArray)] from rfl) (Reps.one (show Kd.M Kd.string _ _ _ (⟨#[99,97,108,108,47,50]⟩ : ByteArray) [.string (⟨#[99,97,108,108,47,50]⟩ : ByteArray)] from rfl) (Reps.one (show Kd.M Kd.string _ _ _ (⟨#[99,97,108,108,47,51]⟩ : ByteArray) [.string (⟨#[99,97,108,108,47,51]⟩ : ByteArray)] from rfl) (Reps.one (show Kd.M Kd.string _ _ _ (⟨#[99,97,116,99,104,47,51]⟩ : ByteArray) [.string (⟨#[99,97,116,99,104,47,51]⟩ : ByteArray)] from rfl) (Reps.one (show Kd.M Kd.string _ _ _ (⟨#[116,104,114,111,119,47,49]⟩ : ByteArray) [.string (⟨#[116,104,114,111,119,47,49]⟩ : ByteArray)] from rfl) (Reps.one (show Kd.M Kd.string _ _ _ (⟨#[61,47,50]⟩ : ByteArray) [.string (⟨#[61,47,50]⟩ : ByteArray)] from rfl) (Reps.one (show Kd.M Kd.string _ _ _ (⟨#[92,61,47,50]⟩ : ByteArray) [.string (⟨#[92,61,47,50]⟩ : ByteArray)] from rfl) (Reps.one (show Kd.M Kd.string _ _ _ (⟨#[61,61,47,50]⟩ : ByteArray) [.string (⟨#[61,61,47,50]⟩ : ByteArray)] from rfl) (Reps.one (show Kd.M Kd.string _ _ _ (⟨#[105,115,47,50]⟩ : ByteArray) [.string (⟨#[105,115,47,50]⟩ : ByteArray)] from rfl) (Reps.one (show Kd.M Kd.string _ _ _ (⟨#[60,47,50]⟩ : ByteArray) [.string (⟨#[60,47,50]⟩ : ByteArray)] from rfl) (Reps.one (show Kd.M Kd.string _ _ _ (⟨#[61,58,61,47,50]⟩ : ByteArray) [.string (⟨#[61,58,61,47,50]⟩ : ByteArray)] from rfl) (Reps.one (show Kd.M Kd.string _ _ _ (⟨#[118,97,114,47,49]⟩ : ByteArray) [.string (⟨#[118,97,114,47,49]⟩ : ByteArray)] from rfl) (Reps.one (show Kd.M Kd.string _ _ _ (⟨#[97,116,111,109,47,49]⟩ : ByteArray) [.string (⟨#[97,116,111,109,47,49]⟩ : ByteArray)] from rfl) (Reps.one (show Kd.M Kd.string _ _ _ (⟨#[119,114,105,116,101,47,49]⟩ : ByteArray) [.string (⟨#[119,114,105,116,101,47,49]⟩ : ByteArray)] from rfl) (Reps.one (show Kd.M Kd.string _ _ _ (⟨#[97,115,115,101,114,116,122,47,49]⟩ : ByteArray) [.string (⟨#[97,115,115,101,114,116,122,47,49]⟩ : ByteArray)] from rfl) (Reps.one (show Kd.M Kd.string _ _ _ (⟨#[114,101,116,114,97,99,116,47,49]⟩ : ByteArray) [.string (⟨#[114,101,116,114,97,99,116,47,49]⟩ : ByteArray)] from rfl) (Reps.one (show Kd.M Kd.string _ _ _ (⟨#[58,45,47,50]⟩ : ByteArray) [.string (⟨#[58,45,47,50]⟩ : ByteArray)] from rfl) (Reps.one (show Kd.M Kd.string _ _ _ (⟨#[58,45,47,49]⟩ : ByteArray) [.string (⟨#[58,45,47,49]⟩ : ByteArray)] from rfl) (Reps.one (show Kd.M Kd.string _ _ _ (⟨#[45,45,62,47,50]⟩ : ByteArray) [.string (⟨#[45,45,62,47,50]⟩ : ByteArray)] from rfl) (Reps.none _ _))))))))))))))))))))))))))));intro v195 w3 ho4 hb hg_ hnew_;clear hg_ hnew_;(first|rw [← Ny194.out] at ho4|(simp only [Int.reduceToNat] at ho4;rw [← Ny194.out] at ho4));have n0_:=Aside0.mk (Kd.R_lower ho4 (below_size (by repeat (first|(with_reducible first|exact HB.out|apply below_alloc|apply pw_below_drewN|apply below_drew1)|exact HB.out))));have n1_:=Aside0.mk (below_step (by repeat (first|(with_reducible first|exact HB.out|apply below_alloc|apply pw_below_drewN|apply below_drew1)|exact HB.out)) hb);clear HB;have HO196:=n0_;have HB:=n1_;clear n0_ n1_;clear hb ho4;obtain ⟨Ao5,co5,eo5⟩:=Kd.R_slice HO196.out;subst eo5)|((with_reducible refine gate_callee (f:=51) rfl ?_);refine goesL_ (some 7) rfl rfl Tryd.func51 (by kernel_rfl) rfl #[.slice Ao5 y194.length co5,.string a0] rfl (by (try simp only [List.map_toArray,List.map_cons,List.map_nil]);first|done|rfl|(simp only [List.length_drop,List.length_take];rfl)) ?_;(with_reducible refine (slices_Contains_string_string.calls k _ _ y194 a0 t197 _ ?side1 ?side2 A2.out).mono ?_);(case side1 => repeat (first|exact (Kd.R_reads' HO196.out).2.2|(with_reducible refine Kd.C_alloc ?_ _)|(with_reducible refine Kd.C_drewN ?_ _)|(with_reducible refine Kd.C_drew ?_)));(case side2 => exact (Kd.R_reads' HO196.out).2.1);rintro e w' ⟨rfl,⟨nd,rfl⟩⟩;refine ⟨_,rfl,?_⟩))
 go_ret
 exact ⟨by first|rfl|(simp [errW_none,errW_some] <;> rfl)|(simp [*,errW_none,errW_some] <;> rfl),by repeat (first|(with_reducible first|exact HB.out|apply below_alloc|apply pw_below_drewN|apply below_drew1)|exact HB.out)⟩
def impl_headOk.f (k : Nat) (a0_0 : Int) (a0_1 : ByteArray) (a0_2 : Int) (l0_3 : List (S29)) : Option (Bool):=(impl_PredOf.f k a0_0 a0_1 a0_2 l0_3).bind fun t199 => (if t199.toList = ([] : List UInt8) then (some false) else ((impl_PredOf.f k a0_0 a0_1 a0_2 l0_3).bind fun t200 => ((impl_Control.f k t200).bind fun t201 => (some (!t201)))))
theorem impl_headOk.mono : ∀ a0 a1 a2 a3 k,LeO (impl_headOk.f k a0 a1 a2 a3) (impl_headOk.f (k + 1) a0 a1 a2 a3):=by
 intro a0 a1 a2 a3 k
 unfold impl_headOk.f
 repeat' first
   | (with_reducible exact impl_Control.mono _ _)
   | (with_reducible exact impl_PredOf.mono _ _ _ _ _)
   | (with_reducible exact LeO.refl _)
   | (with_reducible exact LeO.none _)
   | (with_reducible refine LeO.ite ?_ ?_)
   | (with_reducible refine LeO.bind ?_ (fun _ => ?_))
   | exact impl_Control.mono _ _
   | exact impl_PredOf.mono _ _ _ _ _
   | exact LeO.none _
   | refine LeO.ite ?_ ?_
   | refine LeO.bind ?_ (fun _ => ?_)
set_option maxHeartbeats 8000000 in
set_option maxRecDepth 100000 in
theorem impl_headOk.calls (k : Nat) (a0_0 : Int) (a0_1 : ByteArray) (a0_2 : Int) (A0_3 : Option Addr) (c0_3 : Nat) (l0_3 : List (S29)) (r : Bool) (w : World) (hTAB : Lib.TabBelow Tryd.prog w.heap.size w "internal/strconv.uint64pow10" .u64 Lib.pow10Tab) (hr0_3 : Kd.C k29 w A0_3 l0_3.length l0_3) (hc0_3 : l0_3.length ≤ c0_3) (h : impl_headOk.f k a0_0 a0_1 a0_2 l0_3 = some r) :
  Calls Tryd.prog 57 #[.agg #[.int .i64 a0_0,.string a0_1,.int .i64 a0_2,.slice A0_3 l0_3.length c0_3]] w fun e w' => e = .returned (.bool r) ∧ Below w.heap.size w w':=by
 have hu29:=Tryd.underlying29
 have HR0_3:=Aside0.mk hr0_3
 have HC0_3:=Aside0.mk hc0_3
 clear hr0_3 hc0_3
 have HB:=Aside0.mk (Below.refl w.heap.size w)
 have HTAB:=Aside0.mk hTAB
 clear hTAB
 have H : ((impl_PredOf.f k a0_0 a0_1 a0_2 l0_3).bind fun t199 => (if t199.toList = ([] : List UInt8) then (some false) else ((impl_PredOf.f k a0_0 a0_1 a0_2 l0_3).bind fun t200 => ((impl_Control.f k t200).bind fun t201 => (some (!t201)))))) = some r:=h
 clear h
 replace H:=Option.bind_eq_some_iff.mp H
 obtain ⟨t199,A20,H⟩:=H
 replace H : (if t199.toList = ([] : List UInt8) then (some false) else ((impl_PredOf.f k a0_0 a0_1 a0_2 l0_3).bind fun t200 => ((impl_Control.f k t200).bind fun t201 => (some (!t201))))) = some r:=H
 have A2:=Aside0.mk A20
 clear A20
 by_cases c3 : t199.toList = ([] : List UInt8)
 ·rw [if_pos c3] at H
  have c3b0 : (t199.toList == ([] : List UInt8)) = true:=beq_iff_eq.mpr c3
  have c3b1 : (t199.toList != ([] : List UInt8)) = false:=bne_eq_false_iff_eq.mpr c3
  clear c3
  obtain rfl:=Option.some.inj H
  go_enter Tryd.func57,Tryd.ntmps57
  go_wp2_with (first|((with_reducible refine gate_dst (N:=1) rfl ?_);refine box_event ?hg (N:=1) ?hd (cs:=#[.int .i64 a0_0,.string a0_1,.int .i64 a0_2,.slice A0_3 l0_3.length c0_3]) (t:=29) ?hr ?_;(case hd => rfl);(case hg => rfl);(case hr => first|(go_simp;done)|(go_simp;rfl));intro gb198 hg w4 hbox hb;have n0_:=Aside0.mk (below_step (by repeat (first|(with_reducible first|exact HB.out|apply below_alloc|apply pw_below_drewN|apply below_drew1)|exact HB.out)) hb);have n1_:=Aside0.mk (hbox);have n2_:=Aside0.mk ((by rw [hg];exact (below_size (by repeat (first|(with_reducible first|exact HB.out|apply below_alloc|apply pw_below_drewN|apply below_drew1)|exact HB.out))) : w.heap.size ≤ gb198));have n3_:=Aside0.mk ((by rw [hg];exact (below_size (by repeat (first|(with_reducible first|exact HB.out|apply below_alloc|apply pw_below_drewN|apply below_drew1)|exact HB.out))) : w.heap.size ≤ gb198));clear HB;have HB:=n0_;have BK198:=n1_;have GW198:=n2_;have GE198:=n3_;clear n0_ n1_ n2_ n3_;clear hb hbox hg;have hcz5_0 : w4.cell? ⟨gb198,0,none⟩ = some (.int .i64 a0_0):=(blk_cell BK198.out 0).trans rfl;have hcz5_1 : w4.cell? ⟨gb198,1,none⟩ = some (.string a0_1):=(blk_cell BK198.out 1).trans rfl;have hcz5_2 : w4.cell? ⟨gb198,2,none⟩ = some (.int .i64 a0_2):=(blk_cell BK198.out 2).trans rfl;have hcz5_3 : w4.cell? ⟨gb198,3,none⟩ = some (.slice A0_3 l0_3.length c0_3):=(blk_cell BK198.out 3).trans rfl;have hfz5_0:=blk_frozen BK198.out 0;have hfz5_1:=blk_frozen BK198.out 1;have hfz5_2:=blk_frozen BK198.out 2;have hfz5_3:=blk_frozen BK198.out 3)|((with_reducible refine gate_callee (f:=13) rfl ?_);refine goesL_ (some 4) rfl rfl Tryd.func13 (by kernel_rfl) rfl #[.agg #[.int .i64 a0_0,.string a0_1,.int .i64 a0_2,.slice A0_3 l0_3.length c0_3]] rfl (by (try simp only [List.map_toArray,List.map_cons,List.map_nil]);first|done|rfl|(simp only [List.length_drop,List.length_take];rfl)) ?_;(with_reducible refine (impl_PredOf.calls k a0_0 a0_1 a0_2 _ _ l0_3 t199 _ (tab_at HTAB.out (by repeat (first|(with_reducible first|exact HB.out|apply below_alloc|apply pw_below_drewN|apply below_drew1|refine below_set ?_ GE198.out)|exact HB.out))) ?side1 ?side2 A2.out).mono ?_);(case side1 => repeat (first|exact (Kd.C_below HR0_3.out HB.out)|(with_reducible refine Kd.C_alloc ?_ _)|(with_reducible refine Kd.C_drewN ?_ _)|(with_reducible refine Kd.C_drew ?_)));(case side2 => exact HC0_3.out);rintro e w6 ⟨rfl,hb⟩;refine ⟨_,rfl,?_⟩;have n0_:=Aside0.mk (blk_below (g:=gb198) (o:=.cells #[.int .i64 a0_0,.string a0_1,.int .i64 a0_2,.slice A0_3 l0_3.length c0_3] 29 (0,0)) (by (with_reducible repeat (first|refine blk_drewN ?_ _|refine blk_drew ?_|refine blk_alloc ?_ _));exact BK198.out) hb);have n1_:=Aside0.mk (below_step (by repeat (first|(with_reducible first|exact HB.out|apply below_alloc|apply pw_below_drewN|apply below_drew1|refine below_set ?_ GE198.out)|exact HB.out)) hb);clear BK198;clear HB;have BK198:=n0_;have HB:=n1_;clear n0_ n1_;(try clear hb)))
  go_ret
  exact ⟨by first|rfl|(simp [errW_none,errW_some] <;> rfl)|(simp [*,errW_none,errW_some] <;> rfl),by repeat (first|(with_reducible first|exact HB.out|apply below_alloc|apply pw_below_drewN|apply below_drew1|refine below_set ?_ GE198.out)|exact HB.out)⟩
 ·rw [if_neg c3] at H
  have c3b0 : (t199.toList == ([] : List UInt8)) = false:=beq_eq_false_iff_ne.mpr c3
  have c3b1 : (t199.toList != ([] : List UInt8)) = true:=bne_iff_ne.mpr c3
  replace H:=Option.bind_eq_some_iff.mp H
  obtain ⟨t200,A70,H⟩:=H
  replace H : ((impl_Control.f k t200).bind fun t201 => (some (!t201))) = some r:=H
  have A7:=Aside0.mk A70
  clear A70
  replace H:=Option.bind_eq_some_iff.mp H
  obtain ⟨t201,A80,H⟩:=H
  replace H : (some (!t201)) = some r:=H
  have A8:=Aside0.mk A80
  clear A80
  obtain rfl:=Option.some.inj H
  go_enter Tryd.func57,Tryd.ntmps57
  go_wp2_with (first|((with_reducible refine gate_dst (N:=1) rfl ?_);refine box_event ?hg (N:=1) ?hd (cs:=#[.int .i64 a0_0,.string a0_1,.int .i64 a0_2,.slice A0_3 l0_3.length c0_3]) (t:=29) ?hr ?_;(case hd => rfl);(case hg => rfl);(case hr => first|(go_simp;done)|(go_simp;rfl));intro gb198 hg w9 hbox hb;have n0_:=Aside0.mk (below_step (by repeat (first|(with_reducible first|exact HB.out|apply below_alloc|apply pw_below_drewN|apply below_drew1)|exact HB.out)) hb);have n1_:=Aside0.mk (hbox);have n2_:=Aside0.mk ((by rw [hg];exact (below_size (by repeat (first|(with_reducible first|exact HB.out|apply below_alloc|apply pw_below_drewN|apply below_drew1)|exact HB.out))) : w.heap.size ≤ gb198));have n3_:=Aside0.mk ((by rw [hg];exact (below_size (by repeat (first|(with_reducible first|exact HB.out|apply below_alloc|apply pw_below_drewN|apply below_drew1)|exact HB.out))) : w.heap.size ≤ gb198));clear HB;have HB:=n0_;have BK198:=n1_;have GW198:=n2_;have GE198:=n3_;clear n0_ n1_ n2_ n3_;clear hb hbox hg;have hcz10_0 : w9.cell? ⟨gb198,0,none⟩ = some (.int .i64 a0_0):=(blk_cell BK198.out 0).trans rfl;have hcz10_1 : w9.cell? ⟨gb198,1,none⟩ = some (.string a0_1):=(blk_cell BK198.out 1).trans rfl;have hcz10_2 : w9.cell? ⟨gb198,2,none⟩ = some (.int .i64 a0_2):=(blk_cell BK198.out 2).trans rfl;have hcz10_3 : w9.cell? ⟨gb198,3,none⟩ = some (.slice A0_3 l0_3.length c0_3):=(blk_cell BK198.out 3).trans rfl;have hfz10_0:=blk_frozen BK198.out 0;have hfz10_1:=blk_frozen BK198.out 1;have hfz10_2:=blk_frozen BK198.out 2;have hfz10_3:=blk_frozen BK198.out 3)|((with_reducible refine gate_callee (f:=13) rfl ?_);refine goesL_ (some 4) rfl rfl Tryd.func13 (by kernel_rfl) rfl #[.agg #[.int .i64 a0_0,.string a0_1,.int .i64 a0_2,.slice A0_3 l0_3.length c0_3]] rfl (by (try simp only [List.map_toArray,List.map_cons,List.map_nil]);first|done|rfl|(simp only [List.length_drop,List.length_take];rfl)) ?_;(with_reducible refine (impl_PredOf.calls k a0_0 a0_1 a0_2 _ _ l0_3 t199 _ (tab_at HTAB.out (by repeat (first|(with_reducible first|exact HB.out|apply below_alloc|apply pw_below_drewN|apply below_drew1|refine below_set ?_ GE198.out)|exact HB.out))) ?side1 ?side2 A2.out).mono ?_);(case side1 => repeat (first|exact (Kd.C_below HR0_3.out HB.out)|(with_reducible refine Kd.C_alloc ?_ _)|(with_reducible refine Kd.C_drewN ?_ _)|(with_reducible refine Kd.C_drew ?_)));(case side2 => exact HC0_3.out);rintro e w11 ⟨rfl,hb⟩;refine ⟨_,rfl,?_⟩;have n0_:=Aside0.mk (blk_below (g:=gb198) (o:=.cells #[.int .i64 a0_0,.string a0_1,.int .i64 a0_2,.slice A0_3 l0_3.length c0_3] 29 (0,0)) (by (with_reducible repeat (first|refine blk_drewN ?_ _|refine blk_drew ?_|refine blk_alloc ?_ _));exact BK198.out) hb);have n1_:=Aside0.mk (below_step (by repeat (first|(with_reducible first|exact HB.out|apply below_alloc|apply pw_below_drewN|apply below_drew1|refine below_set ?_ GE198.out)|exact HB.out)) hb);clear BK198;clear HB;have BK198:=n0_;have HB:=n1_;clear n0_ n1_;(try clear hb);(try clear hb2);(try clear hk);(try clear hi);have hcz12_0 : w11.cell? ⟨gb198,0,none⟩ = some (.int .i64 a0_0):=(blk_cell BK198.out 0).trans rfl;have hcz12_1 : w11.cell? ⟨gb198,1,none⟩ = some (.string a0_1):=(blk_cell BK198.out 1).trans rfl;have hcz12_2 : w11.cell? ⟨gb198,2,none⟩ = some (.int .i64 a0_2):=(blk_cell BK198.out 2).trans rfl;have hcz12_3 : w11.cell? ⟨gb198,3,none⟩ = some (.slice A0_3 l0_3.length c0_3):=(blk_cell BK198.out 3).trans rfl;have hfz12_0:=blk_frozen BK198.out 0;have hfz12_1:=blk_frozen BK198.out 1;have hfz12_2:=blk_frozen BK198.out 2;have hfz12_3:=blk_frozen BK198.out 3)|(go_at_call 13;(with_reducible refine (impl_PredOf.calls k a0_0 a0_1 a0_2 _ _ l0_3 t200 _ (tab_at HTAB.out (by repeat (first|(with_reducible first|exact HB.out|apply below_alloc|apply pw_below_drewN|apply below_drew1|refine below_set ?_ GE198.out)|exact HB.out))) ?side1 ?side2 A7.out).mono ?_);(case side1 => repeat (first|exact (Kd.C_below HR0_3.out HB.out)|(with_reducible refine Kd.C_alloc ?_ _)|(with_reducible refine Kd.C_drewN ?_ _)|(with_reducible refine Kd.C_drew ?_)));(case side2 => exact HC0_3.out);rintro e w13 ⟨rfl,hb⟩;have n0_:=Aside0.mk (blk_below (g:=gb198) (o:=.cells #[.int .i64 a0_0,.string a0_1,.int .i64 a0_2,.slice A0_3 l0_3.length c0_3] 29 (0,0)) (by (with_reducible repeat (first|refine blk_drewN ?_ _|refine blk_drew ?_|refine blk_alloc ?_ _));exact BK198.out) hb);have n1_:=Aside0.mk (below_step (by repeat (first|(with_reducible first|exact HB.out|apply below_alloc|apply pw_below_drewN|apply below_drew1|refine below_set ?_ GE198.out)|exact HB.out)) hb);clear BK198;clear HB;have BK198:=n0_;have HB:=n1_;clear n0_ n1_;(try clear hb))|(go_at_call 80;(with_reducible refine (impl_Control.calls k t200 t201 _ A8.out).mono ?_);rintro e w14 ⟨rfl,hb⟩;have n0_:=Aside0.mk (blk_below (g:=gb198) (o:=.cells #[.int .i64 a0_0,.string a0_1,.int .i64 a0_2,.slice A0_3 l0_3.length c0_3] 29 (0,0)) (by (with_reducible repeat (first|refine blk_drewN ?_ _|refine blk_drew ?_|refine blk_alloc ?_ _));exact BK198.out) hb);have n1_:=Aside0.mk (below_step (by repeat (first|(with_reducible first|exact HB.out|apply below_alloc|apply pw_below_drewN|apply below_drew1|refine below_set ?_ GE198.out)|exact HB.out)) hb);clear BK198;clear HB;have BK198:=n0_;have HB:=n1_;clear n0_ n1_;(try clear hb)))
  go_ret
  exact ⟨by first|rfl|(simp [errW_none,errW_some] <;> rfl)|(simp [*,errW_none,errW_some] <;> rfl),by repeat (first|(with_reducible first|exact HB.out|apply below_alloc|apply pw_below_drewN|apply below_drew1|refine below_set ?_ GE198.out)|exact HB.out)⟩
def impl_isStruct.f (a0_0 : Int) (a0_1 : ByteArray) (a0_2 : Int) (l0_3 : List (S29)) (a1 : ByteArray) (a2 : Int) : Option (Bool):=if a0_0 = 4 then (if a0_1.toList = a1.toList then (some ((l0_3.length : Int) == a2)) else (some false)) else (some false)
set_option maxHeartbeats 8000000 in
set_option maxRecDepth 100000 in
theorem impl_isStruct.calls (a0_0 : Int) (a0_1 : ByteArray) (a0_2 : Int) (A0_3 : Option Addr) (c0_3 : Nat) (l0_3 : List (S29)) (a1 : ByteArray) (a2 : Int) (r : Bool) (w : World) (hr0_3 : Kd.C k29 w A0_3 l0_3.length l0_3) (hc0_3 : l0_3.length ≤ c0_3) (h : impl_isStruct.f a0_0 a0_1 a0_2 l0_3 a1 a2 = some r) :
  Calls Tryd.prog 61 #[.agg #[.int .i64 a0_0,.string a0_1,.int .i64 a0_2,.slice A0_3 l0_3.length c0_3],.string a1,.int .i64 a2] w fun e w' => e = .returned (.bool r) ∧ Below w.heap.size w w':=by
 have hu29:=Tryd.underlying29
 have HR0_3:=Aside0.mk hr0_3
 have HC0_3:=Aside0.mk hc0_3
 clear hr0_3 hc0_3
 have HB:=Aside0.mk (Below.refl w.heap.size w)
 have H : (if a0_0 = 4 then (if a0_1.toList = a1.toList then (some ((l0_3.length : Int) == a2)) else (some false)) else (some false)) = some r:=h
 clear h
 by_cases c4 : a0_0 = 4
 ·rw [if_pos c4] at H
  have c4b0 : (a0_0 == 4) = true:=beq_iff_eq.mpr c4
  have c4b1 : (a0_0 != 4) = false:=bne_eq_false_iff_eq.mpr c4
  clear c4
  by_cases c5 : a0_1.toList = a1.toList
  ·rw [if_pos c5] at H
   have c5b0 : (a0_1.toList == a1.toList) = true:=beq_iff_eq.mpr c5
   have c5b1 : (a0_1.toList != a1.toList) = false:=bne_eq_false_iff_eq.mpr c5
   clear c5
   obtain rfl:=Option.some.inj H
   go_enter Tryd.func61,Tryd.ntmps61
   go_wp2_with (first|((with_reducible refine gate_dst (N:=3) rfl ?_);(try (refine gate_guard (by rfl) ?_;dsimp only));refine box_event ?hg (N:=3) ?hd (cs:=#[.int .i64 a0_0,.string a0_1,.int .i64 a0_2,.slice A0_3 l0_3.length c0_3]) (t:=29) ?hr ?_;(case hd => rfl);(case hg => rfl);(case hr => first|(go_simp;done)|(go_simp;rfl));intro gb202 hg w6 hbox hb;have n0_:=Aside0.mk (below_step (by repeat (first|(with_reducible first|exact HB.out|apply below_alloc|apply pw_below_drewN|apply below_drew1)|exact HB.out)) hb);have n1_:=Aside0.mk (hbox);have n2_:=Aside0.mk ((by rw [hg];exact (below_size (by repeat (first|(with_reducible first|exact HB.out|apply below_alloc|apply pw_below_drewN|apply below_drew1)|exact HB.out))) : w.heap.size ≤ gb202));have n3_:=Aside0.mk ((by rw [hg];exact (below_size (by repeat (first|(with_reducible first|exact HB.out|apply below_alloc|apply pw_below_drewN|apply below_drew1)|exact HB.out))) : w.heap.size ≤ gb202));clear HB;have HB:=n0_;have BK202:=n1_;have GW202:=n2_;have GE202:=n3_;clear n0_ n1_ n2_ n3_;clear hb hbox hg;have hcz7_0 : w6.cell? ⟨gb202,0,none⟩ = some (.int .i64 a0_0):=(blk_cell BK202.out 0).trans rfl;have hcz7_1 : w6.cell? ⟨gb202,1,none⟩ = some (.string a0_1):=(blk_cell BK202.out 1).trans rfl;have hcz7_2 : w6.cell? ⟨gb202,2,none⟩ = some (.int .i64 a0_2):=(blk_cell BK202.out 2).trans rfl;have hcz7_3 : w6.cell? ⟨gb202,3,none⟩ = some (.slice A0_3 l0_3.length c0_3):=(blk_cell BK202.out 3).trans rfl;have hfz7_0:=blk_frozen BK202.out 0;have hfz7_1:=blk_frozen BK202.out 1;have hfz7_2:=blk_frozen BK202.out 2;have hfz7_3:=blk_frozen BK202.out 3))
   go_ret
   exact ⟨by first|rfl|(simp [errW_none,errW_some] <;> rfl)|(simp [*,errW_none,errW_some] <;> rfl),by repeat (first|(with_reducible first|exact HB.out|apply below_alloc|apply pw_below_drewN|apply below_drew1|refine below_set ?_ GE202.out)|exact HB.out)⟩
  ·rw [if_neg c5] at H
   have c5b0 : (a0_1.toList == a1.toList) = false:=beq_eq_false_iff_ne.mpr c5
   have c5b1 : (a0_1.toList != a1.toList) = true:=bne_iff_ne.mpr c5
   obtain rfl:=Option.some.inj H
   go_enter Tryd.func61,Tryd.ntmps61
   go_wp2_with (first|((with_reducible refine gate_dst (N:=3) rfl ?_);(try (refine gate_guard (by rfl) ?_;dsimp only));refine box_event ?hg (N:=3) ?hd (cs:=#[.int .i64 a0_0,.string a0_1,.int .i64 a0_2,.slice A0_3 l0_3.length c0_3]) (t:=29) ?hr ?_;(case hd => rfl);(case hg => rfl);(case hr => first|(go_simp;done)|(go_simp;rfl));intro gb202 hg w8 hbox hb;have n0_:=Aside0.mk (below_step (by repeat (first|(with_reducible first|exact HB.out|apply below_alloc|apply pw_below_drewN|apply below_drew1)|exact HB.out)) hb);have n1_:=Aside0.mk (hbox);have n2_:=Aside0.mk ((by rw [hg];exact (below_size (by repeat (first|(with_reducible first|exact HB.out|apply below_alloc|apply pw_below_drewN|apply below_drew1)|exact HB.out))) : w.heap.size ≤ gb202));have n3_:=Aside0.mk ((by rw [hg];exact (below_size (by repeat (first|(with_reducible first|exact HB.out|apply below_alloc|apply pw_below_drewN|apply below_drew1)|exact HB.out))) : w.heap.size ≤ gb202));clear HB;have HB:=n0_;have BK202:=n1_;have GW202:=n2_;have GE202:=n3_;clear n0_ n1_ n2_ n3_;clear hb hbox hg;have hcz9_0 : w8.cell? ⟨gb202,0,none⟩ = some (.int .i64 a0_0):=(blk_cell BK202.out 0).trans rfl;have hcz9_1 : w8.cell? ⟨gb202,1,none⟩ = some (.string a0_1):=(blk_cell BK202.out 1).trans rfl;have hcz9_2 : w8.cell? ⟨gb202,2,none⟩ = some (.int .i64 a0_2):=(blk_cell BK202.out 2).trans rfl;have hcz9_3 : w8.cell? ⟨gb202,3,none⟩ = some (.slice A0_3 l0_3.length c0_3):=(blk_cell BK202.out 3).trans rfl;have hfz9_0:=blk_frozen BK202.out 0;have hfz9_1:=blk_frozen BK202.out 1;have hfz9_2:=blk_frozen BK202.out 2;have hfz9_3:=blk_frozen BK202.out 3))
   go_ret
   exact ⟨by first|rfl|(simp [errW_none,errW_some] <;> rfl)|(simp [*,errW_none,errW_some] <;> rfl),by repeat (first|(with_reducible first|exact HB.out|apply below_alloc|apply pw_below_drewN|apply below_drew1|refine below_set ?_ GE202.out)|exact HB.out)⟩
 ·rw [if_neg c4] at H
  have c4b0 : (a0_0 == 4) = false:=beq_eq_false_iff_ne.mpr c4
  have c4b1 : (a0_0 != 4) = true:=bne_iff_ne.mpr c4
  obtain rfl:=Option.some.inj H
  go_enter Tryd.func61,Tryd.ntmps61
  go_wp2_with (first|((with_reducible refine gate_dst (N:=3) rfl ?_);(try (refine gate_guard (by rfl) ?_;dsimp only));refine box_event ?hg (N:=3) ?hd (cs:=#[.int .i64 a0_0,.string a0_1,.int .i64 a0_2,.slice A0_3 l0_3.length c0_3]) (t:=29) ?hr ?_;(case hd => rfl);(case hg => rfl);(case hr => first|(go_simp;done)|(go_simp;rfl));intro gb202 hg w10 hbox hb;have n0_:=Aside0.mk (below_step (by repeat (first|(with_reducible first|exact HB.out|apply below_alloc|apply pw_below_drewN|apply below_drew1)|exact HB.out)) hb);have n1_:=Aside0.mk (hbox);have n2_:=Aside0.mk ((by rw [hg];exact (below_size (by repeat (first|(with_reducible first|exact HB.out|apply below_alloc|apply pw_below_drewN|apply below_drew1)|exact HB.out))) : w.heap.size ≤ gb202));have n3_:=Aside0.mk ((by rw [hg];exact (below_size (by repeat (first|(with_reducible first|exact HB.out|apply below_alloc|apply pw_below_drewN|apply below_drew1)|exact HB.out))) : w.heap.size ≤ gb202));clear HB;have HB:=n0_;have BK202:=n1_;have GW202:=n2_;have GE202:=n3_;clear n0_ n1_ n2_ n3_;clear hb hbox hg;have hcz11_0 : w10.cell? ⟨gb202,0,none⟩ = some (.int .i64 a0_0):=(blk_cell BK202.out 0).trans rfl;have hcz11_1 : w10.cell? ⟨gb202,1,none⟩ = some (.string a0_1):=(blk_cell BK202.out 1).trans rfl;have hcz11_2 : w10.cell? ⟨gb202,2,none⟩ = some (.int .i64 a0_2):=(blk_cell BK202.out 2).trans rfl;have hcz11_3 : w10.cell? ⟨gb202,3,none⟩ = some (.slice A0_3 l0_3.length c0_3):=(blk_cell BK202.out 3).trans rfl;have hfz11_0:=blk_frozen BK202.out 0;have hfz11_1:=blk_frozen BK202.out 1;have hfz11_2:=blk_frozen BK202.out 2;have hfz11_3:=blk_frozen BK202.out 3))
  go_ret
  exact ⟨by first|rfl|(simp [errW_none,errW_some] <;> rfl)|(simp [*,errW_none,errW_some] <;> rfl),by repeat (first|(with_reducible first|exact HB.out|apply below_alloc|apply pw_below_drewN|apply below_drew1|refine below_set ?_ GE202.out)|exact HB.out)⟩
def laws_eqClause.f (k : Nat) (a0_0 : Int) (a0_1 : ByteArray) (a0_2 : Int) (l0_3 : List (S29)) (a0_4 : Int) (a0_5 : ByteArray) (a0_6 : Int) (l0_7 : List (S29)) (a0_8 : ByteArray) (a1_0 : Int) (a1_1 : ByteArray) (a1_2 : Int) (l1_3 : List (S29)) (a1_4 : Int) (a1_5 : ByteArray) (a1_6 : Int) (l1_7 : List (S29)) (a1_8 : ByteArray) : Option (Bool):=(laws_eqTerm.f k a0_0 a0_1 a0_2 l0_3 a1_0 a1_1 a1_2 l1_3).bind fun t205 => (if t205 = true then ((laws_eqTerm.f k a0_4 a0_5 a0_6 l0_7 a1_4 a1_5 a1_6 l1_7).bind fun t206 => (if t206 = true then (if a0_8.toList = a1_8.toList then (some true) else (some false)) else (some false))) else (some false))
theorem laws_eqClause.mono : ∀ a0 a1 a2 a3 a4 a5 a6 a7 a8 a9 a10 a11 a12 a13 a14 a15 a16 a17 k,LeO (laws_eqClause.f k a0 a1 a2 a3 a4 a5 a6 a7 a8 a9 a10 a11 a12 a13 a14 a15 a16 a17) (laws_eqClause.f (k + 1) a0 a1 a2 a3 a4 a5 a6 a7 a8 a9 a10 a11 a12 a13 a14 a15 a16 a17):=by
 intro a0 a1 a2 a3 a4 a5 a6 a7 a8 a9 a10 a11 a12 a13 a14 a15 a16 a17 k
 unfold laws_eqClause.f
 repeat' first
   | (with_reducible exact laws_eqTerm.mono _ _ _ _ _ _ _ _ _)
   | (with_reducible exact LeO.refl _)
   | (with_reducible exact LeO.none _)
   | (with_reducible refine LeO.ite ?_ ?_)
   | (with_reducible refine LeO.bind ?_ (fun _ => ?_))
   | exact laws_eqTerm.mono _ _ _ _ _ _ _ _ _
   | exact LeO.none _
   | refine LeO.ite ?_ ?_
   | refine LeO.bind ?_ (fun _ => ?_)
set_option maxHeartbeats 8000000 in
set_option maxRecDepth 100000 in
theorem laws_eqClause.calls (k : Nat) (a0_0 : Int) (a0_1 : ByteArray) (a0_2 : Int) (A0_3 : Option Addr) (c0_3 : Nat) (l0_3 : List (S29)) (a0_4 : Int) (a0_5 : ByteArray) (a0_6 : Int) (A0_7 : Option Addr) (c0_7 : Nat) (l0_7 : List (S29)) (a0_8 : ByteArray) (a1_0 : Int) (a1_1 : ByteArray) (a1_2 : Int) (A1_3 : Option Addr) (c1_3 : Nat) (l1_3 : List (S29)) (a1_4 : Int) (a1_5 : ByteArray) (a1_6 : Int) (A1_7 : Option Addr) (c1_7 : Nat) (l1_7 : List (S29)) (a1_8 : ByteArray) (r : Bool) (w : World) (hr0_3 : Kd.C k29 w A0_3 l0_3.length l0_3) (hc0_3 : l0_3.length ≤ c0_3) (hr0_7 : Kd.C k29 w A0_7 l0_7.length l0_7) (hc0_7 : l0_7.length ≤ c0_7) (hr1_3 : Kd.C k29 w A1_3 l1_3.length l1_3) (hc1_3 : l1_3.length ≤ c1_3) (hr1_7 : Kd.C k29 w A1_7 l1_7.length l1_7) (hc1_7 : l1_7.length ≤ c1_7) (h : laws_eqClause.f k a0_0 a0_1 a0_2 l0_3 a0_4 a0_5 a0_6 l0_7 a0_8 a1_0 a1_1 a1_2 l1_3 a1_4 a1_5 a1_6 l1_7 a1_8 = some r) :
  Calls Tryd.prog 24 #[.agg #[.int .i64 a0_0,.string a0_1,.int .i64 a0_2,.slice A0_3 l0_3.length c0_3,.int .i64 a0_4,.string a0_5,.int .i64 a0_6,.slice A0_7 l0_7.length c0_7,.string a0_8],.agg #[.int .i64 a1_0,.string a1_1,.int .i64 a1_2,.slice A1_3 l1_3.length c1_3,.int .i64 a1_4,.string a1_5,.int .i64 a1_6,.slice A1_7 l1_7.length c1_7,.string a1_8]] w fun e w' => e = .returned (.bool r) ∧ Below w.heap.size w w':=by
 have hu48:=Tryd.underlying48
 have hu29:=Tryd.underlying29
 have HR0_3:=Aside0.mk hr0_3
 have HC0_3:=Aside0.mk hc0_3
 clear hr0_3 hc0_3
 have HR0_7:=Aside0.mk hr0_7
 have HC0_7:=Aside0.mk hc0_7
 clear hr0_7 hc0_7
 have HR1_3:=Aside0.mk hr1_3
 have HC1_3:=Aside0.mk hc1_3
 clear hr1_3 hc1_3
 have HR1_7:=Aside0.mk hr1_7
 have HC1_7:=Aside0.mk hc1_7
 clear hr1_7 hc1_7
 have HB:=Aside0.mk (Below.refl w.heap.size w)
 have H : ((laws_eqTerm.f k a0_0 a0_1 a0_2 l0_3 a1_0 a1_1 a1_2 l1_3).bind fun t205 => (if t205 = true then ((laws_eqTerm.f k a0_4 a0_5 a0_6 l0_7 a1_4 a1_5 a1_6 l1_7).bind fun t206 => (if t206 = true then (if a0_8.toList = a1_8.toList then (some true) else (some false)) else (some false))) else (some false))) = some r:=h
 clear h
 replace H:=Option.bind_eq_some_iff.mp H
 obtain ⟨t205,A30,H⟩:=H
 replace H : (if t205 = true then ((laws_eqTerm.f k a0_4 a0_5 a0_6 l0_7 a1_4 a1_5 a1_6 l1_7).bind fun t206 => (if t206 = true then (if a0_8.toList = a1_8.toList then (some true) else (some false)) else (some false))) else (some false)) = some r:=H
 have A3:=Aside0.mk A30
 clear A30
 by_cases c4 : t205 = true
 ·subst c4
  have H1 : ((laws_eqTerm.f k a0_4 a0_5 a0_6 l0_7 a1_4 a1_5 a1_6 l1_7).bind fun t206 => (if t206 = true then (if a0_8.toList = a1_8.toList then (some true) else (some false)) else (some false))) = some r:=by rw [if_pos rfl] at H;exact H
  clear H
  have H:=H1
  clear H1
  replace H:=Option.bind_eq_some_iff.mp H
  obtain ⟨t206,A50,H⟩:=H
  replace H : (if t206 = true then (if a0_8.toList = a1_8.toList then (some true) else (some false)) else (some false)) = some r:=H
  have A5:=Aside0.mk A50
  clear A50
  by_cases c6 : t206 = true
  ·subst c6
   have H1 : (if a0_8.toList = a1_8.toList then (some true) else (some false)) = some r:=by rw [if_pos rfl] at H;exact H
   clear H
   have H:=H1
   clear H1
   by_cases c7 : a0_8.toList = a1_8.toList
   ·rw [if_pos c7] at H
    have c7b0 : (a0_8.toList == a1_8.toList) = true:=beq_iff_eq.mpr c7
    have c7b1 : (a0_8.toList != a1_8.toList) = false:=bne_eq_false_iff_eq.mpr c7
    clear c7
    obtain rfl:=Option.some.inj H
    go_enter Tryd.func24,Tryd.ntmps24
    go_wp2_with (first|((with_reducible refine gate_dst (N:=2) rfl ?_);refine box_event ?hg (N:=2) ?hd (cs:=#[.int .i64 a0_0,.string a0_1,.int .i64 a0_2,.slice A0_3 l0_3.length c0_3,.int .i64 a0_4,.string a0_5,.int .i64 a0_6,.slice A0_7 l0_7.length c0_7,.string a0_8]) (t:=48) ?hr ?_;(case hd => rfl);(case hg => rfl);(case hr => first|(go_simp;done)|(go_simp;rfl));intro gb203 hg w8 hbox hb;have n0_:=Aside0.mk (below_step (by repeat (first|(with_reducible first|exact HB.out|apply below_alloc|apply pw_below_drewN|apply below_drew1)|exact HB.out)) hb);have n1_:=Aside0.mk (hbox);have n2_:=Aside0.mk ((by rw [hg];exact (below_size (by repeat (first|(with_reducible first|exact HB.out|apply below_alloc|apply pw_below_drewN|apply below_drew1)|exact HB.out))) : w.heap.size ≤ gb203));have n3_:=Aside0.mk ((by rw [hg];exact (below_size (by repeat (first|(with_reducible first|exact HB.out|apply below_alloc|apply pw_below_drewN|apply below_drew1)|exact HB.out))) : w.heap.size ≤ gb203));clear HB;have HB:=n0_;have BK203:=n1_;have GW203:=n2_;have GE203:=n3_;clear n0_ n1_ n2_ n3_;clear hb hbox hg)|((with_reducible refine gate_dst (N:=3) rfl ?_);refine box_event ?hg (N:=3) ?hd (cs:=#[.int .i64 a1_0,.string a1_1,.int .i64 a1_2,.slice A1_3 l1_3.length c1_3,.int .i64 a1_4,.string a1_5,.int .i64 a1_6,.slice A1_7 l1_7.length c1_7,.string a1_8]) (t:=48) ?hr ?_;(case hd => rfl);(case hg => rfl);(case hr => first|(go_simp;done)|(go_simp;rfl));intro gb204 hg w9 hbox hb;have n0_:=Aside0.mk (blk_below (g:=gb203) (o:=.cells #[.int .i64 a0_0,.string a0_1,.int .i64 a0_2,.slice A0_3 l0_3.length c0_3,.int .i64 a0_4,.string a0_5,.int .i64 a0_6,.slice A0_7 l0_7.length c0_7,.string a0_8] 48 (0,0)) (by (with_reducible repeat (first|refine blk_drewN ?_ _|refine blk_drew ?_|refine blk_alloc ?_ _));exact BK203.out) hb);have n1_:=Aside0.mk (below_step (by repeat (first|(with_reducible first|exact HB.out|apply below_alloc|apply pw_below_drewN|apply below_drew1|refine below_set ?_ GE203.out)|exact HB.out)) hb);have n2_:=Aside0.mk (hbox);have n3_:=Aside0.mk ((by rw [hg];exact (below_size (by repeat (first|(with_reducible first|exact HB.out|apply below_alloc|apply pw_below_drewN|apply below_drew1|refine below_set ?_ GE203.out)|exact HB.out))) : w.heap.size ≤ gb204));have n4_:=Aside0.mk ((by rw [hg];exact (below_size (by repeat (first|(with_reducible first|exact HB.out|apply below_alloc|apply pw_below_drewN|apply below_drew1|refine below_set ?_ GE203.out)|exact HB.out))) : w.heap.size ≤ gb204));have n5_:=Aside0.mk ((by rw [hg];exact Nat.ne_of_lt (blk_lt (g:=gb203) (o:=.cells #[.int .i64 a0_0,.string a0_1,.int .i64 a0_2,.slice A0_3 l0_3.length c0_3,.int .i64 a0_4,.string a0_5,.int .i64 a0_6,.slice A0_7 l0_7.length c0_7,.string a0_8] 48 (0,0)) (by (with_reducible repeat (first|refine blk_drewN ?_ _|refine blk_drew ?_|refine blk_alloc ?_ _));exact BK203.out)) : gb203 ≠ gb204));have n6_:=Aside0.mk ((by rw [hg];exact Nat.ne_of_gt (blk_lt (g:=gb203) (o:=.cells #[.int .i64 a0_0,.string a0_1,.int .i64 a0_2,.slice A0_3 l0_3.length c0_3,.int .i64 a0_4,.string a0_5,.int .i64 a0_6,.slice A0_7 l0_7.length c0_7,.string a0_8] 48 (0,0)) (by (with_reducible repeat (first|refine blk_drewN ?_ _|refine blk_drew ?_|refine blk_alloc ?_ _));exact BK203.out)) : gb204 ≠ gb203));clear BK203;clear HB;have BK203:=n0_;have HB:=n1_;have BK204:=n2_;have GW204:=n3_;have GE204:=n4_;have NB203_204:=n5_;have NB204_203:=n6_;clear n0_ n1_ n2_ n3_ n4_ n5_ n6_;clear hb hbox hg;have hnb10:=NB203_204.out;have hnc10:=NB204_203.out;have hcz11_0 : w9.cell? ⟨gb203,0,none⟩ = some (.int .i64 a0_0):=(blk_cell BK203.out 0).trans rfl;have hcz11_1 : w9.cell? ⟨gb203,1,none⟩ = some (.string a0_1):=(blk_cell BK203.out 1).trans rfl;have hcz11_2 : w9.cell? ⟨gb203,2,none⟩ = some (.int .i64 a0_2):=(blk_cell BK203.out 2).trans rfl;have hcz11_3 : w9.cell? ⟨gb203,3,none⟩ = some (.slice A0_3 l0_3.length c0_3):=(blk_cell BK203.out 3).trans rfl;have hcz11_4 : w9.cell? ⟨gb203,4,none⟩ = some (.int .i64 a0_4):=(blk_cell BK203.out 4).trans rfl;have hcz11_5 : w9.cell? ⟨gb203,5,none⟩ = some (.string a0_5):=(blk_cell BK203.out 5).trans rfl;have hcz11_6 : w9.cell? ⟨gb203,6,none⟩ = some (.int .i64 a0_6):=(blk_cell BK203.out 6).trans rfl;have hcz11_7 : w9.cell? ⟨gb203,7,none⟩ = some (.slice A0_7 l0_7.length c0_7):=(blk_cell BK203.out 7).trans rfl;have hcz11_8 : w9.cell? ⟨gb203,8,none⟩ = some (.string a0_8):=(blk_cell BK203.out 8).trans rfl;have hfz11_0:=blk_frozen BK203.out 0;have hfz11_1:=blk_frozen BK203.out 1;have hfz11_2:=blk_frozen BK203.out 2;have hfz11_3:=blk_frozen BK203.out 3;have hfz11_4:=blk_frozen BK203.out 4;have hfz11_5:=blk_frozen BK203.out 5;have hfz11_6:=blk_frozen BK203.out 6;have hfz11_7:=blk_frozen BK203.out 7;have hfz11_8:=blk_frozen BK203.out 8;have hcz12_0 : w9.cell? ⟨gb204,0,none⟩ = some (.int .i64 a1_0):=(blk_cell BK204.out 0).trans rfl;have hcz12_1 : w9.cell? ⟨gb204,1,none⟩ = some (.string a1_1):=(blk_cell BK204.out 1).trans rfl;have hcz12_2 : w9.cell? ⟨gb204,2,none⟩ = some (.int .i64 a1_2):=(blk_cell BK204.out 2).trans rfl;have hcz12_3 : w9.cell? ⟨gb204,3,none⟩ = some (.slice A1_3 l1_3.length c1_3):=(blk_cell BK204.out 3).trans rfl;have hcz12_4 : w9.cell? ⟨gb204,4,none⟩ = some (.int .i64 a1_4):=(blk_cell BK204.out 4).trans rfl;have hcz12_5 : w9.cell? ⟨gb204,5,none⟩ = some (.string a1_5):=(blk_cell BK204.out 5).trans rfl;have hcz12_6 : w9.cell? ⟨gb204,6,none⟩ = some (.int .i64 a1_6):=(blk_cell BK204.out 6).trans rfl;have hcz12_7 : w9.cell? ⟨gb204,7,none⟩ = some (.slice A1_7 l1_7.length c1_7):=(blk_cell BK204.out 7).trans rfl;have hcz12_8 : w9.cell? ⟨gb204,8,none⟩ = some (.string a1_8):=(blk_cell BK204.out 8).trans rfl;have hfz12_0:=blk_frozen BK204.out 0;have hfz12_1:=blk_frozen BK204.out 1;have hfz12_2:=blk_frozen BK204.out 2;have hfz12_3:=blk_frozen BK204.out 3;have hfz12_4:=blk_frozen BK204.out 4;have hfz12_5:=blk_frozen BK204.out 5;have hfz12_6:=blk_frozen BK204.out 6;have hfz12_7:=blk_frozen BK204.out 7;have hfz12_8:=blk_frozen BK204.out 8)|((with_reducible refine gate_callee (f:=14) rfl ?_);refine goesL_ (some 9) rfl rfl Tryd.func14 (by kernel_rfl) rfl #[.agg #[.int .i64 a0_0,.string a0_1,.int .i64 a0_2,.slice A0_3 l0_3.length c0_3],.agg #[.int .i64 a1_0,.string a1_1,.int .i64 a1_2,.slice A1_3 l1_3.length c1_3]] rfl (by (try simp only [List.map_toArray,List.map_cons,List.map_nil]);first|done|rfl|(simp only [List.length_drop,List.length_take];rfl)) ?_;(with_reducible refine (laws_eqTerm.calls k a0_0 a0_1 a0_2 _ _ l0_3 a1_0 a1_1 a1_2 _ _ l1_3 true _ ?side1 ?side2 ?side3 ?side4 A3.out).mono ?_);(case side1 => repeat (first|exact (Kd.C_below HR0_3.out HB.out)|(with_reducible refine Kd.C_alloc ?_ _)|(with_reducible refine Kd.C_drewN ?_ _)|(with_reducible refine Kd.C_drew ?_)));(case side2 => exact HC0_3.out);(case side3 => repeat (first|exact (Kd.C_below HR1_3.out HB.out)|(with_reducible refine Kd.C_alloc ?_ _)|(with_reducible refine Kd.C_drewN ?_ _)|(with_reducible refine Kd.C_drew ?_)));(case side4 => exact HC1_3.out);rintro e w13 ⟨rfl,hb⟩;refine ⟨_,rfl,?_⟩;have n0_:=Aside0.mk (blk_below (g:=gb203) (o:=.cells #[.int .i64 a0_0,.string a0_1,.int .i64 a0_2,.slice A0_3 l0_3.length c0_3,.int .i64 a0_4,.string a0_5,.int .i64 a0_6,.slice A0_7 l0_7.length c0_7,.string a0_8] 48 (0,0)) (by (with_reducible repeat (first|refine blk_drewN ?_ _|refine blk_drew ?_|refine blk_alloc ?_ _));exact BK203.out) hb);have n1_:=Aside0.mk (blk_below (g:=gb204) (o:=.cells #[.int .i64 a1_0,.string a1_1,.int .i64 a1_2,.slice A1_3 l1_3.length c1_3,.int .i64 a1_4,.string a1_5,.int .i64 a1_6,.slice A1_7 l1_7.length c1_7,.string a1_8] 48 (0,0)) (by (with_reducible repeat (first|refine blk_drewN ?_ _|refine blk_drew ?_|refine blk_alloc ?_ _));exact BK204.out) hb);have n2_:=Aside0.mk (below_step (by repeat (first|(with_reducible first|exact HB.out|apply below_alloc|apply pw_below_drewN|apply below_drew1|refine below_set ?_ GE203.out|refine below_set ?_ GE204.out)|exact HB.out)) hb);clear BK203;clear BK204;clear HB;have BK203:=n0_;have BK204:=n1_;have HB:=n2_;clear n0_ n1_ n2_;(try clear hb);(try clear hb2);(try clear hk);(try clear hi);have hcz14_0 : w13.cell? ⟨gb203,0,none⟩ = some (.int .i64 a0_0):=(blk_cell BK203.out 0).trans rfl;have hcz14_1 : w13.cell? ⟨gb203,1,none⟩ = some (.string a0_1):=(blk_cell BK203.out 1).trans rfl;have hcz14_2 : w13.cell? ⟨gb203,2,none⟩ = some (.int .i64 a0_2):=(blk_cell BK203.out 2).trans rfl;have hcz14_3 : w13.cell? ⟨gb203,3,none⟩ = some (.slice A0_3 l0_3.length c0_3):=(blk_cell BK203.out 3).trans rfl;have hcz14_4 : w13.cell? ⟨gb203,4,none⟩ = some (.int .i64 a0_4):=(blk_cell BK203.out 4).trans rfl;have hcz14_5 : w13.cell? ⟨gb203,5,none⟩ = some (.string a0_5):=(blk_cell BK203.out 5).trans rfl;have hcz14_6 : w13.cell? ⟨gb203,6,none⟩ = some (.int .i64 a0_6):=(blk_cell BK203.out 6).trans rfl;have hcz14_7 : w13.cell? ⟨gb203,7,none⟩ = some (.slice A0_7 l0_7.length c0_7):=(blk_cell BK203.out 7).trans rfl;have hcz14_8 : w13.cell? ⟨gb203,8,none⟩ = some (.string a0_8):=(blk_cell BK203.out 8).trans rfl;have hfz14_0:=blk_frozen BK203.out 0;have hfz14_1:=blk_frozen BK203.out 1;have hfz14_2:=blk_frozen BK203.out 2;have hfz14_3:=blk_frozen BK203.out 3;have hfz14_4:=blk_frozen BK203.out 4;have hfz14_5:=blk_frozen BK203.out 5;have hfz14_6:=blk_frozen BK203.out 6;have hfz14_7:=blk_frozen BK203.out 7;have hfz14_8:=blk_frozen BK203.out 8;have hcz15_0 : w13.cell? ⟨gb204,0,none⟩ = some (.int .i64 a1_0):=(blk_cell BK204.out 0).trans rfl;have hcz15_1 : w13.cell? ⟨gb204,1,none⟩ = some (.string a1_1):=(blk_cell BK204.out 1).trans rfl;have hcz15_2 : w13.cell? ⟨gb204,2,none⟩ = some (.int .i64 a1_2):=(blk_cell BK204.out 2).trans rfl;have hcz15_3 : w13.cell? ⟨gb204,3,none⟩ = some (.slice A1_3 l1_3.length c1_3):=(blk_cell BK204.out 3).trans rfl;have hcz15_4 : w13.cell? ⟨gb204,4,none⟩ = some (.int .i64 a1_4):=(blk_cell BK204.out 4).trans rfl;have hcz15_5 : w13.cell? ⟨gb204,5,none⟩ = some (.string a1_5):=(blk_cell BK204.out 5).trans rfl;have hcz15_6 : w13.cell? ⟨gb204,6,none⟩ = some (.int .i64 a1_6):=(blk_cell BK204.out 6).trans rfl;have hcz15_7 : w13.cell? ⟨gb204,7,none⟩ = some (.slice A1_7 l1_7.length c1_7):=(blk_cell BK204.out 7).trans rfl;have hcz15_8 : w13.cell? ⟨gb204,8,none⟩ = some (.string a1_8):=(blk_cell BK204.out 8).trans rfl;have hfz15_0:=blk_frozen BK204.out 0;have hfz15_1:=blk_frozen BK204.out 1;have hfz15_2:=blk_frozen BK204.out 2;have hfz15_3:=blk_frozen BK204.out 3;have hfz15_4:=blk_frozen BK204.out 4;have hfz15_5:=blk_frozen BK204.out 5;have hfz15_6:=blk_frozen BK204.out 6;have hfz15_7:=blk_frozen BK204.out 7;have hfz15_8:=blk_frozen BK204.out 8)|((with_reducible refine gate_callee (f:=14) rfl ?_);refine goesL_ (some 15) rfl rfl Tryd.func14 (by kernel_rfl) rfl #[.agg #[.int .i64 a0_4,.string a0_5,.int .i64 a0_6,.slice A0_7 l0_7.length c0_7],.agg #[.int .i64 a1_4,.string a1_5,.int .i64 a1_6,.slice A1_7 l1_7.length c1_7]] rfl (by (try simp only [List.map_toArray,List.map_cons,List.map_nil]);first|done|rfl|(simp only [List.length_drop,List.length_take];rfl)) ?_;(with_reducible refine (laws_eqTerm.calls k a0_4 a0_5 a0_6 _ _ l0_7 a1_4 a1_5 a1_6 _ _ l1_7 true _ ?side1 ?side2 ?side3 ?side4 A5.out).mono ?_);(case side1 => repeat (first|exact (Kd.C_below HR0_7.out HB.out)|(with_reducible refine Kd.C_alloc ?_ _)|(with_reducible refine Kd.C_drewN ?_ _)|(with_reducible refine Kd.C_drew ?_)));(case side2 => exact HC0_7.out);(case side3 => repeat (first|exact (Kd.C_below HR1_7.out HB.out)|(with_reducible refine Kd.C_alloc ?_ _)|(with_reducible refine Kd.C_drewN ?_ _)|(with_reducible refine Kd.C_drew ?_)));(case side4 => exact HC1_7.out);rintro e w16 ⟨rfl,hb⟩;refine ⟨_,rfl,?_⟩;have n0_:=Aside0.mk (blk_below (g:=gb203) (o:=.cells #[.int .i64 a0_0,.string a0_1,.int .i64 a0_2,.slice A0_3 l0_3.length c0_3,.int .i64 a0_4,.string a0_5,.int .i64 a0_6,.slice A0_7 l0_7.length c0_7,.string a0_8] 48 (0,0)) (by (with_reducible repeat (first|refine blk_drewN ?_ _|refine blk_drew ?_|refine blk_alloc ?_ _));exact BK203.out) hb);have n1_:=Aside0.mk (blk_below (g:=gb204) (o:=.cells #[.int .i64 a1_0,.string a1_1,.int .i64 a1_2,.slice A1_3 l1_3.length c1_3,.int .i64 a1_4,.string a1_5,.int .i64 a1_6,.slice A1_7 l1_7.length c1_7,.string a1_8] 48 (0,0)) (by (with_reducible repeat (first|refine blk_drewN ?_ _|refine blk_drew ?_|refine blk_alloc ?_ _));exact BK204.out) hb);have n2_:=Aside0.mk (below_step (by repeat (first|(with_reducible first|exact HB.out|apply below_alloc|apply pw_below_drewN|apply below_drew1|refine below_set ?_ GE203.out|refine below_set ?_ GE204.out)|exact HB.out)) hb);clear BK203;clear BK204;clear HB;have BK203:=n0_;have BK204:=n1_;have HB:=n2_;clear n0_ n1_ n2_;(try clear hb);(try clear hb2);(try clear hk);(try clear hi);have hcz17_0 : w16.cell? ⟨gb203,0,none⟩ = some (.int .i64 a0_0):=(blk_cell BK203.out 0).trans rfl;have hcz17_1 : w16.cell? ⟨gb203,1,none⟩ = some (.string a0_1):=(blk_cell BK203.out 1).trans rfl;have hcz17_2 : w16.cell? ⟨gb203,2,none⟩ = some (.int .i64 a0_2):=(blk_cell BK203.out 2).trans rfl;have hcz17_3 : w16.cell? ⟨gb203,3,none⟩ = some (.slice A0_3 l0_3.length c0_3):=(blk_cell BK203.out 3).trans rfl;have hcz17_4 : w16.cell? ⟨gb203,4,none⟩ = some (.int .i64 a0_4):=(blk_cell BK203.out 4).trans rfl;have hcz17_5 : w16.cell? ⟨gb203,5,none⟩ = some (.string a0_5):=(blk_cell BK203.out 5).trans rfl;have hcz17_6 : w16.cell? ⟨gb203,6,none⟩ = some (.int .i64 a0_6):=(blk_cell BK203.out 6).trans rfl;have hcz17_7 : w16.cell? ⟨gb203,7,none⟩ = some (.slice A0_7 l0_7.length c0_7):=(blk_cell BK203.out 7).trans rfl;have hcz17_8 : w16.cell? ⟨gb203,8,none⟩ = some (.string a0_8):=(blk_cell BK203.out 8).trans rfl;have hfz17_0:=blk_frozen BK203.out 0;have hfz17_1:=blk_frozen BK203.out 1;have hfz17_2:=blk_frozen BK203.out 2;have hfz17_3:=blk_frozen BK203.out 3;have hfz17_4:=blk_frozen BK203.out 4;have hfz17_5:=blk_frozen BK203.out 5;have hfz17_6:=blk_frozen BK203.out 6;have hfz17_7:=blk_frozen BK203.out 7;have hfz17_8:=blk_frozen BK203.out 8;have hcz18_0 : w16.cell? ⟨gb204,0,none⟩ = some (.int .i64 a1_0):=(blk_cell BK204.out 0).trans rfl;have hcz18_1 : w16.cell? ⟨gb204,1,none⟩ = some (.string a1_1):=(blk_cell BK204.out 1).trans rfl;have hcz18_2 : w16.cell? ⟨gb204,2,none⟩ = some (.int .i64 a1_2):=(blk_cell BK204.out 2).trans rfl;have hcz18_3 : w16.cell? ⟨gb204,3,none⟩ = some (.slice A1_3 l1_3.length c1_3):=(blk_cell BK204.out 3).trans rfl;have hcz18_4 : w16.cell? ⟨gb204,4,none⟩ = some (.int .i64 a1_4):=(blk_cell BK204.out 4).trans rfl;have hcz18_5 : w16.cell? ⟨gb204,5,none⟩ = some (.string a1_5):=(blk_cell BK204.out 5).trans rfl;have hcz18_6 : w16.cell? ⟨gb204,6,none⟩ = some (.int .i64 a1_6):=(blk_cell BK204.out 6).trans rfl;have hcz18_7 : w16.cell? ⟨gb204,7,none⟩ = some (.slice A1_7 l1_7.length c1_7):=(blk_cell BK204.out 7).trans rfl;have hcz18_8 : w16.cell? ⟨gb204,8,none⟩ = some (.string a1_8):=(blk_cell BK204.out 8).trans rfl;have hfz18_0:=blk_frozen BK204.out 0;have hfz18_1:=blk_frozen BK204.out 1;have hfz18_2:=blk_frozen BK204.out 2;have hfz18_3:=blk_frozen BK204.out 3;have hfz18_4:=blk_frozen BK204.out 4;have hfz18_5:=blk_frozen BK204.out 5;have hfz18_6:=blk_frozen BK204.out 6;have hfz18_7:=blk_frozen BK204.out 7;have hfz18_8:=blk_frozen BK204.out 8))
    go_ret
    exact ⟨by first|rfl|(simp [errW_none,errW_some] <;> rfl)|(simp [*,errW_none,errW_some] <;> rfl),by repeat (first|(with_reducible first|exact HB.out|apply below_alloc|apply pw_below_drewN|apply below_drew1|refine below_set ?_ GE203.out|refine below_set ?_ GE204.out)|exact HB.out)⟩
   ·rw [if_neg c7] at H
    have c7b0 : (a0_8.toList == a1_8.toList) = false:=beq_eq_false_iff_ne.mpr c7
    have c7b1 : (a0_8.toList != a1_8.toList) = true:=bne_iff_ne.mpr c7
    obtain rfl:=Option.some.inj H
    go_enter Tryd.func24,Tryd.ntmps24
    go_wp2_with (first|((with_reducible refine gate_dst (N:=2) rfl ?_);refine box_event ?hg (N:=2) ?hd (cs:=#[.int .i64 a0_0,.string a0_1,.int .i64 a0_2,.slice A0_3 l0_3.length c0_3,.int .i64 a0_4,.string a0_5,.int .i64 a0_6,.slice A0_7 l0_7.length c0_7,.string a0_8]) (t:=48) ?hr ?_;(case hd => rfl);(case hg => rfl);(case hr => first|(go_simp;done)|(go_simp;rfl));intro gb203 hg w19 hbox hb;have n0_:=Aside0.mk (below_step (by repeat (first|(with_reducible first|exact HB.out|apply below_alloc|apply pw_below_drewN|apply below_drew1)|exact HB.out)) hb);have n1_:=Aside0.mk (hbox);have n2_:=Aside0.mk ((by rw [hg];exact (below_size (by repeat (first|(with_reducible first|exact HB.out|apply below_alloc|apply pw_below_drewN|apply below_drew1)|exact HB.out))) : w.heap.size ≤ gb203));have n3_:=Aside0.mk ((by rw [hg];exact (below_size (by repeat (first|(with_reducible first|exact HB.out|apply below_alloc|apply pw_below_drewN|apply below_drew1)|exact HB.out))) : w.heap.size ≤ gb203));clear HB;have HB:=n0_;have BK203:=n1_;have GW203:=n2_;have GE203:=n3_;clear n0_ n1_ n2_ n3_;clear hb hbox hg)|((with_reducible refine gate_dst (N:=3) rfl ?_);refine box_event ?hg (N:=3) ?hd (cs:=#[.int .i64 a1_0,.string a1_1,.int .i64 a1_2,.slice A1_3 l1_3.length c1_3,.int .i64 a1_4,.string a1_5,.int .i64 a1_6,.slice A1_7 l1_7.length c1_7,.string a1_8]) (t:=48) ?hr ?_;(case hd => rfl);(case hg => rfl);(case hr => first|(go_simp;done)|(go_simp;rfl));intro gb204 hg w20 hbox hb;have n0_:=Aside0.mk (blk_below (g:=gb203) (o:=.cells #[.int .i64 a0_0,.string a0_1,.int .i64 a0_2,.slice A0_3 l0_3.length c0_3,.int .i64 a0_4,.string a0_5,.int .i64 a0_6,.slice A0_7 l0_7.length c0_7,.string a0_8] 48 (0,0)) (by (with_reducible repeat (first|refine blk_drewN ?_ _|refine blk_drew ?_|refine blk_alloc ?_ _));exact BK203.out) hb);have n1_:=Aside0.mk (below_step (by repeat (first|(with_reducible first|exact HB.out|apply below_alloc|apply pw_below_drewN|apply below_drew1|refine below_set ?_ GE203.out)|exact HB.out)) hb);have n2_:=Aside0.mk (hbox);have n3_:=Aside0.mk ((by rw [hg];exact (below_size (by repeat (first|(with_reducible first|exact HB.out|apply below_alloc|apply pw_below_drewN|apply below_drew1|refine below_set ?_ GE203.out)|exact HB.out))) : w.heap.size ≤ gb204));have n4_:=Aside0.mk ((by rw [hg];exact (below_size (by repeat (first|(with_reducible first|exact HB.out|apply below_alloc|apply pw_below_drewN|apply below_drew1|refine below_set ?_ GE203.out)|exact HB.out))) : w.heap.size ≤ gb204));have n5_:=Aside0.mk ((by rw [hg];exact Nat.ne_of_lt (blk_lt (g:=gb203) (o:=.cells #[.int .i64 a0_0,.string a0_1,.int .i64 a0_2,.slice A0_3 l0_3.length c0_3,.int .i64 a0_4,.string a0_5,.int .i64 a0_6,.slice A0_7 l0_7.length c0_7,.string a0_8] 48 (0,0)) (by (with_reducible repeat (first|refine blk_drewN ?_ _|refine blk_drew ?_|refine blk_alloc ?_ _));exact BK203.out)) : gb203 ≠ gb204));have n6_:=Aside0.mk ((by rw [hg];exact Nat.ne_of_gt (blk_lt (g:=gb203) (o:=.cells #[.int .i64 a0_0,.string a0_1,.int .i64 a0_2,.slice A0_3 l0_3.length c0_3,.int .i64 a0_4,.string a0_5,.int .i64 a0_6,.slice A0_7 l0_7.length c0_7,.string a0_8] 48 (0,0)) (by (with_reducible repeat (first|refine blk_drewN ?_ _|refine blk_drew ?_|refine blk_alloc ?_ _));exact BK203.out)) : gb204 ≠ gb203));clear BK203;clear HB;have BK203:=n0_;have HB:=n1_;have BK204:=n2_;have GW204:=n3_;have GE204:=n4_;have NB203_204:=n5_;have NB204_203:=n6_;clear n0_ n1_ n2_ n3_ n4_ n5_ n6_;clear hb hbox hg;have hnb21:=NB203_204.out;have hnc21:=NB204_203.out;have hcz22_0 : w20.cell? ⟨gb203,0,none⟩ = some (.int .i64 a0_0):=(blk_cell BK203.out 0).trans rfl;have hcz22_1 : w20.cell? ⟨gb203,1,none⟩ = some (.string a0_1):=(blk_cell BK203.out 1).trans rfl;have hcz22_2 : w20.cell? ⟨gb203,2,none⟩ = some (.int .i64 a0_2):=(blk_cell BK203.out 2).trans rfl;have hcz22_3 : w20.cell? ⟨gb203,3,none⟩ = some (.slice A0_3 l0_3.length c0_3):=(blk_cell BK203.out 3).trans rfl;have hcz22_4 : w20.cell? ⟨gb203,4,none⟩ = some (.int .i64 a0_4):=(blk_cell BK203.out 4).trans rfl;have hcz22_5 : w20.cell? ⟨gb203,5,none⟩ = some (.string a0_5):=(blk_cell BK203.out 5).trans rfl;have hcz22_6 : w20.cell? ⟨gb203,6,none⟩ = some (.int .i64 a0_6):=(blk_cell BK203.out 6).trans rfl;have hcz22_7 : w20.cell? ⟨gb203,7,none⟩ = some (.slice A0_7 l0_7.length c0_7):=(blk_cell BK203.out 7).trans rfl;have hcz22_8 : w20.cell? ⟨gb203,8,none⟩ = some (.string a0_8):=(blk_cell BK203.out 8).trans rfl;have hfz22_0:=blk_frozen BK203.out 0;have hfz22_1:=blk_frozen BK203.out 1;have hfz22_2:=blk_frozen BK203.out 2;have hfz22_3:=blk_frozen BK203.out 3;have hfz22_4:=blk_frozen BK203.out 4;have hfz22_5:=blk_frozen BK203.out 5;have hfz22_6:=blk_frozen BK203.out 6;have hfz22_7:=blk_frozen BK203.out 7;have hfz22_8:=blk_frozen BK203.out 8;have hcz23_0 : w20.cell? ⟨gb204,0,none⟩ = some (.int .i64 a1_0):=(blk_cell BK204.out 0).trans rfl;have hcz23_1 : w20.cell? ⟨gb204,1,none⟩ = some (.string a1_1):=(blk_cell BK204.out 1).trans rfl;have hcz23_2 : w20.cell? ⟨gb204,2,none⟩ = some (.int .i64 a1_2):=(blk_cell BK204.out 2).trans rfl;have hcz23_3 : w20.cell? ⟨gb204,3,none⟩ = some (.slice A1_3 l1_3.length c1_3):=(blk_cell BK204.out 3).trans rfl;have hcz23_4 : w20.cell? ⟨gb204,4,none⟩ = some (.int .i64 a1_4):=(blk_cell BK204.out 4).trans rfl;have hcz23_5 : w20.cell? ⟨gb204,5,none⟩ = some (.string a1_5):=(blk_cell BK204.out 5).trans rfl;have hcz23_6 : w20.cell? ⟨gb204,6,none⟩ = some (.int .i64 a1_6):=(blk_cell BK204.out 6).trans rfl;have hcz23_7 : w20.cell? ⟨gb204,7,none⟩ = some (.slice A1_7 l1_7.length c1_7):=(blk_cell BK204.out 7).trans rfl;have hcz23_8 : w20.cell? ⟨gb204,8,none⟩ = some (.string a1_8):=(blk_cell BK204.out 8).trans rfl;have hfz23_0:=blk_frozen BK204.out 0;have hfz23_1:=blk_frozen BK204.out 1;have hfz23_2:=blk_frozen BK204.out 2;have hfz23_3:=blk_frozen BK204.out 3;have hfz23_4:=blk_frozen BK204.out 4;have hfz23_5:=blk_frozen BK204.out 5;have hfz23_6:=blk_frozen BK204.out 6;have hfz23_7:=blk_frozen BK204.out 7;have hfz23_8:=blk_frozen BK204.out 8)|((with_reducible refine gate_callee (f:=14) rfl ?_);refine goesL_ (some 9) rfl rfl Tryd.func14 (by kernel_rfl) rfl #[.agg #[.int .i64 a0_0,.string a0_1,.int .i64 a0_2,.slice A0_3 l0_3.length c0_3],.agg #[.int .i64 a1_0,.string a1_1,.int .i64 a1_2,.slice A1_3 l1_3.length c1_3]] rfl (by (try simp only [List.map_toArray,List.map_cons,List.map_nil]);first|done|rfl|(simp only [List.length_drop,List.length_take];rfl)) ?_;(with_reducible refine (laws_eqTerm.calls k a0_0 a0_1 a0_2 _ _ l0_3 a1_0 a1_1 a1_2 _ _ l1_3 true _ ?side1 ?side2 ?side3 ?side4 A3.out).mono ?_);(case side1 => repeat (first|exact (Kd.C_below HR0_3.out HB.out)|(with_reducible refine Kd.C_alloc ?_ _)|(with_reducible refine Kd.C_drewN ?_ _)|(with_reducible refine Kd.C_drew ?_)));(case side2 => exact HC0_3.out);(case side3 => repeat (first|exact (Kd.C_below HR1_3.out HB.out)|(with_reducible refine Kd.C_alloc ?_ _)|(with_reducible refine Kd.C_drewN ?_ _)|(with_reducible refine Kd.C_drew ?_)));(case side4 => exact HC1_3.out);rintro e w24 ⟨rfl,hb⟩;refine ⟨_,rfl,?_⟩;have n0_:=Aside0.mk (blk_below (g:=gb203) (o:=.cells #[.int .i64 a0_0,.string a0_1,.int .i64 a0_2,.slice A0_3 l0_3.length c0_3,.int .i64 a0_4,.string a0_5,.int .i64 a0_6,.slice A0_7 l0_7.length c0_7,.string a0_8] 48 (0,0)) (by (with_reducible repeat (first|refine blk_drewN ?_ _|refine blk_drew ?_|refine blk_alloc ?_ _));exact BK203.out) hb);have n1_:=Aside0.mk (blk_below (g:=gb204) (o:=.cells #[.int .i64 a1_0,.string a1_1,.int .i64 a1_2,.slice A1_3 l1_3.length c1_3,.int .i64 a1_4,.string a1_5,.int .i64 a1_6,.slice A1_7 l1_7.length c1_7,.string a1_8] 48 (0,0)) (by (with_reducible repeat (first|refine blk_drewN ?_ _|refine blk_drew ?_|refine blk_alloc ?_ _));exact BK204.out) hb);have n2_:=Aside0.mk (below_step (by repeat (first|(with_reducible first|exact HB.out|apply below_alloc|apply pw_below_drewN|apply below_drew1|refine below_set ?_ GE203.out|refine below_set ?_ GE204.out)|exact HB.out)) hb);clear BK203;clear BK204;clear HB;have BK203:=n0_;have BK204:=n1_;have HB:=n2_;clear n0_ n1_ n2_;(try clear hb);(try clear hb2);(try clear hk);(try clear hi);have hcz25_0 : w24.cell? ⟨gb203,0,none⟩ = some (.int .i64 a0_0):=(blk_cell BK203.out 0).trans rfl;have hcz25_1 : w24.cell? ⟨gb203,1,none⟩ = some (.string a0_1):=(blk_cell BK203.out 1).trans rfl;have hcz25_2 : w24.cell? ⟨gb203,2,none⟩ = some (.int .i64 a0_2):=(blk_cell BK203.out 2).trans rfl;have hcz25_3 : w24.cell? ⟨gb203,3,none⟩ = some (.slice A0_3 l0_3.length c0_3):=(blk_cell BK203.out 3).trans rfl;have hcz25_4 : w24.cell? ⟨gb203,4,none⟩ = some (.int .i64 a0_4):=(blk_cell BK203.out 4).trans rfl;have hcz25_5 : w24.cell? ⟨gb203,5,none⟩ = some (.string a0_5):=(blk_cell BK203.out 5).trans rfl;have hcz25_6 : w24.cell? ⟨gb203,6,none⟩ = some (.int .i64 a0_6):=(blk_cell BK203.out 6).trans rfl;have hcz25_7 : w24.cell? ⟨gb203,7,none⟩ = some (.slice A0_7 l0_7.length c0_7):=(blk_cell BK203.out 7).trans rfl;have hcz25_8 : w24.cell? ⟨gb203,8,none⟩ = some (.string a0_8):=(blk_cell BK203.out 8).trans rfl;have hfz25_0:=blk_frozen BK203.out 0;have hfz25_1:=blk_frozen BK203.out 1;have hfz25_2:=blk_frozen BK203.out 2;have hfz25_3:=blk_frozen BK203.out 3;have hfz25_4:=blk_frozen BK203.out 4;have hfz25_5:=blk_frozen BK203.out 5;have hfz25_6:=blk_frozen BK203.out 6;have hfz25_7:=blk_frozen BK203.out 7;have hfz25_8:=blk_frozen BK203.out 8;have hcz26_0 : w24.cell? ⟨gb204,0,none⟩ = some (.int .i64 a1_0):=(blk_cell BK204.out 0).trans rfl;have hcz26_1 : w24.cell? ⟨gb204,1,none⟩ = some (.string a1_1):=(blk_cell BK204.out 1).trans rfl;have hcz26_2 : w24.cell? ⟨gb204,2,none⟩ = some (.int .i64 a1_2):=(blk_cell BK204.out 2).trans rfl;have hcz26_3 : w24.cell? ⟨gb204,3,none⟩ = some (.slice A1_3 l1_3.length c1_3):=(blk_cell BK204.out 3).trans rfl;have hcz26_4 : w24.cell? ⟨gb204,4,none⟩ = some (.int .i64 a1_4):=(blk_cell BK204.out 4).trans rfl;have hcz26_5 : w24.cell? ⟨gb204,5,none⟩ = some (.string a1_5):=(blk_cell BK204.out 5).trans rfl;have hcz26_6 : w24.cell? ⟨gb204,6,none⟩ = some (.int .i64 a1_6):=(blk_cell BK204.out 6).trans rfl;have hcz26_7 : w24.cell? ⟨gb204,7,none⟩ = some (.slice A1_7 l1_7.length c1_7):=(blk_cell BK204.out 7).trans rfl;have hcz26_8 : w24.cell? ⟨gb204,8,none⟩ = some (.string a1_8):=(blk_cell BK204.out 8).trans rfl;have hfz26_0:=blk_frozen BK204.out 0;have hfz26_1:=blk_frozen BK204.out 1;have hfz26_2:=blk_frozen BK204.out 2;have hfz26_3:=blk_frozen BK204.out 3;have hfz26_4:=blk_frozen BK204.out 4;have hfz26_5:=blk_frozen BK204.out 5;have hfz26_6:=blk_frozen BK204.out 6;have hfz26_7:=blk_frozen BK204.out 7;have hfz26_8:=blk_frozen BK204.out 8)|((with_reducible refine gate_callee (f:=14) rfl ?_);refine goesL_ (some 15) rfl rfl Tryd.func14 (by kernel_rfl) rfl #[.agg #[.int .i64 a0_4,.string a0_5,.int .i64 a0_6,.slice A0_7 l0_7.length c0_7],.agg #[.int .i64 a1_4,.string a1_5,.int .i64 a1_6,.slice A1_7 l1_7.length c1_7]] rfl (by (try simp only [List.map_toArray,List.map_cons,List.map_nil]);first|done|rfl|(simp only [List.length_drop,List.length_take];rfl)) ?_;(with_reducible refine (laws_eqTerm.calls k a0_4 a0_5 a0_6 _ _ l0_7 a1_4 a1_5 a1_6 _ _ l1_7 true _ ?side1 ?side2 ?side3 ?side4 A5.out).mono ?_);(case side1 => repeat (first|exact (Kd.C_below HR0_7.out HB.out)|(with_reducible refine Kd.C_alloc ?_ _)|(with_reducible refine Kd.C_drewN ?_ _)|(with_reducible refine Kd.C_drew ?_)));(case side2 => exact HC0_7.out);(case side3 => repeat (first|exact (Kd.C_below HR1_7.out HB.out)|(with_reducible refine Kd.C_alloc ?_ _)|(with_reducible refine Kd.C_drewN ?_ _)|(with_reducible refine Kd.C_drew ?_)));(case side4 => exact HC1_7.out);rintro e w27 ⟨rfl,hb⟩;refine ⟨_,rfl,?_⟩;have n0_:=Aside0.mk (blk_below (g:=gb203) (o:=.cells #[.int .i64 a0_0,.string a0_1,.int .i64 a0_2,.slice A0_3 l0_3.length c0_3,.int .i64 a0_4,.string a0_5,.int .i64 a0_6,.slice A0_7 l0_7.length c0_7,.string a0_8] 48 (0,0)) (by (with_reducible repeat (first|refine blk_drewN ?_ _|refine blk_drew ?_|refine blk_alloc ?_ _));exact BK203.out) hb);have n1_:=Aside0.mk (blk_below (g:=gb204) (o:=.cells #[.int .i64 a1_0,.string a1_1,.int .i64 a1_2,.slice A1_3 l1_3.length c1_3,.int .i64 a1_4,.string a1_5,.int .i64 a1_6,.slice A1_7 l1_7.length c1_7,.string a1_8] 48 (0,0)) (by (with_reducible repeat (first|refine blk_drewN ?_ _|refine blk_drew ?_|refine blk_alloc ?_ _));exact BK204.out) hb);have n2_:=Aside0.mk (below_step (by repeat (first|(with_reducible first|exact HB.out|apply below_alloc|apply pw_below_drewN|apply below_drew1|refine below_set ?_ GE203.out|refine below_set ?_ GE204.out)|exact HB.out)) hb);clear BK203;clear BK204;clear HB;have BK203:=n0_;have BK204:=n1_;have HB:=n2_;clear n0_ n1_ n2_;(try clear hb);(try clear hb2);(try clear hk);(try clear hi);have hcz28_0 : w27.cell? ⟨gb203,0,none⟩ = some (.int .i64 a0_0):=(blk_cell BK203.out 0).trans rfl;have hcz28_1 : w27.cell? ⟨gb203,1,none⟩ = some (.string a0_1):=(blk_cell BK203.out 1).trans rfl;have hcz28_2 : w27.cell? ⟨gb203,2,none⟩ = some (.int .i64 a0_2):=(blk_cell BK203.out 2).trans rfl;have hcz28_3 : w27.cell? ⟨gb203,3,none⟩ = some (.slice A0_3 l0_3.length c0_3):=(blk_cell BK203.out 3).trans rfl;have hcz28_4 : w27.cell? ⟨gb203,4,none⟩ = some (.int .i64 a0_4):=(blk_cell BK203.out 4).trans rfl;have hcz28_5 : w27.cell? ⟨gb203,5,none⟩ = some (.string a0_5):=(blk_cell BK203.out 5).trans rfl;have hcz28_6 : w27.cell? ⟨gb203,6,none⟩ = some (.int .i64 a0_6):=(blk_cell BK203.out 6).trans rfl;have hcz28_7 : w27.cell? ⟨gb203,7,none⟩ = some (.slice A0_7 l0_7.length c0_7):=(blk_cell BK203.out 7).trans rfl;have hcz28_8 : w27.cell? ⟨gb203,8,none⟩ = some (.string a0_8):=(blk_cell BK203.out 8).trans rfl;have hfz28_0:=blk_frozen BK203.out 0;have hfz28_1:=blk_frozen BK203.out 1;have hfz28_2:=blk_frozen BK203.out 2;have hfz28_3:=blk_frozen BK203.out 3;have hfz28_4:=blk_frozen BK203.out 4;have hfz28_5:=blk_frozen BK203.out 5;have hfz28_6:=blk_frozen BK203.out 6;have hfz28_7:=blk_frozen BK203.out 7;have hfz28_8:=blk_frozen BK203.out 8;have hcz29_0 : w27.cell? ⟨gb204,0,none⟩ = some (.int .i64 a1_0):=(blk_cell BK204.out 0).trans rfl;have hcz29_1 : w27.cell? ⟨gb204,1,none⟩ = some (.string a1_1):=(blk_cell BK204.out 1).trans rfl;have hcz29_2 : w27.cell? ⟨gb204,2,none⟩ = some (.int .i64 a1_2):=(blk_cell BK204.out 2).trans rfl;have hcz29_3 : w27.cell? ⟨gb204,3,none⟩ = some (.slice A1_3 l1_3.length c1_3):=(blk_cell BK204.out 3).trans rfl;have hcz29_4 : w27.cell? ⟨gb204,4,none⟩ = some (.int .i64 a1_4):=(blk_cell BK204.out 4).trans rfl;have hcz29_5 : w27.cell? ⟨gb204,5,none⟩ = some (.string a1_5):=(blk_cell BK204.out 5).trans rfl;have hcz29_6 : w27.cell? ⟨gb204,6,none⟩ = some (.int .i64 a1_6):=(blk_cell BK204.out 6).trans rfl;have hcz29_7 : w27.cell? ⟨gb204,7,none⟩ = some (.slice A1_7 l1_7.length c1_7):=(blk_cell BK204.out 7).trans rfl;have hcz29_8 : w27.cell? ⟨gb204,8,none⟩ = some (.string a1_8):=(blk_cell BK204.out 8).trans rfl;have hfz29_0:=blk_frozen BK204.out 0;have hfz29_1:=blk_frozen BK204.out 1;have hfz29_2:=blk_frozen BK204.out 2;have hfz29_3:=blk_frozen BK204.out 3;have hfz29_4:=blk_frozen BK204.out 4;have hfz29_5:=blk_frozen BK204.out 5;have hfz29_6:=blk_frozen BK204.out 6;have hfz29_7:=blk_frozen BK204.out 7;have hfz29_8:=blk_frozen BK204.out 8))
    go_ret
    exact ⟨by first|rfl|(simp [errW_none,errW_some] <;> rfl)|(simp [*,errW_none,errW_some] <;> rfl),by repeat (first|(with_reducible first|exact HB.out|apply below_alloc|apply pw_below_drewN|apply below_drew1|refine below_set ?_ GE203.out|refine below_set ?_ GE204.out)|exact HB.out)⟩
  ·replace c6:=Bool.eq_false_iff.mpr c6
   subst c6
   have H1 : (some false) = some r:=by rw [if_neg (show ¬ (false = true) by decide)] at H;exact H
   clear H
   have H:=H1
   clear H1
   obtain rfl:=Option.some.inj H
   go_enter Tryd.func24,Tryd.ntmps24
   go_wp2_with (first|((with_reducible refine gate_dst (N:=2) rfl ?_);refine box_event ?hg (N:=2) ?hd (cs:=#[.int .i64 a0_0,.string a0_1,.int .i64 a0_2,.slice A0_3 l0_3.length c0_3,.int .i64 a0_4,.string a0_5,.int .i64 a0_6,.slice A0_7 l0_7.length c0_7,.string a0_8]) (t:=48) ?hr ?_;(case hd => rfl);(case hg => rfl);(case hr => first|(go_simp;done)|(go_simp;rfl));intro gb203 hg w30 hbox hb;have n0_:=Aside0.mk (below_step (by repeat (first|(with_reducible first|exact HB.out|apply below_alloc|apply pw_below_drewN|apply below_drew1)|exact HB.out)) hb);have n1_:=Aside0.mk (hbox);have n2_:=Aside0.mk ((by rw [hg];exact (below_size (by repeat (first|(with_reducible first|exact HB.out|apply below_alloc|apply pw_below_drewN|apply below_drew1)|exact HB.out))) : w.heap.size ≤ gb203));have n3_:=Aside0.mk ((by rw [hg];exact (below_size (by repeat (first|(with_reducible first|exact HB.out|apply below_alloc|apply pw_below_drewN|apply below_drew1)|exact HB.out))) : w.heap.size ≤ gb203));clear HB;have HB:=n0_;have BK203:=n1_;have GW203:=n2_;have GE203:=n3_;clear n0_ n1_ n2_ n3_;clear hb hbox hg)|((with_reducible refine gate_dst (N:=3) rfl ?_);refine box_event ?hg (N:=3) ?hd (cs:=#[.int .i64 a1_0,.string a1_1,.int .i64 a1_2,.slice A1_3 l1_3.length c1_3,.int .i64 a1_4,.string a1_5,.int .i64 a1_6,.slice A1_7 l1_7.length c1_7,.string a1_8]) (t:=48) ?hr ?_;(case hd => rfl);(case hg => rfl);(case hr => first|(go_simp;done)|(go_simp;rfl));intro gb204 hg w31 hbox hb;have n0_:=Aside0.mk (blk_below (g:=gb203) (o:=.cells #[.int .i64 a0_0,.string a0_1,.int .i64 a0_2,.slice A0_3 l0_3.length c0_3,.int .i64 a0_4,.string a0_5,.int .i64 a0_6,.slice A0_7 l0_7.length c0_7,.string a0_8] 48 (0,0)) (by (with_reducible repeat (first|refine blk_drewN ?_ _|refine blk_drew ?_|refine blk_alloc ?_ _));exact BK203.out) hb);have n1_:=Aside0.mk (below_step (by repeat (first|(with_reducible first|exact HB.out|apply below_alloc|apply pw_below_drewN|apply below_drew1|refine below_set ?_ GE203.out)|exact HB.out)) hb);have n2_:=Aside0.mk (hbox);have n3_:=Aside0.mk ((by rw [hg];exact (below_size (by repeat (first|(with_reducible first|exact HB.out|apply below_alloc|apply pw_below_drewN|apply below_drew1|refine below_set ?_ GE203.out)|exact HB.out))) : w.heap.size ≤ gb204));have n4_:=Aside0.mk ((by rw [hg];exact (below_size (by repeat (first|(with_reducible first|exact HB.out|apply below_alloc|apply pw_below_drewN|apply below_drew1|refine below_set ?_ GE203.out)|exact HB.out))) : w.heap.size ≤ gb204));have n5_:=Aside0.mk ((by rw [hg];exact Nat.ne_of_lt (blk_lt (g:=gb203) (o:=.cells #[.int .i64 a0_0,.string a0_1,.int .i64 a0_2,.slice A0_3 l0_3.length c0_3,.int .i64 a0_4,.string a0_5,.int .i64 a0_6,.slice A0_7 l0_7.length c0_7,.string a0_8] 48 (0,0)) (by (with_reducible repeat (first|refine blk_drewN ?_ _|refine blk_drew ?_|refine blk_alloc ?_ _));exact BK203.out)) : gb203 ≠ gb204));have n6_:=Aside0.mk ((by rw [hg];exact Nat.ne_of_gt (blk_lt (g:=gb203) (o:=.cells #[.int .i64 a0_0,.string a0_1,.int .i64 a0_2,.slice A0_3 l0_3.length c0_3,.int .i64 a0_4,.string a0_5,.int .i64 a0_6,.slice A0_7 l0_7.length c0_7,.string a0_8] 48 (0,0)) (by (with_reducible repeat (first|refine blk_drewN ?_ _|refine blk_drew ?_|refine blk_alloc ?_ _));exact BK203.out)) : gb204 ≠ gb203));clear BK203;clear HB;have BK203:=n0_;have HB:=n1_;have BK204:=n2_;have GW204:=n3_;have GE204:=n4_;have NB203_204:=n5_;have NB204_203:=n6_;clear n0_ n1_ n2_ n3_ n4_ n5_ n6_;clear hb hbox hg;have hnb32:=NB203_204.out;have hnc32:=NB204_203.out;have hcz33_0 : w31.cell? ⟨gb203,0,none⟩ = some (.int .i64 a0_0):=(blk_cell BK203.out 0).trans rfl;have hcz33_1 : w31.cell? ⟨gb203,1,none⟩ = some (.string a0_1):=(blk_cell BK203.out 1).trans rfl;have hcz33_2 : w31.cell? ⟨gb203,2,none⟩ = some (.int .i64 a0_2):=(blk_cell BK203.out 2).trans rfl;have hcz33_3 : w31.cell? ⟨gb203,3,none⟩ = some (.slice A0_3 l0_3.length c0_3):=(blk_cell BK203.out 3).trans rfl;have hcz33_4 : w31.cell? ⟨gb203,4,none⟩ = some (.int .i64 a0_4):=(blk_cell BK203.out 4).trans rfl;have hcz33_5 : w31.cell? ⟨gb203,5,none⟩ = some (.string a0_5):=(blk_cell BK203.out 5).trans rfl;have hcz33_6 : w31.cell? ⟨gb203,6,none⟩ = some (.int .i64 a0_6):=(blk_cell BK203.out 6).trans rfl;have hcz33_7 : w31.cell? ⟨gb203,7,none⟩ = some (.slice A0_7 l0_7.length c0_7):=(blk_cell BK203.out 7).trans rfl;have hcz33_8 : w31.cell? ⟨gb203,8,none⟩ = some (.string a0_8):=(blk_cell BK203.out 8).trans rfl;have hfz33_0:=blk_frozen BK203.out 0;have hfz33_1:=blk_frozen BK203.out 1;have hfz33_2:=blk_frozen BK203.out 2;have hfz33_3:=blk_frozen BK203.out 3;have hfz33_4:=blk_frozen BK203.out 4;have hfz33_5:=blk_frozen BK203.out 5;have hfz33_6:=blk_frozen BK203.out 6;have hfz33_7:=blk_frozen BK203.out 7;have hfz33_8:=blk_frozen BK203.out 8;have hcz34_0 : w31.cell? ⟨gb204,0,none⟩ = some (.int .i64 a1_0):=(blk_cell BK204.out 0).trans rfl;have hcz34_1 : w31.cell? ⟨gb204,1,none⟩ = some (.string a1_1):=(blk_cell BK204.out 1).trans rfl;have hcz34_2 : w31.cell? ⟨gb204,2,none⟩ = some (.int .i64 a1_2):=(blk_cell BK204.out 2).trans rfl;have hcz34_3 : w31.cell? ⟨gb204,3,none⟩ = some (.slice A1_3 l1_3.length c1_3):=(blk_cell BK204.out 3).trans rfl;have hcz34_4 : w31.cell? ⟨gb204,4,none⟩ = some (.int .i64 a1_4):=(blk_cell BK204.out 4).trans rfl;have hcz34_5 : w31.cell? ⟨gb204,5,none⟩ = some (.string a1_5):=(blk_cell BK204.out 5).trans rfl;have hcz34_6 : w31.cell? ⟨gb204,6,none⟩ = some (.int .i64 a1_6):=(blk_cell BK204.out 6).trans rfl;have hcz34_7 : w31.cell? ⟨gb204,7,none⟩ = some (.slice A1_7 l1_7.length c1_7):=(blk_cell BK204.out 7).trans rfl;have hcz34_8 : w31.cell? ⟨gb204,8,none⟩ = some (.string a1_8):=(blk_cell BK204.out 8).trans rfl;have hfz34_0:=blk_frozen BK204.out 0;have hfz34_1:=blk_frozen BK204.out 1;have hfz34_2:=blk_frozen BK204.out 2;have hfz34_3:=blk_frozen BK204.out 3;have hfz34_4:=blk_frozen BK204.out 4;have hfz34_5:=blk_frozen BK204.out 5;have hfz34_6:=blk_frozen BK204.out 6;have hfz34_7:=blk_frozen BK204.out 7;have hfz34_8:=blk_frozen BK204.out 8)|((with_reducible refine gate_callee (f:=14) rfl ?_);refine goesL_ (some 9) rfl rfl Tryd.func14 (by kernel_rfl) rfl #[.agg #[.int .i64 a0_0,.string a0_1,.int .i64 a0_2,.slice A0_3 l0_3.length c0_3],.agg #[.int .i64 a1_0,.string a1_1,.int .i64 a1_2,.slice A1_3 l1_3.length c1_3]] rfl (by (try simp only [List.map_toArray,List.map_cons,List.map_nil]);first|done|rfl|(simp only [List.length_drop,List.length_take];rfl)) ?_;(with_reducible refine (laws_eqTerm.calls k a0_0 a0_1 a0_2 _ _ l0_3 a1_0 a1_1 a1_2 _ _ l1_3 true _ ?side1 ?side2 ?side3 ?side4 A3.out).mono ?_);(case side1 => repeat (first|exact (Kd.C_below HR0_3.out HB.out)|(with_reducible refine Kd.C_alloc ?_ _)|(with_reducible refine Kd.C_drewN ?_ _)|(with_reducible refine Kd.C_drew ?_)));(case side2 => exact HC0_3.out);(case side3 => repeat (first|exact (Kd.C_below HR1_3.out HB.out)|(with_reducible refine Kd.C_alloc ?_ _)|(with_reducible refine Kd.C_drewN ?_ _)|(with_reducible refine Kd.C_drew ?_)));(case side4 => exact HC1_3.out);rintro e w35 ⟨rfl,hb⟩;refine ⟨_,rfl,?_⟩;have n0_:=Aside0.mk (blk_below (g:=gb203) (o:=.cells #[.int .i64 a0_0,.string a0_1,.int .i64 a0_2,.slice A0_3 l0_3.length c0_3,.int .i64 a0_4,.string a0_5,.int .i64 a0_6,.slice A0_7 l0_7.length c0_7,.string a0_8] 48 (0,0)) (by (with_reducible repeat (first|refine blk_drewN ?_ _|refine blk_drew ?_|refine blk_alloc ?_ _));exact BK203.out) hb);have n1_:=Aside0.mk (blk_below (g:=gb204) (o:=.cells #[.int .i64 a1_0,.string a1_1,.int .i64 a1_2,.slice A1_3 l1_3.length c1_3,.int .i64 a1_4,.string a1_5,.int .i64 a1_6,.slice A1_7 l1_7.length c1_7,.string a1_8] 48 (0,0)) (by (with_reducible repeat (first|refine blk_drewN ?_ _|refine blk_drew ?_|refine blk_alloc ?_ _));exact BK204.out) hb);have n2_:=Aside0.mk (below_step (by repeat (first|(with_reducible first|exact HB.out|apply below_alloc|apply pw_below_drewN|apply below_drew1|refine below_set ?_ GE203.out|refine below_set ?_ GE204.out)|exact HB.out)) hb);clear BK203;clear BK204;clear HB;have BK203:=n0_;have BK204:=n1_;have HB:=n2_;clear n0_ n1_ n2_;(try clear hb);(try clear hb2);(try clear hk);(try clear hi);have hcz36_0 : w35.cell? ⟨gb203,0,none⟩ = some (.int .i64 a0_0):=(blk_cell BK203.out 0).trans rfl;have hcz36_1 : w35.cell? ⟨gb203,1,none⟩ = some (.string a0_1):=(blk_cell BK203.out 1).trans rfl;have hcz36_2 : w35.cell? ⟨gb203,2,none⟩ = some (.int .i64 a0_2):=(blk_cell BK203.out 2).trans rfl;have hcz36_3 : w35.cell? ⟨gb203,3,none⟩ = some (.slice A0_3 l0_3.length c0_3):=(blk_cell BK203.out 3).trans rfl;have hcz36_4 : w35.cell? ⟨gb203,4,none⟩ = some (.int .i64 a0_4):=(blk_cell BK203.out 4).trans rfl;have hcz36_5 : w35.cell? ⟨gb203,5,none⟩ = some (.string a0_5):=(blk_cell BK203.out 5).trans rfl;have hcz36_6 : w35.cell? ⟨gb203,6,none⟩ = some (.int .i64 a0_6):=(blk_cell BK203.out 6).trans rfl;have hcz36_7 : w35.cell? ⟨gb203,7,none⟩ = some (.slice A0_7 l0_7.length c0_7):=(blk_cell BK203.out 7).trans rfl;have hcz36_8 : w35.cell? ⟨gb203,8,none⟩ = some (.string a0_8):=(blk_cell BK203.out 8).trans rfl;have hfz36_0:=blk_frozen BK203.out 0;have hfz36_1:=blk_frozen BK203.out 1;have hfz36_2:=blk_frozen BK203.out 2;have hfz36_3:=blk_frozen BK203.out 3;have hfz36_4:=blk_frozen BK203.out 4;have hfz36_5:=blk_frozen BK203.out 5;have hfz36_6:=blk_frozen BK203.out 6;have hfz36_7:=blk_frozen BK203.out 7;have hfz36_8:=blk_frozen BK203.out 8;have hcz37_0 : w35.cell? ⟨gb204,0,none⟩ = some (.int .i64 a1_0):=(blk_cell BK204.out 0).trans rfl;have hcz37_1 : w35.cell? ⟨gb204,1,none⟩ = some (.string a1_1):=(blk_cell BK204.out 1).trans rfl;have hcz37_2 : w35.cell? ⟨gb204,2,none⟩ = some (.int .i64 a1_2):=(blk_cell BK204.out 2).trans rfl;have hcz37_3 : w35.cell? ⟨gb204,3,none⟩ = some (.slice A1_3 l1_3.length c1_3):=(blk_cell BK204.out 3).trans rfl;have hcz37_4 : w35.cell? ⟨gb204,4,none⟩ = some (.int .i64 a1_4):=(blk_cell BK204.out 4).trans rfl;have hcz37_5 : w35.cell? ⟨gb204,5,none⟩ = some (.string a1_5):=(blk_cell BK204.out 5).trans rfl;have hcz37_6 : w35.cell? ⟨gb204,6,none⟩ = some (.int .i64 a1_6):=(blk_cell BK204.out 6).trans rfl;have hcz37_7 : w35.cell? ⟨gb204,7,none⟩ = some (.slice A1_7 l1_7.length c1_7):=(blk_cell BK204.out 7).trans rfl;have hcz37_8 : w35.cell? ⟨gb204,8,none⟩ = some (.string a1_8):=(blk_cell BK204.out 8).trans rfl;have hfz37_0:=blk_frozen BK204.out 0;have hfz37_1:=blk_frozen BK204.out 1;have hfz37_2:=blk_frozen BK204.out 2;have hfz37_3:=blk_frozen BK204.out 3;have hfz37_4:=blk_frozen BK204.out 4;have hfz37_5:=blk_frozen BK204.out 5;have hfz37_6:=blk_frozen BK204.out 6;have hfz37_7:=blk_frozen BK204.out 7;have hfz37_8:=blk_frozen BK204.out 8)|((with_reducible refine gate_callee (f:=14) rfl ?_);refine goesL_ (some 15) rfl rfl Tryd.func14 (by kernel_rfl) rfl #[.agg #[.int .i64 a0_4,.string a0_5,.int .i64 a0_6,.slice A0_7 l0_7.length c0_7],.agg #[.int .i64 a1_4,.string a1_5,.int .i64 a1_6,.slice A1_7 l1_7.length c1_7]] rfl (by (try simp only [List.map_toArray,List.map_cons,List.map_nil]);first|done|rfl|(simp only [List.length_drop,List.length_take];rfl)) ?_;(with_reducible refine (laws_eqTerm.calls k a0_4 a0_5 a0_6 _ _ l0_7 a1_4 a1_5 a1_6 _ _ l1_7 false _ ?side1 ?side2 ?side3 ?side4 A5.out).mono ?_);(case side1 => repeat (first|exact (Kd.C_below HR0_7.out HB.out)|(with_reducible refine Kd.C_alloc ?_ _)|(with_reducible refine Kd.C_drewN ?_ _)|(with_reducible refine Kd.C_drew ?_)));(case side2 => exact HC0_7.out);(case side3 => repeat (first|exact (Kd.C_below HR1_7.out HB.out)|(with_reducible refine Kd.C_alloc ?_ _)|(with_reducible refine Kd.C_drewN ?_ _)|(with_reducible refine Kd.C_drew ?_)));(case side4 => exact HC1_7.out);rintro e w38 ⟨rfl,hb⟩;refine ⟨_,rfl,?_⟩;have n0_:=Aside0.mk (blk_below (g:=gb203) (o:=.cells #[.int .i64 a0_0,.string a0_1,.int .i64 a0_2,.slice A0_3 l0_3.length c0_3,.int .i64 a0_4,.string a0_5,.int .i64 a0_6,.slice A0_7 l0_7.length c0_7,.string a0_8] 48 (0,0)) (by (with_reducible repeat (first|refine blk_drewN ?_ _|refine blk_drew ?_|refine blk_alloc ?_ _));exact BK203.out) hb);have n1_:=Aside0.mk (blk_below (g:=gb204) (o:=.cells #[.int .i64 a1_0,.string a1_1,.int .i64 a1_2,.slice A1_3 l1_3.length c1_3,.int .i64 a1_4,.string a1_5,.int .i64 a1_6,.slice A1_7 l1_7.length c1_7,.string a1_8] 48 (0,0)) (by (with_reducible repeat (first|refine blk_drewN ?_ _|refine blk_drew ?_|refine blk_alloc ?_ _));exact BK204.out) hb);have n2_:=Aside0.mk (below_step (by repeat (first|(with_reducible first|exact HB.out|apply below_alloc|apply pw_below_drewN|apply below_drew1|refine below_set ?_ GE203.out|refine below_set ?_ GE204.out)|exact HB.out)) hb);clear BK203;clear BK204;clear HB;have BK203:=n0_;have BK204:=n1_;have HB:=n2_;clear n0_ n1_ n2_;(try clear hb)))
   go_ret
   exact ⟨by first|rfl|(simp [errW_none,errW_some] <;> rfl)|(simp [*,errW_none,errW_some] <;> rfl),by repeat (first|(with_reducible first|exact HB.out|apply below_alloc|apply pw_below_drewN|apply below_drew1|refine below_set ?_ GE203.out|refine below_set ?_ GE204.out)|exact HB.out)⟩
 ·replace c4:=Bool.eq_false_iff.mpr c4
  subst c4
  have H1 : (some false) = some r:=by rw [if_neg (show ¬ (false = true) by decide)] at H;exact H
  clear H
  have H:=H1
  clear H1
  obtain rfl:=Option.some.inj H
  go_enter Tryd.func24,Tryd.ntmps24
  go_wp2_with (first|((with_reducible refine gate_dst (N:=2) rfl ?_);refine box_event ?hg (N:=2) ?hd (cs:=#[.int .i64 a0_0,.string a0_1,.int .i64 a0_2,.slice A0_3 l0_3.length c0_3,.int .i64 a0_4,.string a0_5,.int .i64 a0_6,.slice A0_7 l0_7.length c0_7,.string a0_8]) (t:=48) ?hr ?_;(case hd => rfl);(case hg => rfl);(case hr => first|(go_simp;done)|(go_simp;rfl));intro gb203 hg w39 hbox hb;have n0_:=Aside0.mk (below_step (by repeat (first|(with_reducible first|exact HB.out|apply below_alloc|apply pw_below_drewN|apply below_drew1)|exact HB.out)) hb);have n1_:=Aside0.mk (hbox);have n2_:=Aside0.mk ((by rw [hg];exact (below_size (by repeat (first|(with_reducible first|exact HB.out|apply below_alloc|apply pw_below_drewN|apply below_drew1)|exact HB.out))) : w.heap.size ≤ gb203));have n3_:=Aside0.mk ((by rw [hg];exact (below_size (by repeat (first|(with_reducible first|exact HB.out|apply below_alloc|apply pw_below_drewN|apply below_drew1)|exact HB.out))) : w.heap.size ≤ gb203));clear HB;have HB:=n0_;have BK203:=n1_;have GW203:=n2_;have GE203:=n3_;clear n0_ n1_ n2_ n3_;clear hb hbox hg)|((with_reducible refine gate_dst (N:=3) rfl ?_);refine box_event ?hg (N:=3) ?hd (cs:=#[.int .i64 a1_0,.string a1_1,.int .i64 a1_2,.slice A1_3 l1_3.length c1_3,.int .i64 a1_4,.string a1_5,.int .i64 a1_6,.slice A1_7 l1_7.length c1_7,.string a1_8]) (t:=48) ?hr ?_;(case hd => rfl);(case hg => rfl);(case hr => first|(go_simp;done)|(go_simp;rfl));intro gb204 hg w40 hbox hb;have n0_:=Aside0.mk (blk_below (g:=gb203) (o:=.cells #[.int .i64 a0_0,.string a0_1,.int .i64 a0_2,.slice A0_3 l0_3.length c0_3,.int .i64 a0_4,.string a0_5,.int .i64 a0_6,.slice A0_7 l0_7.length c0_7,.string a0_8] 48 (0,0)) (by (with_reducible repeat (first|refine blk_drewN ?_ _|refine blk_drew ?_|refine blk_alloc ?_ _));exact BK203.out) hb);have n1_:=Aside0.mk (below_step (by repeat (first|(with_reducible first|exact HB.out|apply below_alloc|apply pw_below_drewN|apply below_drew1|refine below_set ?_ GE203.out)|exact HB.out)) hb);have n2_:=Aside0.mk (hbox);have n3_:=Aside0.mk ((by rw [hg];exact (below_size (by repeat (first|(with_reducible first|exact HB.out|apply below_alloc|apply pw_below_drewN|apply below_drew1|refine below_set ?_ GE203.out)|exact HB.out))) : w.heap.size ≤ gb204));have n4_:=Aside0.mk ((by rw [hg];exact (below_size (by repeat (first|(with_reducible first|exact HB.out|apply below_alloc|apply pw_below_drewN|apply below_drew1|refine below_set ?_ GE203.out)|exact HB.out))) : w.heap.size ≤ gb204));have n5_:=Aside0.mk ((by rw [hg];exact Nat.ne_of_lt (blk_lt (g:=gb203) (o:=.cells #[.int .i64 a0_0,.string a0_1,.int .i64 a0_2,.slice A0_3 l0_3.length c0_3,.int .i64 a0_4,.string a0_5,.int .i64 a0_6,.slice A0_7 l0_7.length c0_7,.string a0_8] 48 (0,0)) (by (with_reducible repeat (first|refine blk_drewN ?_ _|refine blk_drew ?_|refine blk_alloc ?_ _));exact BK203.out)) : gb203 ≠ gb204));have n6_:=Aside0.mk ((by rw [hg];exact Nat.ne_of_gt (blk_lt (g:=gb203) (o:=.cells #[.int .i64 a0_0,.string a0_1,.int .i64 a0_2,.slice A0_3 l0_3.length c0_3,.int .i64 a0_4,.string a0_5,.int .i64 a0_6,.slice A0_7 l0_7.length c0_7,.string a0_8] 48 (0,0)) (by (with_reducible repeat (first|refine blk_drewN ?_ _|refine blk_drew ?_|refine blk_alloc ?_ _));exact BK203.out)) : gb204 ≠ gb203));clear BK203;clear HB;have BK203:=n0_;have HB:=n1_;have BK204:=n2_;have GW204:=n3_;have GE204:=n4_;have NB203_204:=n5_;have NB204_203:=n6_;clear n0_ n1_ n2_ n3_ n4_ n5_ n6_;clear hb hbox hg;have hnb41:=NB203_204.out;have hnc41:=NB204_203.out;have hcz42_0 : w40.cell? ⟨gb203,0,none⟩ = some (.int .i64 a0_0):=(blk_cell BK203.out 0).trans rfl;have hcz42_1 : w40.cell? ⟨gb203,1,none⟩ = some (.string a0_1):=(blk_cell BK203.out 1).trans rfl;have hcz42_2 : w40.cell? ⟨gb203,2,none⟩ = some (.int .i64 a0_2):=(blk_cell BK203.out 2).trans rfl;have hcz42_3 : w40.cell? ⟨gb203,3,none⟩ = some (.slice A0_3 l0_3.length c0_3):=(blk_cell BK203.out 3).trans rfl;have hcz42_4 : w40.cell? ⟨gb203,4,none⟩ = some (.int .i64 a0_4):=(blk_cell BK203.out 4).trans rfl;have hcz42_5 : w40.cell? ⟨gb203,5,none⟩ = some (.string a0_5):=(blk_cell BK203.out 5).trans rfl;have hcz42_6 : w40.cell? ⟨gb203,6,none⟩ = some (.int .i64 a0_6):=(blk_cell BK203.out 6).trans rfl;have hcz42_7 : w40.cell? ⟨gb203,7,none⟩ = some (.slice A0_7 l0_7.length c0_7):=(blk_cell BK203.out 7).trans rfl;have hcz42_8 : w40.cell? ⟨gb203,8,none⟩ = some (.string a0_8):=(blk_cell BK203.out 8).trans rfl;have hfz42_0:=blk_frozen BK203.out 0;have hfz42_1:=blk_frozen BK203.out 1;have hfz42_2:=blk_frozen BK203.out 2;have hfz42_3:=blk_frozen BK203.out 3;have hfz42_4:=blk_frozen BK203.out 4;have hfz42_5:=blk_frozen BK203.out 5;have hfz42_6:=blk_frozen BK203.out 6;have hfz42_7:=blk_frozen BK203.out 7;have hfz42_8:=blk_frozen BK203.out 8;have hcz43_0 : w40.cell? ⟨gb204,0,none⟩ = some (.int .i64 a1_0):=(blk_cell BK204.out 0).trans rfl;have hcz43_1 : w40.cell? ⟨gb204,1,none⟩ = some (.string a1_1):=(blk_cell BK204.out 1).trans rfl;have hcz43_2 : w40.cell? ⟨gb204,2,none⟩ = some (.int .i64 a1_2):=(blk_cell BK204.out 2).trans rfl;have hcz43_3 : w40.cell? ⟨gb204,3,none⟩ = some (.slice A1_3 l1_3.length c1_3):=(blk_cell BK204.out 3).trans rfl;have hcz43_4 : w40.cell? ⟨gb204,4,none⟩ = some (.int .i64 a1_4):=(blk_cell BK204.out 4).trans rfl;have hcz43_5 : w40.cell? ⟨gb204,5,none⟩ = some (.string a1_5):=(blk_cell BK204.out 5).trans rfl;have hcz43_6 : w40.cell? ⟨gb204,6,none⟩ = some (.int .i64 a1_6):=(blk_cell BK204.out 6).trans rfl;have hcz43_7 : w40.cell? ⟨gb204,7,none⟩ = some (.slice A1_7 l1_7.length c1_7):=(blk_cell BK204.out 7).trans rfl;have hcz43_8 : w40.cell? ⟨gb204,8,none⟩ = some (.string a1_8):=(blk_cell BK204.out 8).trans rfl;have hfz43_0:=blk_frozen BK204.out 0;have hfz43_1:=blk_frozen BK204.out 1;have hfz43_2:=blk_frozen BK204.out 2;have hfz43_3:=blk_frozen BK204.out 3;have hfz43_4:=blk_frozen BK204.out 4;have hfz43_5:=blk_frozen BK204.out 5;have hfz43_6:=blk_frozen BK204.out 6;have hfz43_7:=blk_frozen BK204.out 7;have hfz43_8:=blk_frozen BK204.out 8)|((with_reducible refine gate_callee (f:=14) rfl ?_);refine goesL_ (some 9) rfl rfl Tryd.func14 (by kernel_rfl) rfl #[.agg #[.int .i64 a0_0,.string a0_1,.int .i64 a0_2,.slice A0_3 l0_3.length c0_3],.agg #[.int .i64 a1_0,.string a1_1,.int .i64 a1_2,.slice A1_3 l1_3.length c1_3]] rfl (by (try simp only [List.map_toArray,List.map_cons,List.map_nil]);first|done|rfl|(simp only [List.length_drop,List.length_take];rfl)) ?_;(with_reducible refine (laws_eqTerm.calls k a0_0 a0_1 a0_2 _ _ l0_3 a1_0 a1_1 a1_2 _ _ l1_3 false _ ?side1 ?side2 ?side3 ?side4 A3.out).mono ?_);(case side1 => repeat (first|exact (Kd.C_below HR0_3.out HB.out)|(with_reducible refine Kd.C_alloc ?_ _)|(with_reducible refine Kd.C_drewN ?_ _)|(with_reducible refine Kd.C_drew ?_)));(case side2 => exact HC0_3.out);(case side3 => repeat (first|exact (Kd.C_below HR1_3.out HB.out)|(with_reducible refine Kd.C_alloc ?_ _)|(with_reducible refine Kd.C_drewN ?_ _)|(with_reducible refine Kd.C_drew ?_)));(case side4 => exact HC1_3.out);rintro e w44 ⟨rfl,hb⟩;refine ⟨_,rfl,?_⟩;have n0_:=Aside0.mk (blk_below (g:=gb203) (o:=.cells #[.int .i64 a0_0,.string a0_1,.int .i64 a0_2,.slice A0_3 l0_3.length c0_3,.int .i64 a0_4,.string a0_5,.int .i64 a0_6,.slice A0_7 l0_7.length c0_7,.string a0_8] 48 (0,0)) (by (with_reducible repeat (first|refine blk_drewN ?_ _|refine blk_drew ?_|refine blk_alloc ?_ _));exact BK203.out) hb);have n1_:=Aside0.mk (blk_below (g:=gb204) (o:=.cells #[.int .i64 a1_0,.string a1_1,.int .i64 a1_2,.slice A1_3 l1_3.length c1_3,.int .i64 a1_4,.string a1_5,.int .i64 a1_6,.slice A1_7 l1_7.length c1_7,.string a1_8] 48 (0,0)) (by (with_reducible repeat (first|refine blk_drewN ?_ _|refine blk_drew ?_|refine blk_alloc ?_ _));exact BK204.out) hb);have n2_:=Aside0.mk (below_step (by repeat (first|(with_reducible first|exact HB.out|apply below_alloc|apply pw_below_drewN|apply below_drew1|refine below_set ?_ GE203.out|refine below_set ?_ GE204.out)|exact HB.out)) hb);clear BK203;clear BK204;clear HB;have BK203:=n0_;have BK204:=n1_;have HB:=n2_;clear n0_ n1_ n2_;(try clear hb)))
  go_ret
  exact ⟨by first|rfl|(simp [errW_none,errW_some] <;> rfl)|(simp [*,errW_none,errW_some] <;> rfl),by repeat (first|(with_reducible first|exact HB.out|apply below_alloc|apply pw_below_drewN|apply below_drew1|refine below_set ?_ GE203.out|refine below_set ?_ GE204.out)|exact HB.out)⟩
def laws_markText.l0 : Nat → Int → ByteArray → Option (ByteArray)
 | 0,_,_ => none
 | k + 1,x0,x3 => if x0 > 0 then ((some (([(wrap64 (48 + (Int.tmod x0 10))) % 256] : List Int) : List Int)).bind fun y207 => (if (strOfNums y207).size + x3.size ≤ 9223372036854775807 then (laws_markText.l0 k (wrap64 (Int.tdiv x0 10)) ((strOfNums y207) ++ x3)) else (none))) else (if 1 + x3.size ≤ 9223372036854775807 then (some ((⟨#[109]⟩ : ByteArray) ++ x3)) else (none))
def laws_markText.f (k : Nat) (a0 : Int) : Option (ByteArray):=if a0 ≤ 0 then (some (⟨#[109,48]⟩ : ByteArray)) else (laws_markText.l0 k a0 (⟨#[]⟩ : ByteArray))
theorem laws_markText.mono_l : ∀ k,(∀ y0 y1,LeO (laws_markText.l0 k y0 y1) (laws_markText.l0 (k + 1) y0 y1))
 | 0 => fun _ _ r h => by simp [laws_markText.l0] at h
 | k + 1 => by
  have ih0:=laws_markText.mono_l k
  ·intro y0 y1
   unfold laws_markText.l0
   repeat' first
   | (with_reducible exact ih0 _ _)
   | (with_reducible exact LeO.refl _)
   | (with_reducible exact LeO.none _)
   | (with_reducible refine LeO.ite ?_ ?_)
   | (with_reducible refine LeO.bind ?_ (fun _ => ?_))
   | exact ih0 _ _
   | exact LeO.none _
   | refine LeO.ite ?_ ?_
   | refine LeO.bind ?_ (fun _ => ?_)
theorem laws_markText.mono : ∀ a0 k,LeO (laws_markText.f k a0) (laws_markText.f (k + 1) a0):=by
 intro a0 k
 have ih0:=laws_markText.mono_l k
 unfold laws_markText.f
 repeat' first
   | (with_reducible exact ih0 _ _)
   | (with_reducible exact LeO.refl _)
   | (with_reducible exact LeO.none _)
   | (with_reducible refine LeO.ite ?_ ?_)
   | (with_reducible refine LeO.bind ?_ (fun _ => ?_))
   | exact ih0 _ _
   | exact LeO.none _
   | refine LeO.ite ?_ ?_
   | refine LeO.bind ?_ (fun _ => ?_)
set_option maxHeartbeats 8000000 in
set_option maxRecDepth 100000 in
theorem laws_markText.calls (k : Nat) (a0 : Int) (r : ByteArray) (w : World) (h : laws_markText.f k a0 = some r) :
  Calls Tryd.prog 68 #[.int .i64 a0] w fun e w' => e = .returned (.string r) ∧ Below w.heap.size w w':=by
 have HB:=Aside0.mk (Below.refl w.heap.size w)
 have H : (if a0 ≤ 0 then (some (⟨#[109,48]⟩ : ByteArray)) else (laws_markText.l0 k a0 (⟨#[]⟩ : ByteArray))) = some r:=h
 clear h
 by_cases c2 : a0 ≤ 0
 ·rw [if_pos c2] at H
  have c2b0 : decide (a0 ≤ 0) = true:=decide_eq_true c2
  clear c2
  obtain rfl:=Option.some.inj H
  go_enter Tryd.func68,Tryd.ntmps68
  go_wp2
  go_ret
  exact ⟨by first|rfl|(simp [errW_none,errW_some] <;> rfl)|(simp [*,errW_none,errW_some] <;> rfl),by repeat (first|(with_reducible first|exact HB.out|apply below_alloc|apply pw_below_drewN|apply below_drew1)|exact HB.out)⟩
 ·rw [if_neg c2] at H
  have c2b0 : decide (a0 ≤ 0) = false:=decide_eq_false c2
  clear c2
  have H':=Aside0.mk H
  clear H
  go_enter Tryd.func68,Tryd.ntmps68
  go_wp2
  go_loopg [0,3] k (fun kq v0 v3 w' => ∃ (x0_1 : Int) (x3_1 : ByteArray),v0 = .int .i64 x0_1 ∧ v3 = .string x3_1 ∧ Aside0 (laws_markText.l0 kq x0_1 x3_1 = some r) ∧ Aside0 (kq ≤ k) ∧ Aside0 (Below w.heap.size w w'))
  case atStart => exact ⟨(a0),((⟨#[]⟩ : ByteArray)),(by first|rfl|(simp;done)|(simp [*];done)),(by first|rfl|(simp;done)|(simp [*];done)),H',⟨Nat.le_refl _⟩,⟨by repeat (first|(with_reducible first|exact HB.out|apply below_alloc|apply pw_below_drewN|apply below_drew1)|exact HB.out)⟩⟩
  case round =>
   clear H'
   try clear c2
   try clear c2b0
   obtain ⟨x0_1,x3_1,rfl,rfl,HA,HK1,HB⟩:=hrel
   cases gk with
   | zero => exact absurd HA.out (by simp [laws_markText.l0])
   | succ k1 =>
    have H:=HA.out
    clear HA
    simp only [laws_markText.l0] at H
    by_cases c3 : x0_1 > 0
    ·rw [if_pos c3] at H
     have c3b0 : decide (0 < x0_1) = true:=decide_eq_true c3
     clear c3
     obtain ⟨y207,hy207⟩ : ∃ y_ : List Int,y_ = (([(wrap64 (48 + (Int.tmod x0_1 10))) % 256] : List Int)):=⟨_,rfl⟩
     replace H : (if (strOfNums y207).size + x3_1.size ≤ 9223372036854775807 then (laws_markText.l0 k1 (wrap64 (Int.tdiv x0_1 10)) ((strOfNums y207) ++ x3_1)) else (none)) = some r:=by first|(rw [hy207];with_reducible exact H)|(have H2_:=(Option.bind_some _ _).symm.trans H;rw [hy207];with_reducible exact H2_)|(have H2_:=(Option.bind_some _ _).symm.trans H;with_reducible exact H2_)|with_reducible exact H|(rw [hy207];exact H)|exact H
     have Ny207:=Aside0.mk hy207
     clear hy207
     by_cases c4 : (strOfNums y207).size + x3_1.size ≤ 9223372036854775807
     rotate_left
     ·rw [if_neg c4] at H
      exact absurd H (by simp)
     rw [if_pos c4] at H
     have c4b0:=eq_true c4
     have c4b1 : decide ((strOfNums y207).size + x3_1.size ≤ 9223372036854775807) = true:=decide_eq_true c4
     try have c4b2 : (9223372036854775807 < (strOfNums y207).size + x3_1.size) = False:=eq_false (Nat.not_lt.2 c4)
     have H':=Aside0.mk H
     clear H
     go_wp2_with (first|((with_reducible refine gate_dst (N:=12) rfl ?_);refine Kd.R_lit (Kd.int .u8) _ 5 ?hg (N:=12) ?hd (xs:=([(wrap64 (48 + (Int.tmod x0_1 10))) % 256] : List Int)) (inner:=[.int .u8 ((wrap64 (48 + (Int.tmod x0_1 10))) % 256)]) (ok:=fun _ => True) (okp:=fun _ => True) ?hr ?hp (fun _ hk => hk) trivial (Below.refl _ _) (Nat.le_refl _) (by simp) ?_;(case hd => rfl);(case hg => rfl);(case hr => first|(go_simp;done)|(go_simp;rfl));(case hp => exact (Reps.one (show Kd.M (Kd.int .u8) _ _ _ ((wrap64 (48 + (Int.tmod x0_1 10))) % 256) [.int .u8 ((wrap64 (48 + (Int.tmod x0_1 10))) % 256)] from rfl) (Reps.none _ _)));intro v208 w5 ho6 hb hg_ hnew_;clear hg_ hnew_;(first|rw [← Ny207.out] at ho6|(simp only [Int.reduceToNat] at ho6;rw [← Ny207.out] at ho6));have n0_:=Aside0.mk (Kd.R_lower ho6 (below_size (by repeat (first|(with_reducible first|exact HB.out|apply below_alloc|apply pw_below_drewN|apply below_drew1)|exact HB.out))));have n1_:=Aside0.mk (below_step (by repeat (first|(with_reducible first|exact HB.out|apply below_alloc|apply pw_below_drewN|apply below_drew1)|exact HB.out)) hb);clear HB;have HO209:=n0_;have HB:=n1_;clear n0_ n1_;clear hb ho6;have hcv7:=own_string (P:=Tryd.prog) Tryd.underlying97 Tryd.underlying5 Tryd.underlying9 (Kd.own_of_R HO209.out)))
     go_roundg k1
     case measure => have:=HK1.out;omega
     case rel => exact ⟨(wrap64 (Int.tdiv x0_1 10)),((strOfNums y207) ++ x3_1),(by first|rfl|(simp;done)|(simp [*];done)),(by first|rfl|(simp;done)|(simp [*];done)),H',⟨by have:=HK1.out;omega⟩,⟨by repeat (first|(with_reducible first|exact HB.out|apply below_alloc|apply pw_below_drewN|apply below_drew1)|exact HB.out)⟩⟩
    ·rw [if_neg c3] at H
     have c3b0 : decide (0 < x0_1) = false:=decide_eq_false c3
     clear c3
     by_cases c8 : 1 + x3_1.size ≤ 9223372036854775807
     rotate_left
     ·rw [if_neg c8] at H
      exact absurd H (by simp)
     rw [if_pos c8] at H
     have c8b0:=eq_true c8
     have c8b1 : decide (1 + x3_1.size ≤ 9223372036854775807) = true:=decide_eq_true c8
     try have c8b2 : (9223372036854775807 < 1 + x3_1.size) = False:=eq_false (Nat.not_lt.2 c8)
     obtain rfl:=Option.some.inj H
     go_wp2
     go_ret
     exact ⟨by first|rfl|(simp [errW_none,errW_some] <;> rfl)|(simp [*,errW_none,errW_some] <;> rfl),by repeat (first|(with_reducible first|exact HB.out|apply below_alloc|apply pw_below_drewN|apply below_drew1)|exact HB.out)⟩
end Go.Proofs.YtojedbogbodkiaaDoor.KCo
