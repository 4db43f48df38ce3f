/- Contracts of functions of the program and of the reference, each a Lean function and the proof that Go comes to its answer. Written by wip/pp/pp.py out of the kit's print, for this claim; nothing of it is trusted: Lean checks it. -/
import Derived.Test.YtojedbogbodkiaaDoorKDbx0
import Derived.Test.YtojedbogbodkiaaDoorKDbx8
namespace Go.Proofs.YtojedbogbodkiaaDoor.KDb
open Go.RowKit Go.Proofs.YtojedbogbodkiaaDoorW.PrintWords Go.Proofs.YtojedbogbodkiaaDoorW.PrintLast Go.Proofs.YtojedbogbodkiaaDoorW.PrintMore
set_option linter.unusedVariables false
set_option linter.unusedSimpArgs false

set_option linter.unusedSectionVars false
variable [fk_laws_szTerm] [fk_laws_toTerm] [fk_laws_eqTerm] [fk_strconv_Itoa]
/-! ### impl_TermOk: function 56 -/
def impl_TermOk.f (k : Nat) (a0_0 : Int) (a0_1 : ByteArray) (a0_2 : Int) (l0_3 : List (S29)) : Option (Bool):=(impl_sized.f k a0_0 a0_1 a0_2 l0_3 1).bind fun t247 => (some (decide (t247 ≤ 400)))
theorem impl_TermOk.mono : ∀ a0 a1 a2 a3 k,LeO (impl_TermOk.f k a0 a1 a2 a3) (impl_TermOk.f (k + 1) a0 a1 a2 a3):=by
 intro a0 a1 a2 a3 k
 unfold impl_TermOk.f
 repeat' first
   | (with_reducible exact impl_sized.mono _ _ _ _ _ _)
   | (with_reducible exact LeO.refl _)
   | (with_reducible exact LeO.none _)
   | (with_reducible refine LeO.ite ?_ ?_)
   | (with_reducible refine LeO.bind ?_ (fun _ => ?_))
   | exact impl_sized.mono _ _ _ _ _ _
   | exact LeO.none _
   | refine LeO.ite ?_ ?_
   | refine LeO.bind ?_ (fun _ => ?_)
set_option maxHeartbeats 8000000 in
set_option maxRecDepth 100000 in
theorem impl_TermOk.calls (k : Nat) (a0_0 : Int) (a0_1 : ByteArray) (a0_2 : Int) (A0_3 : Option Addr) (c0_3 : Nat) (l0_3 : List (S29)) (r : Bool) (w : World) (hr0_3 : Kd.C k29 w A0_3 l0_3.length l0_3) (hc0_3 : l0_3.length ≤ c0_3) (h : impl_TermOk.f k a0_0 a0_1 a0_2 l0_3 = some r) :
  Calls Tryd.prog 56 #[.agg #[.int .i64 a0_0,.string a0_1,.int .i64 a0_2,.slice A0_3 l0_3.length c0_3]] w fun e w' => e = .returned (.bool r) ∧ Below w.heap.size w w':=by
 have hu29:=Tryd.underlying29
 have HR0_3:=Aside0.mk hr0_3
 have HC0_3:=Aside0.mk hc0_3
 clear hr0_3 hc0_3
 have HB:=Aside0.mk (Below.refl w.heap.size w)
 have H : ((impl_sized.f k a0_0 a0_1 a0_2 l0_3 1).bind fun t247 => (some (decide (t247 ≤ 400)))) = some r:=h
 clear h
 replace H:=Option.bind_eq_some_iff.mp H
 obtain ⟨t247,A20,H⟩:=H
 replace H : (some (decide (t247 ≤ 400))) = some r:=H
 have A2:=Aside0.mk A20
 clear A20
 obtain rfl:=Option.some.inj H
 go_enter Tryd.func56,Tryd.ntmps56
 go_wp2_with (first|((with_reducible refine gate_dst (N:=1) rfl ?_);refine box_event ?hg (N:=1) ?hd (cs:=#[.int .i64 a0_0,.string a0_1,.int .i64 a0_2,.slice A0_3 l0_3.length c0_3]) (t:=29) ?hr ?_;(case hd => rfl);(case hg => rfl);(case hr => first|(go_simp;done)|(go_simp;rfl));intro gb246 hg w3 hbox hb;have n0_:=Aside0.mk (below_step (by repeat (first|(with_reducible first|exact HB.out|apply below_alloc|apply pw_below_drewN|apply below_drew1)|exact HB.out)) hb);have n1_:=Aside0.mk (hbox);have n2_:=Aside0.mk ((by rw [hg];exact (below_size (by repeat (first|(with_reducible first|exact HB.out|apply below_alloc|apply pw_below_drewN|apply below_drew1)|exact HB.out))) : w.heap.size ≤ gb246));have n3_:=Aside0.mk ((by rw [hg];exact (below_size (by repeat (first|(with_reducible first|exact HB.out|apply below_alloc|apply pw_below_drewN|apply below_drew1)|exact HB.out))) : w.heap.size ≤ gb246));clear HB;have HB:=n0_;have BK246:=n1_;have GW246:=n2_;have GE246:=n3_;clear n0_ n1_ n2_ n3_;clear hb hbox hg;have hcz4_0 : w3.cell? ⟨gb246,0,none⟩ = some (.int .i64 a0_0):=(blk_cell BK246.out 0).trans rfl;have hcz4_1 : w3.cell? ⟨gb246,1,none⟩ = some (.string a0_1):=(blk_cell BK246.out 1).trans rfl;have hcz4_2 : w3.cell? ⟨gb246,2,none⟩ = some (.int .i64 a0_2):=(blk_cell BK246.out 2).trans rfl;have hcz4_3 : w3.cell? ⟨gb246,3,none⟩ = some (.slice A0_3 l0_3.length c0_3):=(blk_cell BK246.out 3).trans rfl;have hfz4_0:=blk_frozen BK246.out 0;have hfz4_1:=blk_frozen BK246.out 1;have hfz4_2:=blk_frozen BK246.out 2;have hfz4_3:=blk_frozen BK246.out 3)|((with_reducible refine gate_callee (f:=88) rfl ?_);refine goesL_ (some 4) rfl rfl Tryd.func88 (by kernel_rfl) rfl #[.agg #[.int .i64 a0_0,.string a0_1,.int .i64 a0_2,.slice A0_3 l0_3.length c0_3],.int .i64 1] rfl (by (try simp only [List.map_toArray,List.map_cons,List.map_nil]);first|done|rfl|(simp only [List.length_drop,List.length_take];rfl)) ?_;(with_reducible refine (impl_sized.calls k a0_0 a0_1 a0_2 _ _ l0_3 1 t247 _ ?side1 ?side2 A2.out).mono ?_);(case side1 => repeat (first|exact (Kd.C_below HR0_3.out HB.out)|(with_reducible refine Kd.C_alloc ?_ _)|(with_reducible refine Kd.C_drewN ?_ _)|(with_reducible refine Kd.C_drew ?_)));(case side2 => exact HC0_3.out);rintro e w5 ⟨rfl,hb⟩;refine ⟨_,rfl,?_⟩;have n0_:=Aside0.mk (blk_below (g:=gb246) (o:=.cells #[.int .i64 a0_0,.string a0_1,.int .i64 a0_2,.slice A0_3 l0_3.length c0_3] 29 (0,0)) (by (with_reducible repeat (first|refine blk_drewN ?_ _|refine blk_drew ?_|refine blk_alloc ?_ _));exact BK246.out) hb);have n1_:=Aside0.mk (below_step (by repeat (first|(with_reducible first|exact HB.out|apply below_alloc|apply pw_below_drewN|apply below_drew1|refine below_set ?_ GE246.out)|exact HB.out)) hb);clear BK246;clear HB;have BK246:=n0_;have HB:=n1_;clear n0_ n1_;(try clear hb)))
 go_ret
 exact ⟨by first|rfl|(simp [errW_none,errW_some] <;> rfl)|(simp [*,errW_none,errW_some] <;> rfl),by repeat (first|(with_reducible first|exact HB.out|apply below_alloc|apply pw_below_drewN|apply below_drew1|refine below_set ?_ GE246.out)|exact HB.out)⟩

-- NOT PRINTED: function 120 (strconv_small)

-- NOT PRINTED: function 126 (strconv_log10Pow2)

-- NOT PRINTED: function 127 (bits_Len64)

-- NOT PRINTED: function 128 (strconv_bool2_int)

-- NOT PRINTED: function 121 (strconv_numDigits)

-- NOT PRINTED: function 122 (strconv_formatBase10)

-- NOT PRINTED: function 129 (strconv_isPowerOfTwo)

-- NOT PRINTED: function 131 (bits_TrailingZeros32)

-- NOT PRINTED: function 132 (bits_TrailingZeros64)

-- NOT PRINTED: function 130 (bits_TrailingZeros)

-- NOT PRINTED: function 123 (strconv_formatBits)

-- NOT PRINTED: function 117 (strconv_FormatInt)

-- NOT PRINTED: function 106 (strconv_Itoa_106)

-- NOT PRINTED: function 83 (strconv_Itoa_83)

/-! ### impl_Decimal: function 45 -/
def impl_Decimal.f (k : Nat) (a0 : Int) : Option (ByteArray):=(fk_strconv_Itoa.f k a0).bind fun t248 => (some t248)
theorem impl_Decimal.mono : ∀ a0 k,LeO (impl_Decimal.f k a0) (impl_Decimal.f (k + 1) a0):=by
 intro a0 k
 unfold impl_Decimal.f
 repeat' first
   | (with_reducible exact fk_strconv_Itoa.mono _ _)
   | (with_reducible exact LeO.refl _)
   | (with_reducible exact LeO.none _)
   | (with_reducible refine LeO.ite ?_ ?_)
   | (with_reducible refine LeO.bind ?_ (fun _ => ?_))
   | exact fk_strconv_Itoa.mono _ _
   | exact LeO.none _
   | refine LeO.ite ?_ ?_
   | refine LeO.bind ?_ (fun _ => ?_)
set_option maxHeartbeats 8000000 in
set_option maxRecDepth 100000 in
theorem impl_Decimal.calls (k : Nat) (a0 : Int) (r : ByteArray) (w : World) (hTAB : Lib.TabBelow Tryd.prog w.heap.size w "internal/strconv.uint64pow10" .u64 Lib.pow10Tab) (h : impl_Decimal.f k a0 = some r) :
  Calls Tryd.prog 45 #[.int .i64 a0] w fun e w' => e = .returned (.string r) ∧ Below w.heap.size w w':=by
 have HB:=Aside0.mk (Below.refl w.heap.size w)
 have HTAB:=Aside0.mk hTAB
 clear hTAB
 have H : ((fk_strconv_Itoa.f k a0).bind fun t248 => (some t248)) = some r:=h
 clear h
 replace H:=Option.bind_eq_some_iff.mp H
 obtain ⟨t248,A20,H⟩:=H
 replace H : (some t248) = some r:=H
 have A2:=Aside0.mk A20
 clear A20
 obtain rfl:=Option.some.inj H
 go_enter Tryd.func45,Tryd.ntmps45
 go_wp2_with (first|((with_reducible refine gate_callee (f:=83) rfl ?_);refine goesL_ (some 4) rfl rfl Tryd.func83 (by kernel_rfl) rfl #[.int .i64 a0] rfl (by (try simp only [List.map_toArray,List.map_cons,List.map_nil]);first|done|rfl|(simp only [List.length_drop,List.length_take];rfl)) ?_;(with_reducible refine (fk_strconv_Itoa.calls k a0 t248 _ (tab_at HTAB.out (by repeat (first|(with_reducible first|exact HB.out|apply below_alloc|apply pw_below_drewN|apply below_drew1)|exact HB.out))) A2.out).mono ?_);rintro e w3 ⟨rfl,hb⟩;refine ⟨_,rfl,?_⟩;have n0_:=Aside0.mk (below_step (by repeat (first|(with_reducible first|exact HB.out|apply below_alloc|apply pw_below_drewN|apply below_drew1)|exact HB.out)) hb);clear HB;have HB:=n0_;clear n0_;(try clear hb)))
 go_ret
 exact ⟨by first|rfl|(simp [errW_none,errW_some] <;> rfl)|(simp [*,errW_none,errW_some] <;> rfl),by repeat (first|(with_reducible first|exact HB.out|apply below_alloc|apply pw_below_drewN|apply below_drew1)|exact HB.out)⟩

/-! ### impl_PredOf: function 13 -/
def impl_PredOf.f (k : Nat) (a0_0 : Int) (a0_1 : ByteArray) (a0_2 : Int) (l0_3 : List (S29)) : Option (ByteArray):=if a0_0 = 2 then (if a0_1.size + 1 ≤ 9223372036854775807 then ((impl_Decimal.f k (l0_3.length : Int)).bind fun t250 => (if (a0_1 ++ (⟨#[47]⟩ : ByteArray)).size + t250.size ≤ 9223372036854775807 then (some ((a0_1 ++ (⟨#[47]⟩ : ByteArray)) ++ t250)) else (none))) else (none)) else (if a0_0 = 4 then (if a0_1.size + 1 ≤ 9223372036854775807 then ((impl_Decimal.f k (l0_3.length : Int)).bind fun t251 => (if (a0_1 ++ (⟨#[47]⟩ : ByteArray)).size + t251.size ≤ 9223372036854775807 then (some ((a0_1 ++ (⟨#[47]⟩ : ByteArray)) ++ t251)) else (none))) else (none)) else (some (⟨#[]⟩ : ByteArray)))
theorem impl_PredOf.mono : ∀ a0 a1 a2 a3 k,LeO (impl_PredOf.f k a0 a1 a2 a3) (impl_PredOf.f (k + 1) a0 a1 a2 a3):=by
 intro a0 a1 a2 a3 k
 unfold impl_PredOf.f
 repeat' first
   | (with_reducible exact impl_Decimal.mono _ _)
   | (with_reducible exact LeO.refl _)
   | (with_reducible exact LeO.none _)
   | (with_reducible refine LeO.ite ?_ ?_)
   | (with_reducible refine LeO.bind ?_ (fun _ => ?_))
   | exact impl_Decimal.mono _ _
   | exact LeO.none _
   | refine LeO.ite ?_ ?_
   | refine LeO.bind ?_ (fun _ => ?_)
def impl_PredOf.T3 : Bool × List (List Nat × List Nat):=(true,[([],[]),([0],[0]),([1],[1]),([],[]),([3],[3]),([4],[4]),([5],[5]),([2,6],[2,6]),([7,6,0,1,2,3,4,5,6,7],[7])])
def impl_PredOf.B3 : List Nat:=[0,1,3,0,8,24,56,127,255]
theorem impl_PredOf.tab3 : rtab .any (opsOf Tryd.f13 3) = impl_PredOf.T3:=by kernel_rfl
theorem impl_PredOf.bits3 : waitsOk impl_PredOf.T3.2 impl_PredOf.B3 = true:=by kernel_rfl
set_option maxHeartbeats 8000000 in
set_option maxRecDepth 100000 in
theorem impl_PredOf.calls (k : Nat) (a0_0 : Int) (a0_1 : ByteArray) (a0_2 : Int) (A0_3 : Option Addr) (c0_3 : Nat) (l0_3 : List (S29)) (r : ByteArray) (w : World) (hTAB : Lib.TabBelow Tryd.prog w.heap.size w "internal/strconv.uint64pow10" .u64 Lib.pow10Tab) (hr0_3 : Kd.C k29 w A0_3 l0_3.length l0_3) (hc0_3 : l0_3.length ≤ c0_3) (h : impl_PredOf.f k a0_0 a0_1 a0_2 l0_3 = some r) :
  Calls Tryd.prog 13 #[.agg #[.int .i64 a0_0,.string a0_1,.int .i64 a0_2,.slice A0_3 l0_3.length c0_3]] w fun e w' => e = .returned (.string r) ∧ Below w.heap.size w w':=by
 have hu29:=Tryd.underlying29
 have HR0_3:=Aside0.mk hr0_3
 have HC0_3:=Aside0.mk hc0_3
 clear hr0_3 hc0_3
 have HB:=Aside0.mk (Below.refl w.heap.size w)
 have HTAB:=Aside0.mk hTAB
 clear hTAB
 have H : (if a0_0 = 2 then (if a0_1.size + 1 ≤ 9223372036854775807 then ((impl_Decimal.f k (l0_3.length : Int)).bind fun t250 => (if (a0_1 ++ (⟨#[47]⟩ : ByteArray)).size + t250.size ≤ 9223372036854775807 then (some ((a0_1 ++ (⟨#[47]⟩ : ByteArray)) ++ t250)) else (none))) else (none)) else (if a0_0 = 4 then (if a0_1.size + 1 ≤ 9223372036854775807 then ((impl_Decimal.f k (l0_3.length : Int)).bind fun t251 => (if (a0_1 ++ (⟨#[47]⟩ : ByteArray)).size + t251.size ≤ 9223372036854775807 then (some ((a0_1 ++ (⟨#[47]⟩ : ByteArray)) ++ t251)) else (none))) else (none)) else (some (⟨#[]⟩ : ByteArray)))) = some r:=h
 clear h
 by_cases c2 : a0_0 = 2
 ·rw [if_pos c2] at H
  have c2b0 : (a0_0 == 2) = true:=beq_iff_eq.mpr c2
  have c2b1 : (a0_0 != 2) = false:=bne_eq_false_iff_eq.mpr c2
  clear c2
  by_cases c3 : a0_1.size + 1 ≤ 9223372036854775807
  rotate_left
  ·rw [if_neg c3] at H
   exact absurd H (by simp)
  rw [if_pos c3] at H
  have c3b0:=eq_true c3
  have c3b1 : decide (a0_1.size + 1 ≤ 9223372036854775807) = true:=decide_eq_true c3
  try have c3b2 : (9223372036854775807 < a0_1.size + 1) = False:=eq_false (Nat.not_lt.2 c3)
  replace H:=Option.bind_eq_some_iff.mp H
  obtain ⟨t250,A40,H⟩:=H
  replace H : (if (a0_1 ++ (⟨#[47]⟩ : ByteArray)).size + t250.size ≤ 9223372036854775807 then (some ((a0_1 ++ (⟨#[47]⟩ : ByteArray)) ++ t250)) else (none)) = some r:=H
  have A4:=Aside0.mk A40
  clear A40
  by_cases c5 : (a0_1 ++ (⟨#[47]⟩ : ByteArray)).size + t250.size ≤ 9223372036854775807
  rotate_left
  ·rw [if_neg c5] at H
   exact absurd H (by simp)
  rw [if_pos c5] at H
  have c5b0:=eq_true c5
  have c5b1 : decide ((a0_1 ++ (⟨#[47]⟩ : ByteArray)).size + t250.size ≤ 9223372036854775807) = true:=decide_eq_true c5
  try have c5b2 : (9223372036854775807 < (a0_1 ++ (⟨#[47]⟩ : ByteArray)).size + t250.size) = False:=eq_false (Nat.not_lt.2 c5)
  try have c5b3 : (9223372036854775807 < a0_1.size + 1 + t250.size) = False:=by rw [ByteArray.size_append] at c5b2;exact c5b2
  obtain rfl:=Option.some.inj H
  go_enter Tryd.func13,Tryd.ntmps13
  try go_wp2_with (first|((with_reducible refine gate_dst (N:=1) rfl ?_);refine box_event ?hg (N:=1) ?hd (cs:=#[.int .i64 a0_0,.string a0_1,.int .i64 a0_2,.slice A0_3 l0_3.length c0_3]) (t:=29) ?hr ?_;(case hd => rfl);(case hg => rfl);(case hr => first|(go_simp;done)|(go_simp;rfl));intro gb249 hg w6 hbox hb;have n0_:=Aside0.mk (below_step (by repeat (first|(with_reducible first|exact HB.out|apply below_alloc|apply pw_below_drewN|apply below_drew1)|exact HB.out)) hb);have n1_:=Aside0.mk (hbox);have n2_:=Aside0.mk ((by rw [hg];exact (below_size (by repeat (first|(with_reducible first|exact HB.out|apply below_alloc|apply pw_below_drewN|apply below_drew1)|exact HB.out))) : w.heap.size ≤ gb249));have n3_:=Aside0.mk ((by rw [hg];exact (below_size (by repeat (first|(with_reducible first|exact HB.out|apply below_alloc|apply pw_below_drewN|apply below_drew1)|exact HB.out))) : w.heap.size ≤ gb249));clear HB;have HB:=n0_;have BK249:=n1_;have GW249:=n2_;have GE249:=n3_;clear n0_ n1_ n2_ n3_;clear hb hbox hg;have hcz7_0 : w6.cell? ⟨gb249,0,none⟩ = some (.int .i64 a0_0):=(blk_cell BK249.out 0).trans rfl;have hcz7_1 : w6.cell? ⟨gb249,1,none⟩ = some (.string a0_1):=(blk_cell BK249.out 1).trans rfl;have hcz7_2 : w6.cell? ⟨gb249,2,none⟩ = some (.int .i64 a0_2):=(blk_cell BK249.out 2).trans rfl;have hcz7_3 : w6.cell? ⟨gb249,3,none⟩ = some (.slice A0_3 l0_3.length c0_3):=(blk_cell BK249.out 3).trans rfl;have hfz7_0:=blk_frozen BK249.out 0;have hfz7_1:=blk_frozen BK249.out 1;have hfz7_2:=blk_frozen BK249.out 2;have hfz7_3:=blk_frozen BK249.out 3))
  have n0_:=Aside0.mk (blk_drew BK249.out)
  have n1_:=Aside0.mk (below_drew1 HB.out)
  clear BK249
  clear HB
  have BK249:=n0_
  have HB:=n1_
  clear n0_ n1_
  refine start_ (n:=9) (S:=fun w' => w'.cell? ⟨gb249,0,none⟩ = some (.int .i64 a0_0) ∧ w'.cell? ⟨gb249,1,none⟩ = some (.string a0_1) ∧ w'.cell? ⟨gb249,2,none⟩ = some (.int .i64 a0_2) ∧ w'.cell? ⟨gb249,3,none⟩ = some (.slice A0_3 l0_3.length c0_3)) (ds:=[]) #[false,false,false,false,false,false,false,false,false] (by kernel_rfl) rfl rfl ⟨(blk_cell BK249.out 0).trans rfl,(blk_cell BK249.out 1).trans rfl,(blk_cell BK249.out 2).trans rfl,(blk_cell BK249.out 3).trans rfl⟩ (fun hHeld => ?_);refine with_tabW impl_PredOf.tab3 impl_PredOf.bits3 (fun HT_ HW_ => ?_)
  generalize w6.drew = w8 at BK249 HB hHeld ⊢
  refine pure_ (i:=0) (N:=some 11) (v:=?_) (a':=?_) #[true,false,false,false,false,false,false,false,false] rfl rfl (any_of HT_.out (by kernel_rfl)) (fun _ _ _ h => h) (Or.inl ⟨by rfl,?_⟩) ?_ ?_
  rotate_left
  ·intro w'
   go_simp
   with_reducible rfl
  rotate_left
  ·simp only [Act.put,List.setIfInBounds_toArray,List.set_cons_zero,List.set_cons_succ,i64_w,i32_w]
   rfl
  refine pure_ (i:=3) (N:=some 14) (v:=?_) (a':=?_) #[true,false,false,true,false,false,false,false,false] rfl rfl (any_of HT_.out (by kernel_rfl)) (fun _ _ _ h => h) (Or.inl ⟨by rfl,?_⟩) ?_ ?_
  rotate_left
  ·intro w'
   go_simp
   with_reducible rfl
  rotate_left
  ·simp only [Act.put,List.setIfInBounds_toArray,List.set_cons_zero,List.set_cons_succ,i64_w,i32_w]
   rfl
  refine take_ (i:=1) (N:=some 12) (v:=?_) (a':=?_) #[true,true,false,true,false,false,false,false,false] rfl rfl (take_ofW HT_.out HW_.out (by kernel_rfl)) (fun _ _ _ h => h) (Or.inl ⟨by rfl,?_⟩) hHeld ?_ ?_
  rotate_left
  ·rintro w' ⟨s0,s1,s2,s3⟩
   go_simp
   with_reducible rfl
  rotate_left
  ·simp only [Act.put,List.setIfInBounds_toArray,List.set_cons_zero,List.set_cons_succ,i64_w,i32_w]
   rfl
  refine pure_ (i:=2) (N:=some 13) (v:=?_) (a':=?_) #[true,true,true,true,false,false,false,false,false] rfl rfl (any_of HT_.out (by kernel_rfl)) (fun _ _ _ h => h) (Or.inl ⟨by rfl,?_⟩) ?_ ?_
  rotate_left
  ·intro w'
   go_simp
   with_reducible rfl
  rotate_left
  ·simp only [Act.put,List.setIfInBounds_toArray,List.set_cons_zero,List.set_cons_succ,i64_w,i32_w]
   rfl
  refine take_ (i:=4) (N:=some 15) (v:=?_) (a':=?_) #[true,true,true,true,true,false,false,false,false] rfl rfl (take_ofW HT_.out HW_.out (by kernel_rfl)) (fun _ _ _ h => h) (Or.inl ⟨by rfl,?_⟩) hHeld ?_ ?_
  rotate_left
  ·rintro w' ⟨s0,s1,s2,s3⟩
   go_simp
   with_reducible rfl
  rotate_left
  ·simp only [Act.put,List.setIfInBounds_toArray,List.set_cons_zero,List.set_cons_succ,i64_w,i32_w]
   rfl
  refine pure_ (i:=5) (N:=some 16) (v:=?_) (a':=?_) #[true,true,true,true,true,true,false,false,false] rfl rfl (any_of HT_.out (by kernel_rfl)) (fun _ _ _ h => h) (Or.inl ⟨by rfl,?_⟩) ?_ ?_
  rotate_left
  ·intro w'
   go_simp
   with_reducible rfl
  rotate_left
  ·simp only [Act.put,List.setIfInBounds_toArray,List.set_cons_zero,List.set_cons_succ,i64_w,i32_w]
   rfl
  refine one_ (i:=6) (N:=some 17) #[true,true,true,true,true,true,true,false,false] rfl rfl (one_of HT_.out (by kernel_rfl)) (by decide) (fun K hK => ?_)
  refine goes_ Tryd.func45 (by kernel_rfl) rfl #[.int .i64 (l0_3.length : Int)] (by rfl) rfl rfl (by (try simp only [List.map_toArray,List.map_cons,List.map_nil]);first|done|rfl|(simp only [List.length_drop,List.length_take];rfl)) ?_
  with_reducible refine (impl_Decimal.calls k (l0_3.length : Int) t250 _ (tab_at HTAB.out (by repeat (first|(with_reducible first|exact HB.out|apply below_alloc|apply pw_below_drewN|apply below_drew1|refine below_set ?_ GE249.out)|exact HB.out))) A4.out).mono ?_
  rintro e w9 ⟨rfl,hb⟩
  refine ⟨_,rfl,?_⟩
  have n0_:=Aside0.mk (blk_below (g:=gb249) (o:=.cells #[.int .i64 a0_0,.string a0_1,.int .i64 a0_2,.slice A0_3 l0_3.length c0_3] 29 (0,0)) (by (with_reducible repeat (first|refine blk_drewN ?_ _|refine blk_drew ?_|refine blk_alloc ?_ _));exact BK249.out) hb)
  have n1_:=Aside0.mk (below_step (by repeat (first|(with_reducible first|exact HB.out|apply below_alloc|apply pw_below_drewN|apply below_drew1|refine below_set ?_ GE249.out)|exact HB.out)) hb)
  clear BK249
  clear HB
  have BK249:=n0_
  have HB:=n1_
  clear n0_ n1_
  (try clear hb)
  refine hK.out _ _ ⟨(blk_cell BK249.out 0).trans rfl,(blk_cell BK249.out 1).trans rfl,(blk_cell BK249.out 2).trans rfl,(blk_cell BK249.out 3).trans rfl⟩ (fun hHeld => ?_)
  clear hK K
  refine norm_ (a':=?_) ?_ ?_
  rotate_left
  ·show Act.put _ (some 17) _ = _
   simp only [Act.put,List.setIfInBounds_toArray,List.set_cons_zero,List.set_cons_succ,i64_w,i32_w]
   rfl
  refine pure_ (i:=7) (N:=some 18) (v:=?_) (a':=?_) #[true,true,true,true,true,true,true,true,false] rfl rfl (any_of HT_.out (by kernel_rfl)) (fun _ _ _ h => h) (Or.inl ⟨by rfl,?_⟩) ?_ ?_
  rotate_left
  ·intro w'
   go_simp
   with_reducible rfl
  rotate_left
  ·simp only [Act.put,List.setIfInBounds_toArray,List.set_cons_zero,List.set_cons_succ,i64_w,i32_w]
   rfl
  refine pure_ (i:=8) (N:=some 2) (v:=?_) (a':=?_) #[true,true,true,true,true,true,true,true,true] rfl rfl (any_of HT_.out (by kernel_rfl)) (fun _ _ _ h => h) (Or.inl ⟨by rfl,?_⟩) ?_ ?_
  rotate_left
  ·intro w'
   go_simp
   with_reducible rfl
  rotate_left
  ·simp only [Act.put,List.setIfInBounds_toArray,List.set_cons_zero,List.set_cons_succ,i64_w,i32_w]
   rfl
  refine done_ (done_of HT_.out (by kernel_rfl)) ?_
  try go_wp2
  go_ret
  exact ⟨by first|rfl|(simp [errW_none,errW_some] <;> rfl)|(simp [*,errW_none,errW_some] <;> rfl),by repeat (first|(with_reducible first|exact HB.out|apply below_alloc|apply pw_below_drewN|apply below_drew1|refine below_set ?_ GE249.out)|exact HB.out)⟩
 ·rw [if_neg c2] at H
  have c2b0 : (a0_0 == 2) = false:=beq_eq_false_iff_ne.mpr c2
  have c2b1 : (a0_0 != 2) = true:=bne_iff_ne.mpr c2
  by_cases c10 : a0_0 = 4
  ·rw [if_pos c10] at H
   have c10b0 : (a0_0 == 4) = true:=beq_iff_eq.mpr c10
   have c10b1 : (a0_0 != 4) = false:=bne_eq_false_iff_eq.mpr c10
   clear c10
   by_cases c11 : a0_1.size + 1 ≤ 9223372036854775807
   rotate_left
   ·rw [if_neg c11] at H
    exact absurd H (by simp)
   rw [if_pos c11] at H
   have c11b0:=eq_true c11
   have c11b1 : decide (a0_1.size + 1 ≤ 9223372036854775807) = true:=decide_eq_true c11
   try have c11b2 : (9223372036854775807 < a0_1.size + 1) = False:=eq_false (Nat.not_lt.2 c11)
   replace H:=Option.bind_eq_some_iff.mp H
   obtain ⟨t251,A120,H⟩:=H
   replace H : (if (a0_1 ++ (⟨#[47]⟩ : ByteArray)).size + t251.size ≤ 9223372036854775807 then (some ((a0_1 ++ (⟨#[47]⟩ : ByteArray)) ++ t251)) else (none)) = some r:=H
   have A12:=Aside0.mk A120
   clear A120
   by_cases c13 : (a0_1 ++ (⟨#[47]⟩ : ByteArray)).size + t251.size ≤ 9223372036854775807
   rotate_left
   ·rw [if_neg c13] at H
    exact absurd H (by simp)
   rw [if_pos c13] at H
   have c13b0:=eq_true c13
   have c13b1 : decide ((a0_1 ++ (⟨#[47]⟩ : ByteArray)).size + t251.size ≤ 9223372036854775807) = true:=decide_eq_true c13
   try have c13b2 : (9223372036854775807 < (a0_1 ++ (⟨#[47]⟩ : ByteArray)).size + t251.size) = False:=eq_false (Nat.not_lt.2 c13)
   try have c13b3 : (9223372036854775807 < a0_1.size + 1 + t251.size) = False:=by rw [ByteArray.size_append] at c13b2;exact c13b2
   obtain rfl:=Option.some.inj H
   go_enter Tryd.func13,Tryd.ntmps13
   try go_wp2_with (first|((with_reducible refine gate_dst (N:=1) rfl ?_);refine box_event ?hg (N:=1) ?hd (cs:=#[.int .i64 a0_0,.string a0_1,.int .i64 a0_2,.slice A0_3 l0_3.length c0_3]) (t:=29) ?hr ?_;(case hd => rfl);(case hg => rfl);(case hr => first|(go_simp;done)|(go_simp;rfl));intro gb249 hg w14 hbox hb;have n0_:=Aside0.mk (below_step (by repeat (first|(with_reducible first|exact HB.out|apply below_alloc|apply pw_below_drewN|apply below_drew1)|exact HB.out)) hb);have n1_:=Aside0.mk (hbox);have n2_:=Aside0.mk ((by rw [hg];exact (below_size (by repeat (first|(with_reducible first|exact HB.out|apply below_alloc|apply pw_below_drewN|apply below_drew1)|exact HB.out))) : w.heap.size ≤ gb249));have n3_:=Aside0.mk ((by rw [hg];exact (below_size (by repeat (first|(with_reducible first|exact HB.out|apply below_alloc|apply pw_below_drewN|apply below_drew1)|exact HB.out))) : w.heap.size ≤ gb249));clear HB;have HB:=n0_;have BK249:=n1_;have GW249:=n2_;have GE249:=n3_;clear n0_ n1_ n2_ n3_;clear hb hbox hg;have hcz15_0 : w14.cell? ⟨gb249,0,none⟩ = some (.int .i64 a0_0):=(blk_cell BK249.out 0).trans rfl;have hcz15_1 : w14.cell? ⟨gb249,1,none⟩ = some (.string a0_1):=(blk_cell BK249.out 1).trans rfl;have hcz15_2 : w14.cell? ⟨gb249,2,none⟩ = some (.int .i64 a0_2):=(blk_cell BK249.out 2).trans rfl;have hcz15_3 : w14.cell? ⟨gb249,3,none⟩ = some (.slice A0_3 l0_3.length c0_3):=(blk_cell BK249.out 3).trans rfl;have hfz15_0:=blk_frozen BK249.out 0;have hfz15_1:=blk_frozen BK249.out 1;have hfz15_2:=blk_frozen BK249.out 2;have hfz15_3:=blk_frozen BK249.out 3))
   have n0_:=Aside0.mk (blk_drew BK249.out)
   have n1_:=Aside0.mk (below_drew1 HB.out)
   clear BK249
   clear HB
   have BK249:=n0_
   have HB:=n1_
   clear n0_ n1_
   refine start_ (n:=9) (S:=fun w' => w'.cell? ⟨gb249,0,none⟩ = some (.int .i64 a0_0) ∧ w'.cell? ⟨gb249,1,none⟩ = some (.string a0_1) ∧ w'.cell? ⟨gb249,2,none⟩ = some (.int .i64 a0_2) ∧ w'.cell? ⟨gb249,3,none⟩ = some (.slice A0_3 l0_3.length c0_3)) (ds:=[]) #[false,false,false,false,false,false,false,false,false] (by kernel_rfl) rfl rfl ⟨(blk_cell BK249.out 0).trans rfl,(blk_cell BK249.out 1).trans rfl,(blk_cell BK249.out 2).trans rfl,(blk_cell BK249.out 3).trans rfl⟩ (fun hHeld => ?_);refine with_tabW impl_PredOf.tab3 impl_PredOf.bits3 (fun HT_ HW_ => ?_)
   generalize w14.drew = w16 at BK249 HB hHeld ⊢
   refine pure_ (i:=0) (N:=some 11) (v:=?_) (a':=?_) #[true,false,false,false,false,false,false,false,false] rfl rfl (any_of HT_.out (by kernel_rfl)) (fun _ _ _ h => h) (Or.inl ⟨by rfl,?_⟩) ?_ ?_
   rotate_left
   ·intro w'
    go_simp
    with_reducible rfl
   rotate_left
   ·simp only [Act.put,List.setIfInBounds_toArray,List.set_cons_zero,List.set_cons_succ,i64_w,i32_w]
    rfl
   refine pure_ (i:=3) (N:=some 14) (v:=?_) (a':=?_) #[true,false,false,true,false,false,false,false,false] rfl rfl (any_of HT_.out (by kernel_rfl)) (fun _ _ _ h => h) (Or.inl ⟨by rfl,?_⟩) ?_ ?_
   rotate_left
   ·intro w'
    go_simp
    with_reducible rfl
   rotate_left
   ·simp only [Act.put,List.setIfInBounds_toArray,List.set_cons_zero,List.set_cons_succ,i64_w,i32_w]
    rfl
   refine take_ (i:=1) (N:=some 12) (v:=?_) (a':=?_) #[true,true,false,true,false,false,false,false,false] rfl rfl (take_ofW HT_.out HW_.out (by kernel_rfl)) (fun _ _ _ h => h) (Or.inl ⟨by rfl,?_⟩) hHeld ?_ ?_
   rotate_left
   ·rintro w' ⟨s0,s1,s2,s3⟩
    go_simp
    with_reducible rfl
   rotate_left
   ·simp only [Act.put,List.setIfInBounds_toArray,List.set_cons_zero,List.set_cons_succ,i64_w,i32_w]
    rfl
   refine pure_ (i:=2) (N:=some 13) (v:=?_) (a':=?_) #[true,true,true,true,false,false,false,false,false] rfl rfl (any_of HT_.out (by kernel_rfl)) (fun _ _ _ h => h) (Or.inl ⟨by rfl,?_⟩) ?_ ?_
   rotate_left
   ·intro w'
    go_simp
    with_reducible rfl
   rotate_left
   ·simp only [Act.put,List.setIfInBounds_toArray,List.set_cons_zero,List.set_cons_succ,i64_w,i32_w]
    rfl
   refine take_ (i:=4) (N:=some 15) (v:=?_) (a':=?_) #[true,true,true,true,true,false,false,false,false] rfl rfl (take_ofW HT_.out HW_.out (by kernel_rfl)) (fun _ _ _ h => h) (Or.inl ⟨by rfl,?_⟩) hHeld ?_ ?_
   rotate_left
   ·rintro w' ⟨s0,s1,s2,s3⟩
    go_simp
    with_reducible rfl
   rotate_left
   ·simp only [Act.put,List.setIfInBounds_toArray,List.set_cons_zero,List.set_cons_succ,i64_w,i32_w]
    rfl
   refine pure_ (i:=5) (N:=some 16) (v:=?_) (a':=?_) #[true,true,true,true,true,true,false,false,false] rfl rfl (any_of HT_.out (by kernel_rfl)) (fun _ _ _ h => h) (Or.inl ⟨by rfl,?_⟩) ?_ ?_
   rotate_left
   ·intro w'
    go_simp
    with_reducible rfl
   rotate_left
   ·simp only [Act.put,List.setIfInBounds_toArray,List.set_cons_zero,List.set_cons_succ,i64_w,i32_w]
    rfl
   refine one_ (i:=6) (N:=some 17) #[true,true,true,true,true,true,true,false,false] rfl rfl (one_of HT_.out (by kernel_rfl)) (by decide) (fun K hK => ?_)
   refine goes_ Tryd.func45 (by kernel_rfl) rfl #[.int .i64 (l0_3.length : Int)] (by rfl) rfl rfl (by (try simp only [List.map_toArray,List.map_cons,List.map_nil]);first|done|rfl|(simp only [List.length_drop,List.length_take];rfl)) ?_
   with_reducible refine (impl_Decimal.calls k (l0_3.length : Int) t251 _ (tab_at HTAB.out (by repeat (first|(with_reducible first|exact HB.out|apply below_alloc|apply pw_below_drewN|apply below_drew1|refine below_set ?_ GE249.out)|exact HB.out))) A12.out).mono ?_
   rintro e w17 ⟨rfl,hb⟩
   refine ⟨_,rfl,?_⟩
   have n0_:=Aside0.mk (blk_below (g:=gb249) (o:=.cells #[.int .i64 a0_0,.string a0_1,.int .i64 a0_2,.slice A0_3 l0_3.length c0_3] 29 (0,0)) (by (with_reducible repeat (first|refine blk_drewN ?_ _|refine blk_drew ?_|refine blk_alloc ?_ _));exact BK249.out) hb)
   have n1_:=Aside0.mk (below_step (by repeat (first|(with_reducible first|exact HB.out|apply below_alloc|apply pw_below_drewN|apply below_drew1|refine below_set ?_ GE249.out)|exact HB.out)) hb)
   clear BK249
   clear HB
   have BK249:=n0_
   have HB:=n1_
   clear n0_ n1_
   (try clear hb)
   refine hK.out _ _ ⟨(blk_cell BK249.out 0).trans rfl,(blk_cell BK249.out 1).trans rfl,(blk_cell BK249.out 2).trans rfl,(blk_cell BK249.out 3).trans rfl⟩ (fun hHeld => ?_)
   clear hK K
   refine norm_ (a':=?_) ?_ ?_
   rotate_left
   ·show Act.put _ (some 17) _ = _
    simp only [Act.put,List.setIfInBounds_toArray,List.set_cons_zero,List.set_cons_succ,i64_w,i32_w]
    rfl
   refine pure_ (i:=7) (N:=some 18) (v:=?_) (a':=?_) #[true,true,true,true,true,true,true,true,false] rfl rfl (any_of HT_.out (by kernel_rfl)) (fun _ _ _ h => h) (Or.inl ⟨by rfl,?_⟩) ?_ ?_
   rotate_left
   ·intro w'
    go_simp
    with_reducible rfl
   rotate_left
   ·simp only [Act.put,List.setIfInBounds_toArray,List.set_cons_zero,List.set_cons_succ,i64_w,i32_w]
    rfl
   refine pure_ (i:=8) (N:=some 2) (v:=?_) (a':=?_) #[true,true,true,true,true,true,true,true,true] rfl rfl (any_of HT_.out (by kernel_rfl)) (fun _ _ _ h => h) (Or.inl ⟨by rfl,?_⟩) ?_ ?_
   rotate_left
   ·intro w'
    go_simp
    with_reducible rfl
   rotate_left
   ·simp only [Act.put,List.setIfInBounds_toArray,List.set_cons_zero,List.set_cons_succ,i64_w,i32_w]
    rfl
   refine done_ (done_of HT_.out (by kernel_rfl)) ?_
   try go_wp2
   go_ret
   exact ⟨by first|rfl|(simp [errW_none,errW_some] <;> rfl)|(simp [*,errW_none,errW_some] <;> rfl),by repeat (first|(with_reducible first|exact HB.out|apply below_alloc|apply pw_below_drewN|apply below_drew1|refine below_set ?_ GE249.out)|exact HB.out)⟩
  ·rw [if_neg c10] at H
   have c10b0 : (a0_0 == 4) = false:=beq_eq_false_iff_ne.mpr c10
   have c10b1 : (a0_0 != 4) = true:=bne_iff_ne.mpr c10
   obtain rfl:=Option.some.inj H
   go_enter Tryd.func13,Tryd.ntmps13
   go_wp2_with (first|((with_reducible refine gate_dst (N:=1) rfl ?_);refine box_event ?hg (N:=1) ?hd (cs:=#[.int .i64 a0_0,.string a0_1,.int .i64 a0_2,.slice A0_3 l0_3.length c0_3]) (t:=29) ?hr ?_;(case hd => rfl);(case hg => rfl);(case hr => first|(go_simp;done)|(go_simp;rfl));intro gb249 hg w18 hbox hb;have n0_:=Aside0.mk (below_step (by repeat (first|(with_reducible first|exact HB.out|apply below_alloc|apply pw_below_drewN|apply below_drew1)|exact HB.out)) hb);have n1_:=Aside0.mk (hbox);have n2_:=Aside0.mk ((by rw [hg];exact (below_size (by repeat (first|(with_reducible first|exact HB.out|apply below_alloc|apply pw_below_drewN|apply below_drew1)|exact HB.out))) : w.heap.size ≤ gb249));have n3_:=Aside0.mk ((by rw [hg];exact (below_size (by repeat (first|(with_reducible first|exact HB.out|apply below_alloc|apply pw_below_drewN|apply below_drew1)|exact HB.out))) : w.heap.size ≤ gb249));clear HB;have HB:=n0_;have BK249:=n1_;have GW249:=n2_;have GE249:=n3_;clear n0_ n1_ n2_ n3_;clear hb hbox hg;have hcz19_0 : w18.cell? ⟨gb249,0,none⟩ = some (.int .i64 a0_0):=(blk_cell BK249.out 0).trans rfl;have hcz19_1 : w18.cell? ⟨gb249,1,none⟩ = some (.string a0_1):=(blk_cell BK249.out 1).trans rfl;have hcz19_2 : w18.cell? ⟨gb249,2,none⟩ = some (.int .i64 a0_2):=(blk_cell BK249.out 2).trans rfl;have hcz19_3 : w18.cell? ⟨gb249,3,none⟩ = some (.slice A0_3 l0_3.length c0_3):=(blk_cell BK249.out 3).trans rfl;have hfz19_0:=blk_frozen BK249.out 0;have hfz19_1:=blk_frozen BK249.out 1;have hfz19_2:=blk_frozen BK249.out 2;have hfz19_3:=blk_frozen BK249.out 3))
   go_ret
   exact ⟨by first|rfl|(simp [errW_none,errW_some] <;> rfl)|(simp [*,errW_none,errW_some] <;> rfl),by repeat (first|(with_reducible first|exact HB.out|apply below_alloc|apply pw_below_drewN|apply below_drew1|refine below_set ?_ GE249.out)|exact HB.out)⟩

/-! ### slices_Index_string_string: function 84 -/
def slices_Index_string_string.l0 : Nat → List ByteArray → ByteArray → Int → Int → Option (Int)
 | 0,_,_,_,_ => none
 | k + 1,x0,x1,x7,x8 => if x8 < x7 then (if 0 ≤ x8 then (if x8 < (x0.length : Int) then (if x1.toList = (rdOf ByteArray.empty x0 x8).toList then (some x8) else (slices_Index_string_string.l0 k x0 x1 x7 (wrap64 (x8 + 1)))) else (none)) else (none)) else (some (-1))
def slices_Index_string_string.f (k : Nat) (l0 : List ByteArray) (a1 : ByteArray) : Option (Int):=slices_Index_string_string.l0 k l0 a1 (l0.length : Int) 0
theorem slices_Index_string_string.mono_l : ∀ k,(∀ y0 y1 y2 y3,LeO (slices_Index_string_string.l0 k y0 y1 y2 y3) (slices_Index_string_string.l0 (k + 1) y0 y1 y2 y3))
 | 0 => fun _ _ _ _ r h => by simp [slices_Index_string_string.l0] at h
 | k + 1 => by
  have ih0:=slices_Index_string_string.mono_l k
  ·intro y0 y1 y2 y3
   unfold slices_Index_string_string.l0
   repeat' first
   | (with_reducible exact ih0 _ _ _ _)
   | (with_reducible exact LeO.refl _)
   | (with_reducible exact LeO.none _)
   | (with_reducible refine LeO.ite ?_ ?_)
   | (with_reducible refine LeO.bind ?_ (fun _ => ?_))
   | exact ih0 _ _ _ _
   | exact LeO.none _
   | refine LeO.ite ?_ ?_
   | refine LeO.bind ?_ (fun _ => ?_)
theorem slices_Index_string_string.mono : ∀ a0 a1 k,LeO (slices_Index_string_string.f k a0 a1) (slices_Index_string_string.f (k + 1) a0 a1):=by
 intro a0 a1 k
 have ih0:=slices_Index_string_string.mono_l k
 unfold slices_Index_string_string.f
 repeat' first
   | (with_reducible exact ih0 _ _ _ _)
   | (with_reducible exact LeO.refl _)
   | (with_reducible exact LeO.none _)
   | (with_reducible refine LeO.ite ?_ ?_)
   | (with_reducible refine LeO.bind ?_ (fun _ => ?_))
   | exact ih0 _ _ _ _
   | exact LeO.none _
   | refine LeO.ite ?_ ?_
   | refine LeO.bind ?_ (fun _ => ?_)
set_option maxHeartbeats 8000000 in
set_option maxRecDepth 100000 in
theorem slices_Index_string_string.calls (k : Nat) (A0 : Option Addr) (c0 : Nat) (l0 : List ByteArray) (a1 : ByteArray) (r : Int) (w : World) (hr0 : Kd.C Kd.string w A0 l0.length l0) (hc0 : l0.length ≤ c0) (h : slices_Index_string_string.f k l0 a1 = some r) :
  Calls Tryd.prog 84 #[.slice A0 l0.length c0,.string a1] w fun e w' => e = .returned (.int .i64 r) ∧ Drawn0 w w':=by
 have HR0:=Aside0.mk hr0
 have HC0:=Aside0.mk hc0
 clear hr0 hc0
 have H : (slices_Index_string_string.l0 k l0 a1 (l0.length : Int) 0) = some r:=h
 clear h
 have H':=Aside0.mk H
 clear H
 go_enter Tryd.func84,Tryd.ntmps84
 go_wp2
 go_loopg [8] k (fun kq v8 w' => ∃ (x8_1 : Int),v8 = .int .i64 x8_1 ∧ Aside0 (slices_Index_string_string.l0 kq l0 a1 (l0.length : Int) x8_1 = some r) ∧ Aside0 (kq ≤ k) ∧ Drawn0 w w')
 case atStart => exact ⟨(0),(by first|rfl|(simp;done)|(simp [*];done)),H',⟨Nat.le_refl _⟩,by repeat (first|exact Drawn0.refl _|apply Drawn0.step)⟩
 case round =>
  clear H'
  obtain ⟨x8_1,rfl,HA,HK1,⟨m1,rfl⟩⟩:=hrel
  cases gk with
  | zero => exact absurd HA.out (by simp [slices_Index_string_string.l0])
  | succ k1 =>
   have H:=HA.out
   clear HA
   simp only [slices_Index_string_string.l0] at H
   by_cases c3 : x8_1 < (l0.length : Int)
   ·rw [if_pos c3] at H
    have c3b0 : decide (x8_1 < (l0.length : Int)) = true:=decide_eq_true c3
    clear c3
    by_cases c4 : 0 ≤ x8_1
    rotate_left
    ·rw [if_neg c4] at H
     exact absurd H (by simp)
    rw [if_pos c4] at H
    have c4b0 : decide (0 ≤ x8_1) = true:=decide_eq_true c4
    clear c4
    by_cases c5 : x8_1 < (l0.length : Int)
    rotate_left
    ·rw [if_neg c5] at H
     exact absurd H (by simp)
    rw [if_pos c5] at H
    have c5b0 : decide (x8_1 < (l0.length : Int)) = true:=decide_eq_true c5
    clear c5
    by_cases c6 : a1.toList = (rdOf ByteArray.empty l0 x8_1).toList
    ·rw [if_pos c6] at H
     have c6b0 : (a1.toList == (rdOf ByteArray.empty l0 x8_1).toList) = true:=beq_iff_eq.mpr c6
     have c6b1 : (a1.toList != (rdOf ByteArray.empty l0 x8_1).toList) = false:=bne_eq_false_iff_eq.mpr c6
     clear c6
     obtain rfl:=Option.some.inj H
     have p252 : 0 ≤ (x8_1 : Int):=of_decide_eq_true (by first|(with_reducible assumption)|assumption)
     have q252 : x8_1 < (l0.length : Int):=of_decide_eq_true (by first|(with_reducible assumption)|assumption)
     obtain ⟨ad252,e252,hx252_0⟩:=Kd.at_string HR0.out x8_1 p252 q252
     cases e252
     replace p252:=eq_true p252
     replace q252:=eq_true q252
     go_wp2
     go_ret
     exact ⟨by first|rfl|(simp;done)|(simp [*];done),by repeat (first|exact Drawn0.refl _|apply Drawn0.step)⟩
    ·rw [if_neg c6] at H
     have c6b0 : (a1.toList == (rdOf ByteArray.empty l0 x8_1).toList) = false:=beq_eq_false_iff_ne.mpr c6
     have c6b1 : (a1.toList != (rdOf ByteArray.empty l0 x8_1).toList) = true:=bne_iff_ne.mpr c6
     have H':=Aside0.mk H
     clear H
     have p252 : 0 ≤ (x8_1 : Int):=of_decide_eq_true (by first|(with_reducible assumption)|assumption)
     have q252 : x8_1 < (l0.length : Int):=of_decide_eq_true (by first|(with_reducible assumption)|assumption)
     obtain ⟨ad252,e252,hx252_0⟩:=Kd.at_string HR0.out x8_1 p252 q252
     cases e252
     replace p252:=eq_true p252
     replace q252:=eq_true q252
     go_wp2
     go_roundg k1
     case measure => have:=HK1.out;omega
     case rel => exact ⟨(wrap64 (x8_1 + 1)),(by first|rfl|(simp;done)|(simp [*];done)),H',⟨by have:=HK1.out;omega⟩,by repeat (first|exact Drawn0.refl _|apply Drawn0.step)⟩
   ·rw [if_neg c3] at H
    have c3b0 : decide (x8_1 < (l0.length : Int)) = false:=decide_eq_false c3
    clear c3
    obtain rfl:=Option.some.inj H
    go_wp2
    go_ret
    exact ⟨by first|rfl|(simp;done)|(simp [*];done),by repeat (first|exact Drawn0.refl _|apply Drawn0.step)⟩

/-! ### slices_Contains_string_string: function 51 -/
def slices_Contains_string_string.f (k : Nat) (l0 : List ByteArray) (a1 : ByteArray) : Option (Bool):=(slices_Index_string_string.f k l0 a1).bind fun t253 => (some (decide (t253 ≥ 0)))
theorem slices_Contains_string_string.mono : ∀ a0 a1 k,LeO (slices_Contains_string_string.f k a0 a1) (slices_Contains_string_string.f (k + 1) a0 a1):=by
 intro a0 a1 k
 unfold slices_Contains_string_string.f
 repeat' first
   | (with_reducible exact slices_Index_string_string.mono _ _ _)
   | (with_reducible exact LeO.refl _)
   | (with_reducible exact LeO.none _)
   | (with_reducible refine LeO.ite ?_ ?_)
   | (with_reducible refine LeO.bind ?_ (fun _ => ?_))
   | exact slices_Index_string_string.mono _ _ _
   | exact LeO.none _
   | refine LeO.ite ?_ ?_
   | refine LeO.bind ?_ (fun _ => ?_)
set_option maxHeartbeats 8000000 in
set_option maxRecDepth 100000 in
theorem slices_Contains_string_string.calls (k : Nat) (A0 : Option Addr) (c0 : Nat) (l0 : List ByteArray) (a1 : ByteArray) (r : Bool) (w : World) (hr0 : Kd.C Kd.string w A0 l0.length l0) (hc0 : l0.length ≤ c0) (h : slices_Contains_string_string.f k l0 a1 = some r) :
  Calls Tryd.prog 51 #[.slice A0 l0.length c0,.string a1] w fun e w' => e = .returned (.bool r) ∧ Drawn0 w w':=by
 have HR0:=Aside0.mk hr0
 have HC0:=Aside0.mk hc0
 clear hr0 hc0
 have H : ((slices_Index_string_string.f k l0 a1).bind fun t253 => (some (decide (t253 ≥ 0)))) = some r:=h
 clear h
 replace H:=Option.bind_eq_some_iff.mp H
 obtain ⟨t253,A30,H⟩:=H
 replace H : (some (decide (t253 ≥ 0))) = some r:=H
 have A3:=Aside0.mk A30
 clear A30
 obtain rfl:=Option.some.inj H
 go_enter Tryd.func51,Tryd.ntmps51
 go_wp2_with (first|((with_reducible refine gate_callee (f:=84) rfl ?_);refine goesL_ (some 7) rfl rfl Tryd.func84 (by kernel_rfl) rfl #[.slice A0 l0.length c0,.string a1] rfl (by (try simp only [List.map_toArray,List.map_cons,List.map_nil]);first|done|rfl|(simp only [List.length_drop,List.length_take];rfl)) ?_;(with_reducible refine (slices_Index_string_string.calls k _ _ l0 a1 t253 _ ?side1 ?side2 A3.out).mono ?_);(case side1 => repeat (first|exact HR0.out|(with_reducible refine Kd.C_alloc ?_ _)|(with_reducible refine Kd.C_drewN ?_ _)|(with_reducible refine Kd.C_drew ?_)));(case side2 => exact HC0.out);rintro e w' ⟨rfl,⟨nd,rfl⟩⟩;refine ⟨_,rfl,?_⟩))
 go_ret
 exact ⟨by first|rfl|(simp;done)|(simp [*];done),by repeat (first|exact Drawn0.refl _|apply Drawn0.step)⟩

/-! ### impl_Control: function 80 -/
def impl_Control.f (k : Nat) (a0 : ByteArray) : Option (Bool):=(slices_Contains_string_string.f k (([(⟨#[116,114,117,101,47,48]⟩ : ByteArray),(⟨#[102,97,105,108,47,48]⟩ : ByteArray),(⟨#[33,47,48]⟩ : ByteArray),(⟨#[44,47,50]⟩ : ByteArray),(⟨#[59,47,50]⟩ : ByteArray),(⟨#[45,62,47,50]⟩ : ByteArray),(⟨#[92,43,47,49]⟩ : ByteArray),(⟨#[99,97,108,108,47,49]⟩ : ByteArray),(⟨#[99,97,108,108,47,50]⟩ : ByteArray),(⟨#[99,97,108,108,47,51]⟩ : ByteArray),(⟨#[99,97,116,99,104,47,51]⟩ : ByteArray),(⟨#[116,104,114,111,119,47,49]⟩ : ByteArray),(⟨#[61,47,50]⟩ : ByteArray),(⟨#[92,61,47,50]⟩ : ByteArray),(⟨#[61,61,47,50]⟩ : ByteArray),(⟨#[105,115,47,50]⟩ : ByteArray),(⟨#[60,47,50]⟩ : ByteArray),(⟨#[61,58,61,47,50]⟩ : ByteArray),(⟨#[118,97,114,47,49]⟩ : ByteArray),(⟨#[97,116,111,109,47,49]⟩ : ByteArray),(⟨#[119,114,105,116,101,47,49]⟩ : ByteArray),(⟨#[97,115,115,101,114,116,122,47,49]⟩ : ByteArray),(⟨#[114,101,116,114,97,99,116,47,49]⟩ : ByteArray),(⟨#[58,45,47,50]⟩ : ByteArray),(⟨#[58,45,47,49]⟩ : ByteArray),(⟨#[45,45,62,47,50]⟩ : ByteArray)] : List ByteArray)) a0).bind fun t257 => (some t257)
theorem impl_Control.mono : ∀ a0 k,LeO (impl_Control.f k a0) (impl_Control.f (k + 1) a0):=by
 intro a0 k
 unfold impl_Control.f
 repeat' first
   | (with_reducible exact slices_Contains_string_string.mono _ _ _)
   | (with_reducible exact LeO.refl _)
   | (with_reducible exact LeO.none _)
   | (with_reducible refine LeO.ite ?_ ?_)
   | (with_reducible refine LeO.bind ?_ (fun _ => ?_))
   | exact slices_Contains_string_string.mono _ _ _
   | exact LeO.none _
   | refine LeO.ite ?_ ?_
   | refine LeO.bind ?_ (fun _ => ?_)
set_option maxHeartbeats 8000000 in
set_option maxRecDepth 100000 in
theorem impl_Control.calls (k : Nat) (a0 : ByteArray) (r : Bool) (w : World) (h : impl_Control.f k a0 = some r) :
  Calls Tryd.prog 80 #[.string a0] w fun e w' => e = .returned (.bool r) ∧ Below w.heap.size w w':=by
 have HB:=Aside0.mk (Below.refl w.heap.size w)
 have H : ((slices_Contains_string_string.f k (([(⟨#[116,114,117,101,47,48]⟩ : ByteArray),(⟨#[102,97,105,108,47,48]⟩ : ByteArray),(⟨#[33,47,48]⟩ : ByteArray),(⟨#[44,47,50]⟩ : ByteArray),(⟨#[59,47,50]⟩ : ByteArray),(⟨#[45,62,47,50]⟩ : ByteArray),(⟨#[92,43,47,49]⟩ : ByteArray),(⟨#[99,97,108,108,47,49]⟩ : ByteArray),(⟨#[99,97,108,108,47,50]⟩ : ByteArray),(⟨#[99,97,108,108,47,51]⟩ : ByteArray),(⟨#[99,97,116,99,104,47,51]⟩ : ByteArray),(⟨#[116,104,114,111,119,47,49]⟩ : ByteArray),(⟨#[61,47,50]⟩ : ByteArray),(⟨#[92,61,47,50]⟩ : ByteArray),(⟨#[61,61,47,50]⟩ : ByteArray),(⟨#[105,115,47,50]⟩ : ByteArray),(⟨#[60,47,50]⟩ : ByteArray),(⟨#[61,58,61,47,50]⟩ : ByteArray),(⟨#[118,97,114,47,49]⟩ : ByteArray),(⟨#[97,116,111,109,47,49]⟩ : ByteArray),(⟨#[119,114,105,116,101,47,49]⟩ : ByteArray),(⟨#[97,115,115,101,114,116,122,47,49]⟩ : ByteArray),(⟨#[114,101,116,114,97,99,116,47,49]⟩ : ByteArray),(⟨#[58,45,47,50]⟩ : ByteArray),(⟨#[58,45,47,49]⟩ : ByteArray),(⟨#[45,45,62,47,50]⟩ : ByteArray)] : List ByteArray)) a0).bind fun t257 => (some t257)) = some r:=h
 clear h
 obtain ⟨y254,hy254⟩ : ∃ y_ : List ByteArray,y_ = (([(⟨#[116,114,117,101,47,48]⟩ : ByteArray),(⟨#[102,97,105,108,47,48]⟩ : ByteArray),(⟨#[33,47,48]⟩ : ByteArray),(⟨#[44,47,50]⟩ : ByteArray),(⟨#[59,47,50]⟩ : ByteArray),(⟨#[45,62,47,50]⟩ : ByteArray),(⟨#[92,43,47,49]⟩ : ByteArray),(⟨#[99,97,108,108,47,49]⟩ : ByteArray),(⟨#[99,97,108,108,47,50]⟩ : ByteArray),(⟨#[99,97,108,108,47,51]⟩ : ByteArray),(⟨#[99,97,116,99,104,47,51]⟩ : ByteArray),(⟨#[116,104,114,111,119,47,49]⟩ : ByteArray),(⟨#[61,47,50]⟩ : ByteArray),(⟨#[92,61,47,50]⟩ : ByteArray),(⟨#[61,61,47,50]⟩ : ByteArray),(⟨#[105,115,47,50]⟩ : ByteArray),(⟨#[60,47,50]⟩ : ByteArray),(⟨#[61,58,61,47,50]⟩ : ByteArray),(⟨#[118,97,114,47,49]⟩ : ByteArray),(⟨#[97,116,111,109,47,49]⟩ : ByteArray),(⟨#[119,114,105,116,101,47,49]⟩ : ByteArray),(⟨#[97,115,115,101,114,116,122,47,49]⟩ : ByteArray),(⟨#[114,101,116,114,97,99,116,47,49]⟩ : ByteArray),(⟨#[58,45,47,50]⟩ : ByteArray),(⟨#[58,45,47,49]⟩ : ByteArray),(⟨#[45,45,62,47,50]⟩ : ByteArray)] : List ByteArray)):=⟨_,rfl⟩
 replace H : ((slices_Contains_string_string.f k y254 a0).bind fun t257 => (some t257)) = some r:=by first|(rw [hy254];with_reducible exact H)|(have H2_:=(Option.bind_some _ _).symm.trans H;rw [hy254];with_reducible exact H2_)|(have H2_:=(Option.bind_some _ _).symm.trans H;with_reducible exact H2_)|with_reducible exact H|(rw [hy254];exact H)|exact H
 have Ny254:=Aside0.mk hy254
 clear hy254
 replace H:=Option.bind_eq_some_iff.mp H
 obtain ⟨t257,A20,H⟩:=H
 replace H : (some t257) = some r:=H
 have A2:=Aside0.mk A20
 clear A20
 obtain rfl:=Option.some.inj H
 go_enter Tryd.func80,Tryd.ntmps80
 go_wp2_with (first|((with_reducible refine gate_dst (N:=4) rfl ?_);refine Kd.R_lit Kd.string _ 9 ?hg (N:=4) ?hd (xs:=([(⟨#[116,114,117,101,47,48]⟩ : ByteArray),(⟨#[102,97,105,108,47,48]⟩ : ByteArray),(⟨#[33,47,48]⟩ : ByteArray),(⟨#[44,47,50]⟩ : ByteArray),(⟨#[59,47,50]⟩ : ByteArray),(⟨#[45,62,47,50]⟩ : ByteArray),(⟨#[92,43,47,49]⟩ : ByteArray),(⟨#[99,97,108,108,47,49]⟩ : ByteArray),(⟨#[99,97,108,108,47,50]⟩ : ByteArray),(⟨#[99,97,108,108,47,51]⟩ : ByteArray),(⟨#[99,97,116,99,104,47,51]⟩ : ByteArray),(⟨#[116,104,114,111,119,47,49]⟩ : ByteArray),(⟨#[61,47,50]⟩ : ByteArray),(⟨#[92,61,47,50]⟩ : ByteArray),(⟨#[61,61,47,50]⟩ : ByteArray),(⟨#[105,115,47,50]⟩ : ByteArray),(⟨#[60,47,50]⟩ : ByteArray),(⟨#[61,58,61,47,50]⟩ : ByteArray),(⟨#[118,97,114,47,49]⟩ : ByteArray),(⟨#[97,116,111,109,47,49]⟩ : ByteArray),(⟨#[119,114,105,116,101,47,49]⟩ : ByteArray),(⟨#[97,115,115,101,114,116,122,47,49]⟩ : ByteArray),(⟨#[114,101,116,114,97,99,116,47,49]⟩ : ByteArray),(⟨#[58,45,47,50]⟩ : ByteArray),(⟨#[58,45,47,49]⟩ : ByteArray),(⟨#[45,45,62,47,50]⟩ : ByteArray)] : List ByteArray)) (inner:=[.string (⟨#[116,114,117,101,47,48]⟩ : ByteArray),.string (⟨#[102,97,105,108,47,48]⟩ : ByteArray),.string (⟨#[33,47,48]⟩ : ByteArray),.string (⟨#[44,47,50]⟩ : ByteArray),.string (⟨#[59,47,50]⟩ : ByteArray),.string (⟨#[45,62,47,50]⟩ : ByteArray),.string (⟨#[92,43,47,49]⟩ : ByteArray),.string (⟨#[99,97,108,108,47,49]⟩ : ByteArray),.string (⟨#[99,97,108,108,47,50]⟩ : ByteArray),.string (⟨#[99,97,108,108,47,51]⟩ : ByteArray),.string (⟨#[99,97,116,99,104,47,51]⟩ : ByteArray),.string (⟨#[116,104,114,111,119,47,49]⟩ : ByteArray),.string (⟨#[61,47,50]⟩ : ByteArray),.string (⟨#[92,61,47,50]⟩ : ByteArray),.string (⟨#[61,61,47,50]⟩ : ByteArray),.string (⟨#[105,115,47,50]⟩ : ByteArray),.string (⟨#[60,47,50]⟩ : ByteArray),.string (⟨#[61,58,61,47,50]⟩ : ByteArray),.string (⟨#[118,97,114,47,49]⟩ : ByteArray),.string (⟨#[97,116,111,109,47,49]⟩ : ByteArray),.string (⟨#[119,114,105,116,101,47,49]⟩ : ByteArray),.string (⟨#[97,115,115,101,114,116,122,47,49]⟩ : ByteArray),.string (⟨#[114,101,116,114,97,99,116,47,49]⟩ : ByteArray),.string (⟨#[58,45,47,50]⟩ : ByteArray),.string (⟨#[58,45,47,49]⟩ : ByteArray),.string (⟨#[45,45,62,47,50]⟩ : ByteArray)]) (ok:=fun _ => True) (okp:=fun _ => True) ?hr ?hp (fun _ hk => hk) trivial (Below.refl _ _) (Nat.le_refl _) (by simp) ?_;(case hd => rfl);(case hg => rfl);(case hr => first|(go_simp;done)|(go_simp;rfl));(case hp => exact (Reps.one (show Kd.M Kd.string _ _ _ (⟨#[116,114,117,101,47,48]⟩ : ByteArray) [.string (⟨#[116,114,117,101,47,48]⟩ : ByteArray)] from rfl) (Reps.one (show Kd.M Kd.string _ _ _ (⟨#[102,97,105,108,47,48]⟩ : ByteArray) [.string (⟨#[102,97,105,108,47,48]⟩ : ByteArray)] from rfl) (Reps.one (show Kd.M Kd.string _ _ _ (⟨#[33,47,48]⟩ : ByteArray) [.string (⟨#[33,47,48]⟩ : ByteArray)] from rfl) (Reps.one (show Kd.M Kd.string _ _ _ (⟨#[44,47,50]⟩ : ByteArray) [.string (⟨#[44,47,50]⟩ : ByteArray)] from rfl) (Reps.one (show Kd.M Kd.string _ _ _ (⟨#[59,47,50]⟩ : ByteArray) [.string (⟨#[59,47,50]⟩ : ByteArray)] from rfl) (Reps.one (show Kd.M Kd.string _ _ _ (⟨#[45,62,47,50]⟩ : ByteArray) [.string (⟨#[45,62,47,50]⟩ : ByteArray)] from rfl) (Reps.one (show Kd.M Kd.string _ _ _ (⟨#[92,43,47,49]⟩ : ByteArray) [.string (⟨#[92,43,47,49]⟩ : ByteArray)] from rfl) (Reps.one (show Kd.M Kd.string _ _ _ (⟨#[99,97,108,108,47,49]⟩ : ByteArray) [.string (⟨#[99,97,108,108,47,49]⟩ : ByteArray)] from rfl) (Reps.one (show Kd.M Kd.string _ _ _ (⟨#[99,97,108,108,47,50]⟩ : ByteArray) [.string (⟨#[99,97,108,108,47,50]⟩ : ByteArray)] from rfl) (Reps.one (show Kd.M Kd.string _ _ _ (⟨#[99,97,108,108,47,51]⟩ : ByteArray) [.string (⟨#[99,97,108,108,47,51]⟩ : ByteArray)] from rfl) (Reps.one (show Kd.M Kd.string _ _ _ (⟨#[99,97,116,99,104,47,51]⟩ : ByteArray) [.string (⟨#[99,97,116,99,104,47,51]⟩ : ByteArray)] from rfl) (Reps.one (show Kd.M Kd.string _ _ _ (⟨#[116,104,114,111,119,47,49]⟩ : ByteArray) [.string (⟨#[116,104,114,111,119,47,49]⟩ : ByteArray)] from rfl) (Reps.one (show Kd.M Kd.string _ _ _ (⟨#[61,47,50]⟩ : ByteArray) [.string (⟨#[61,47,50]⟩ : ByteArray)] from rfl) (Reps.one (show Kd.M Kd.string _ _ _ (⟨#[92,61,47,50]⟩ : ByteArray) [.string (⟨#[92,61,47,50]⟩ : ByteArray)] from rfl) (Reps.one (show Kd.M Kd.string _ _ _ (⟨#[61,61,47,50]⟩ : ByteArray) [.string (⟨#[61,61,47,50]⟩ : ByteArray)] from rfl) (Reps.one (show Kd.M Kd.string _ _ _ (⟨#[105,115,47,50]⟩ : ByteArray) [.string (⟨#[105,115,47,50]⟩ : ByteArray)] from rfl) (Reps.one (show Kd.M Kd.string _ _ _ (⟨#[60,47,50]⟩ : ByteArray) [.string (⟨#[60,47,50]⟩ : ByteArray)] from rfl) (Reps.one (show Kd.M Kd.string _ _ _ (⟨#[61,58,61,47,50]⟩ : ByteArray) [.string (⟨#[61,58,61,47,50]⟩ : ByteArray)] from rfl) (Reps.one (show Kd.M Kd.string _ _ _ (⟨#[118,97,114,47,49]⟩ : ByteArray) [.string (⟨#[118,97,114,47,49]⟩ : ByteArray)] from rfl) (Reps.one (show Kd.M Kd.string _ _ _ (⟨#[97,116,111,109,47,49]⟩ : ByteArray) [.string (⟨#[97,116,111,109,47,49]⟩ : ByteArray)] from rfl) (Reps.one (show Kd.M Kd.string _ _ _ (⟨#[119,114,105,116,101,47,49]⟩ : ByteArray) [.string (⟨#[119,114,105,116,101,47,49]⟩ : ByteArray)] from rfl) (Reps.one (show Kd.M Kd.string _ _ _ (⟨#[97,115,115,101,114,116,122,47,49]⟩ : ByteArray) [.string (⟨#[97,115,115,101,114,116,122,47,49]⟩ : ByteArray)] from rfl) (Reps.one (show Kd.M Kd.string _ _ _ (⟨#[114,101,116,114,97,99,116,47,49]⟩ : ByteArray) [.string (⟨#[114,101,116,114,97,99,116,47,49]⟩ : ByteArray)] from rfl) (Reps.one (show Kd.M Kd.string _ _ _ (⟨#[58,45,47,50]⟩ : ByteArray) [.string (⟨#[58,45,47,50]⟩ : ByteArray)] from rfl) (Reps.one (show Kd.M Kd.string _ _ _ (⟨#[58,45,47,49]⟩ : ByteArray) [.string (⟨#[58,45,47,49]⟩ : ByteArray)] from rfl) (Reps.one (show Kd.M Kd.string _ _ _ (⟨#[45,45,62,47,50]⟩ : ByteArray) [.string (⟨#[45,45,62,47,50]⟩ : ByteArray)] from rfl) (Reps.none _ _))))))))))))))))))))))))))));intro v255 w3 ho4 hb hg_ hnew_;clear hg_ hnew_;(first|rw [← Ny254.out] at ho4|(simp only [Int.reduceToNat] at ho4;rw [← Ny254.out] at ho4));have n0_:=Aside0.mk (Kd.R_lower ho4 (below_size (by repeat (first|(with_reducible first|exact HB.out|apply below_alloc|apply pw_below_drewN|apply below_drew1)|exact HB.out))));have n1_:=Aside0.mk (below_step (by repeat (first|(with_reducible first|exact HB.out|apply below_alloc|apply pw_below_drewN|apply below_drew1)|exact HB.out)) hb);clear HB;have HO256:=n0_;have HB:=n1_;clear n0_ n1_;clear hb ho4;obtain ⟨Ao5,co5,eo5⟩:=Kd.R_slice HO256.out;subst eo5)|((with_reducible refine gate_callee (f:=51) rfl ?_);refine goesL_ (some 7) rfl rfl Tryd.func51 (by kernel_rfl) rfl #[.slice Ao5 y254.length co5,.string a0] rfl (by (try simp only [List.map_toArray,List.map_cons,List.map_nil]);first|done|rfl|(simp only [List.length_drop,List.length_take];rfl)) ?_;(with_reducible refine (slices_Contains_string_string.calls k _ _ y254 a0 t257 _ ?side1 ?side2 A2.out).mono ?_);(case side1 => repeat (first|exact (Kd.R_reads' HO256.out).2.2|(with_reducible refine Kd.C_alloc ?_ _)|(with_reducible refine Kd.C_drewN ?_ _)|(with_reducible refine Kd.C_drew ?_)));(case side2 => exact (Kd.R_reads' HO256.out).2.1);rintro e w' ⟨rfl,⟨nd,rfl⟩⟩;refine ⟨_,rfl,?_⟩))
 go_ret
 exact ⟨by first|rfl|(simp [errW_none,errW_some] <;> rfl)|(simp [*,errW_none,errW_some] <;> rfl),by repeat (first|(with_reducible first|exact HB.out|apply below_alloc|apply pw_below_drewN|apply below_drew1)|exact HB.out)⟩

/-! ### impl_headOk: function 57 -/
def impl_headOk.f (k : Nat) (a0_0 : Int) (a0_1 : ByteArray) (a0_2 : Int) (l0_3 : List (S29)) : Option (Bool):=(impl_PredOf.f k a0_0 a0_1 a0_2 l0_3).bind fun t259 => (if t259.toList = ([] : List UInt8) then (some false) else ((impl_PredOf.f k a0_0 a0_1 a0_2 l0_3).bind fun t260 => ((impl_Control.f k t260).bind fun t261 => (some (!t261)))))
theorem impl_headOk.mono : ∀ a0 a1 a2 a3 k,LeO (impl_headOk.f k a0 a1 a2 a3) (impl_headOk.f (k + 1) a0 a1 a2 a3):=by
 intro a0 a1 a2 a3 k
 unfold impl_headOk.f
 repeat' first
   | (with_reducible exact impl_Control.mono _ _)
   | (with_reducible exact impl_PredOf.mono _ _ _ _ _)
   | (with_reducible exact LeO.refl _)
   | (with_reducible exact LeO.none _)
   | (with_reducible refine LeO.ite ?_ ?_)
   | (with_reducible refine LeO.bind ?_ (fun _ => ?_))
   | exact impl_Control.mono _ _
   | exact impl_PredOf.mono _ _ _ _ _
   | exact LeO.none _
   | refine LeO.ite ?_ ?_
   | refine LeO.bind ?_ (fun _ => ?_)
set_option maxHeartbeats 8000000 in
set_option maxRecDepth 100000 in
theorem impl_headOk.calls (k : Nat) (a0_0 : Int) (a0_1 : ByteArray) (a0_2 : Int) (A0_3 : Option Addr) (c0_3 : Nat) (l0_3 : List (S29)) (r : Bool) (w : World) (hTAB : Lib.TabBelow Tryd.prog w.heap.size w "internal/strconv.uint64pow10" .u64 Lib.pow10Tab) (hr0_3 : Kd.C k29 w A0_3 l0_3.length l0_3) (hc0_3 : l0_3.length ≤ c0_3) (h : impl_headOk.f k a0_0 a0_1 a0_2 l0_3 = some r) :
  Calls Tryd.prog 57 #[.agg #[.int .i64 a0_0,.string a0_1,.int .i64 a0_2,.slice A0_3 l0_3.length c0_3]] w fun e w' => e = .returned (.bool r) ∧ Below w.heap.size w w':=by
 have hu29:=Tryd.underlying29
 have HR0_3:=Aside0.mk hr0_3
 have HC0_3:=Aside0.mk hc0_3
 clear hr0_3 hc0_3
 have HB:=Aside0.mk (Below.refl w.heap.size w)
 have HTAB:=Aside0.mk hTAB
 clear hTAB
 have H : ((impl_PredOf.f k a0_0 a0_1 a0_2 l0_3).bind fun t259 => (if t259.toList = ([] : List UInt8) then (some false) else ((impl_PredOf.f k a0_0 a0_1 a0_2 l0_3).bind fun t260 => ((impl_Control.f k t260).bind fun t261 => (some (!t261)))))) = some r:=h
 clear h
 replace H:=Option.bind_eq_some_iff.mp H
 obtain ⟨t259,A20,H⟩:=H
 replace H : (if t259.toList = ([] : List UInt8) then (some false) else ((impl_PredOf.f k a0_0 a0_1 a0_2 l0_3).bind fun t260 => ((impl_Control.f k t260).bind fun t261 => (some (!t261))))) = some r:=H
 have A2:=Aside0.mk A20
 clear A20
 by_cases c3 : t259.toList = ([] : List UInt8)
 ·rw [if_pos c3] at H
  have c3b0 : (t259.toList == ([] : List UInt8)) = true:=beq_iff_eq.mpr c3
  have c3b1 : (t259.toList != ([] : List UInt8)) = false:=bne_eq_false_iff_eq.mpr c3
  clear c3
  obtain rfl:=Option.some.inj H
  go_enter Tryd.func57,Tryd.ntmps57
  go_wp2_with (first|((with_reducible refine gate_dst (N:=1) rfl ?_);refine box_event ?hg (N:=1) ?hd (cs:=#[.int .i64 a0_0,.string a0_1,.int .i64 a0_2,.slice A0_3 l0_3.length c0_3]) (t:=29) ?hr ?_;(case hd => rfl);(case hg => rfl);(case hr => first|(go_simp;done)|(go_simp;rfl));intro gb258 hg w4 hbox hb;have n0_:=Aside0.mk (below_step (by repeat (first|(with_reducible first|exact HB.out|apply below_alloc|apply pw_below_drewN|apply below_drew1)|exact HB.out)) hb);have n1_:=Aside0.mk (hbox);have n2_:=Aside0.mk ((by rw [hg];exact (below_size (by repeat (first|(with_reducible first|exact HB.out|apply below_alloc|apply pw_below_drewN|apply below_drew1)|exact HB.out))) : w.heap.size ≤ gb258));have n3_:=Aside0.mk ((by rw [hg];exact (below_size (by repeat (first|(with_reducible first|exact HB.out|apply below_alloc|apply pw_below_drewN|apply below_drew1)|exact HB.out))) : w.heap.size ≤ gb258));clear HB;have HB:=n0_;have BK258:=n1_;have GW258:=n2_;have GE258:=n3_;clear n0_ n1_ n2_ n3_;clear hb hbox hg;have hcz5_0 : w4.cell? ⟨gb258,0,none⟩ = some (.int .i64 a0_0):=(blk_cell BK258.out 0).trans rfl;have hcz5_1 : w4.cell? ⟨gb258,1,none⟩ = some (.string a0_1):=(blk_cell BK258.out 1).trans rfl;have hcz5_2 : w4.cell? ⟨gb258,2,none⟩ = some (.int .i64 a0_2):=(blk_cell BK258.out 2).trans rfl;have hcz5_3 : w4.cell? ⟨gb258,3,none⟩ = some (.slice A0_3 l0_3.length c0_3):=(blk_cell BK258.out 3).trans rfl;have hfz5_0:=blk_frozen BK258.out 0;have hfz5_1:=blk_frozen BK258.out 1;have hfz5_2:=blk_frozen BK258.out 2;have hfz5_3:=blk_frozen BK258.out 3)|((with_reducible refine gate_callee (f:=13) rfl ?_);refine goesL_ (some 4) rfl rfl Tryd.func13 (by kernel_rfl) rfl #[.agg #[.int .i64 a0_0,.string a0_1,.int .i64 a0_2,.slice A0_3 l0_3.length c0_3]] rfl (by (try simp only [List.map_toArray,List.map_cons,List.map_nil]);first|done|rfl|(simp only [List.length_drop,List.length_take];rfl)) ?_;(with_reducible refine (impl_PredOf.calls k a0_0 a0_1 a0_2 _ _ l0_3 t259 _ (tab_at HTAB.out (by repeat (first|(with_reducible first|exact HB.out|apply below_alloc|apply pw_below_drewN|apply below_drew1|refine below_set ?_ GE258.out)|exact HB.out))) ?side1 ?side2 A2.out).mono ?_);(case side1 => repeat (first|exact (Kd.C_below HR0_3.out HB.out)|(with_reducible refine Kd.C_alloc ?_ _)|(with_reducible refine Kd.C_drewN ?_ _)|(with_reducible refine Kd.C_drew ?_)));(case side2 => exact HC0_3.out);rintro e w6 ⟨rfl,hb⟩;refine ⟨_,rfl,?_⟩;have n0_:=Aside0.mk (blk_below (g:=gb258) (o:=.cells #[.int .i64 a0_0,.string a0_1,.int .i64 a0_2,.slice A0_3 l0_3.length c0_3] 29 (0,0)) (by (with_reducible repeat (first|refine blk_drewN ?_ _|refine blk_drew ?_|refine blk_alloc ?_ _));exact BK258.out) hb);have n1_:=Aside0.mk (below_step (by repeat (first|(with_reducible first|exact HB.out|apply below_alloc|apply pw_below_drewN|apply below_drew1|refine below_set ?_ GE258.out)|exact HB.out)) hb);clear BK258;clear HB;have BK258:=n0_;have HB:=n1_;clear n0_ n1_;(try clear hb)))
  go_ret
  exact ⟨by first|rfl|(simp [errW_none,errW_some] <;> rfl)|(simp [*,errW_none,errW_some] <;> rfl),by repeat (first|(with_reducible first|exact HB.out|apply below_alloc|apply pw_below_drewN|apply below_drew1|refine below_set ?_ GE258.out)|exact HB.out)⟩
 ·rw [if_neg c3] at H
  have c3b0 : (t259.toList == ([] : List UInt8)) = false:=beq_eq_false_iff_ne.mpr c3
  have c3b1 : (t259.toList != ([] : List UInt8)) = true:=bne_iff_ne.mpr c3
  replace H:=Option.bind_eq_some_iff.mp H
  obtain ⟨t260,A70,H⟩:=H
  replace H : ((impl_Control.f k t260).bind fun t261 => (some (!t261))) = some r:=H
  have A7:=Aside0.mk A70
  clear A70
  replace H:=Option.bind_eq_some_iff.mp H
  obtain ⟨t261,A80,H⟩:=H
  replace H : (some (!t261)) = some r:=H
  have A8:=Aside0.mk A80
  clear A80
  obtain rfl:=Option.some.inj H
  go_enter Tryd.func57,Tryd.ntmps57
  go_wp2_with (first|((with_reducible refine gate_dst (N:=1) rfl ?_);refine box_event ?hg (N:=1) ?hd (cs:=#[.int .i64 a0_0,.string a0_1,.int .i64 a0_2,.slice A0_3 l0_3.length c0_3]) (t:=29) ?hr ?_;(case hd => rfl);(case hg => rfl);(case hr => first|(go_simp;done)|(go_simp;rfl));intro gb258 hg w9 hbox hb;have n0_:=Aside0.mk (below_step (by repeat (first|(with_reducible first|exact HB.out|apply below_alloc|apply pw_below_drewN|apply below_drew1)|exact HB.out)) hb);have n1_:=Aside0.mk (hbox);have n2_:=Aside0.mk ((by rw [hg];exact (below_size (by repeat (first|(with_reducible first|exact HB.out|apply below_alloc|apply pw_below_drewN|apply below_drew1)|exact HB.out))) : w.heap.size ≤ gb258));have n3_:=Aside0.mk ((by rw [hg];exact (below_size (by repeat (first|(with_reducible first|exact HB.out|apply below_alloc|apply pw_below_drewN|apply below_drew1)|exact HB.out))) : w.heap.size ≤ gb258));clear HB;have HB:=n0_;have BK258:=n1_;have GW258:=n2_;have GE258:=n3_;clear n0_ n1_ n2_ n3_;clear hb hbox hg;have hcz10_0 : w9.cell? ⟨gb258,0,none⟩ = some (.int .i64 a0_0):=(blk_cell BK258.out 0).trans rfl;have hcz10_1 : w9.cell? ⟨gb258,1,none⟩ = some (.string a0_1):=(blk_cell BK258.out 1).trans rfl;have hcz10_2 : w9.cell? ⟨gb258,2,none⟩ = some (.int .i64 a0_2):=(blk_cell BK258.out 2).trans rfl;have hcz10_3 : w9.cell? ⟨gb258,3,none⟩ = some (.slice A0_3 l0_3.length c0_3):=(blk_cell BK258.out 3).trans rfl;have hfz10_0:=blk_frozen BK258.out 0;have hfz10_1:=blk_frozen BK258.out 1;have hfz10_2:=blk_frozen BK258.out 2;have hfz10_3:=blk_frozen BK258.out 3)|((with_reducible refine gate_callee (f:=13) rfl ?_);refine goesL_ (some 4) rfl rfl Tryd.func13 (by kernel_rfl) rfl #[.agg #[.int .i64 a0_0,.string a0_1,.int .i64 a0_2,.slice A0_3 l0_3.length c0_3]] rfl (by (try simp only [List.map_toArray,List.map_cons,List.map_nil]);first|done|rfl|(simp only [List.length_drop,List.length_take];rfl)) ?_;(with_reducible refine (impl_PredOf.calls k a0_0 a0_1 a0_2 _ _ l0_3 t259 _ (tab_at HTAB.out (by repeat (first|(with_reducible first|exact HB.out|apply below_alloc|apply pw_below_drewN|apply below_drew1|refine below_set ?_ GE258.out)|exact HB.out))) ?side1 ?side2 A2.out).mono ?_);(case side1 => repeat (first|exact (Kd.C_below HR0_3.out HB.out)|(with_reducible refine Kd.C_alloc ?_ _)|(with_reducible refine Kd.C_drewN ?_ _)|(with_reducible refine Kd.C_drew ?_)));(case side2 => exact HC0_3.out);rintro e w11 ⟨rfl,hb⟩;refine ⟨_,rfl,?_⟩;have n0_:=Aside0.mk (blk_below (g:=gb258) (o:=.cells #[.int .i64 a0_0,.string a0_1,.int .i64 a0_2,.slice A0_3 l0_3.length c0_3] 29 (0,0)) (by (with_reducible repeat (first|refine blk_drewN ?_ _|refine blk_drew ?_|refine blk_alloc ?_ _));exact BK258.out) hb);have n1_:=Aside0.mk (below_step (by repeat (first|(with_reducible first|exact HB.out|apply below_alloc|apply pw_below_drewN|apply below_drew1|refine below_set ?_ GE258.out)|exact HB.out)) hb);clear BK258;clear HB;have BK258:=n0_;have HB:=n1_;clear n0_ n1_;(try clear hb);(try clear hb2);(try clear hk);(try clear hi);have hcz12_0 : w11.cell? ⟨gb258,0,none⟩ = some (.int .i64 a0_0):=(blk_cell BK258.out 0).trans rfl;have hcz12_1 : w11.cell? ⟨gb258,1,none⟩ = some (.string a0_1):=(blk_cell BK258.out 1).trans rfl;have hcz12_2 : w11.cell? ⟨gb258,2,none⟩ = some (.int .i64 a0_2):=(blk_cell BK258.out 2).trans rfl;have hcz12_3 : w11.cell? ⟨gb258,3,none⟩ = some (.slice A0_3 l0_3.length c0_3):=(blk_cell BK258.out 3).trans rfl;have hfz12_0:=blk_frozen BK258.out 0;have hfz12_1:=blk_frozen BK258.out 1;have hfz12_2:=blk_frozen BK258.out 2;have hfz12_3:=blk_frozen BK258.out 3)|(go_at_call 13;(with_reducible refine (impl_PredOf.calls k a0_0 a0_1 a0_2 _ _ l0_3 t260 _ (tab_at HTAB.out (by repeat (first|(with_reducible first|exact HB.out|apply below_alloc|apply pw_below_drewN|apply below_drew1|refine below_set ?_ GE258.out)|exact HB.out))) ?side1 ?side2 A7.out).mono ?_);(case side1 => repeat (first|exact (Kd.C_below HR0_3.out HB.out)|(with_reducible refine Kd.C_alloc ?_ _)|(with_reducible refine Kd.C_drewN ?_ _)|(with_reducible refine Kd.C_drew ?_)));(case side2 => exact HC0_3.out);rintro e w13 ⟨rfl,hb⟩;have n0_:=Aside0.mk (blk_below (g:=gb258) (o:=.cells #[.int .i64 a0_0,.string a0_1,.int .i64 a0_2,.slice A0_3 l0_3.length c0_3] 29 (0,0)) (by (with_reducible repeat (first|refine blk_drewN ?_ _|refine blk_drew ?_|refine blk_alloc ?_ _));exact BK258.out) hb);have n1_:=Aside0.mk (below_step (by repeat (first|(with_reducible first|exact HB.out|apply below_alloc|apply pw_below_drewN|apply below_drew1|refine below_set ?_ GE258.out)|exact HB.out)) hb);clear BK258;clear HB;have BK258:=n0_;have HB:=n1_;clear n0_ n1_;(try clear hb))|(go_at_call 80;(with_reducible refine (impl_Control.calls k t260 t261 _ A8.out).mono ?_);rintro e w14 ⟨rfl,hb⟩;have n0_:=Aside0.mk (blk_below (g:=gb258) (o:=.cells #[.int .i64 a0_0,.string a0_1,.int .i64 a0_2,.slice A0_3 l0_3.length c0_3] 29 (0,0)) (by (with_reducible repeat (first|refine blk_drewN ?_ _|refine blk_drew ?_|refine blk_alloc ?_ _));exact BK258.out) hb);have n1_:=Aside0.mk (below_step (by repeat (first|(with_reducible first|exact HB.out|apply below_alloc|apply pw_below_drewN|apply below_drew1|refine below_set ?_ GE258.out)|exact HB.out)) hb);clear BK258;clear HB;have BK258:=n0_;have HB:=n1_;clear n0_ n1_;(try clear hb)))
  go_ret
  exact ⟨by first|rfl|(simp [errW_none,errW_some] <;> rfl)|(simp [*,errW_none,errW_some] <;> rfl),by repeat (first|(with_reducible first|exact HB.out|apply below_alloc|apply pw_below_drewN|apply below_drew1|refine below_set ?_ GE258.out)|exact HB.out)⟩

/-! ### impl_DbOk: function 21 -/
def impl_DbOk.l0 : Nat → List (S48) → Int → Int → List (S48) → List ByteArray → Option (Bool)
 | 0,_,_,_,_,_ => none
 | k + 1,x6,x7,x8,x263000,x263001 => if x8 < x7 then (if 0 ≤ x8 then (if x8 < (x6.length : Int) then ((impl_TermOk.f k ((rd_T48 x6 x8).f0.f0) ((rd_T48 x6 x8).f0.f1) ((rd_T48 x6 x8).f0.f2) ((rd_T48 x6 x8).f0.f3)).bind fun t265 => (if t265 = true then ((impl_TermOk.f k ((rd_T48 x6 x8).f1.f0) ((rd_T48 x6 x8).f1.f1) ((rd_T48 x6 x8).f1.f2) ((rd_T48 x6 x8).f1.f3)).bind fun t266 => (if t266 = true then ((impl_headOk.f k ((rd_T48 x6 x8).f0.f0) ((rd_T48 x6 x8).f0.f1) ((rd_T48 x6 x8).f0.f2) ((rd_T48 x6 x8).f0.f3)).bind fun t267 => (if t267 = true then (impl_DbOk.l0 k x6 x7 (wrap64 (x8 + 1)) x263000 x263001) else (some false))) else (some false))) else (some false))) else (none)) else (none)) else (if (x263000.length : Int) ≤ 120 then (some (decide ((x263001.length : Int) ≤ 40))) else (some false))
def impl_DbOk.f (k : Nat) (l0_0 : List (S48)) (l0_1 : List ByteArray) : Option (Bool):=impl_DbOk.l0 k l0_0 (l0_0.length : Int) 0 l0_0 l0_1
theorem impl_DbOk.mono_l : ∀ k,(∀ y0 y1 y2 y3 y4,LeO (impl_DbOk.l0 k y0 y1 y2 y3 y4) (impl_DbOk.l0 (k + 1) y0 y1 y2 y3 y4))
 | 0 => fun _ _ _ _ _ r h => by simp [impl_DbOk.l0] at h
 | k + 1 => by
  have ih0:=impl_DbOk.mono_l k
  ·intro y0 y1 y2 y3 y4
   unfold impl_DbOk.l0
   repeat' first
   | (with_reducible exact ih0 _ _ _ _ _)
   | (with_reducible exact impl_TermOk.mono _ _ _ _ _)
   | (with_reducible exact impl_headOk.mono _ _ _ _ _)
   | (with_reducible exact LeO.refl _)
   | (with_reducible exact LeO.none _)
   | (with_reducible refine LeO.ite ?_ ?_)
   | (with_reducible refine LeO.bind ?_ (fun _ => ?_))
   | exact ih0 _ _ _ _ _
   | exact impl_TermOk.mono _ _ _ _ _
   | exact impl_headOk.mono _ _ _ _ _
   | exact LeO.none _
   | refine LeO.ite ?_ ?_
   | refine LeO.bind ?_ (fun _ => ?_)
theorem impl_DbOk.mono : ∀ a0 a1 k,LeO (impl_DbOk.f k a0 a1) (impl_DbOk.f (k + 1) a0 a1):=by
 intro a0 a1 k
 have ih0:=impl_DbOk.mono_l k
 unfold impl_DbOk.f
 repeat' first
   | (with_reducible exact ih0 _ _ _ _ _)
   | (with_reducible exact impl_TermOk.mono _ _ _ _ _)
   | (with_reducible exact impl_headOk.mono _ _ _ _ _)
   | (with_reducible exact LeO.refl _)
   | (with_reducible exact LeO.none _)
   | (with_reducible refine LeO.ite ?_ ?_)
   | (with_reducible refine LeO.bind ?_ (fun _ => ?_))
   | exact ih0 _ _ _ _ _
   | exact impl_TermOk.mono _ _ _ _ _
   | exact impl_headOk.mono _ _ _ _ _
   | exact LeO.none _
   | refine LeO.ite ?_ ?_
   | refine LeO.bind ?_ (fun _ => ?_)
set_option maxHeartbeats 8000000 in
set_option maxRecDepth 100000 in
theorem impl_DbOk.calls (k : Nat) (A0_0 : Option Addr) (c0_0 : Nat) (l0_0 : List (S48)) (A0_1 : Option Addr) (c0_1 : Nat) (l0_1 : List ByteArray) (r : Bool) (w : World) (hTAB : Lib.TabBelow Tryd.prog w.heap.size w "internal/strconv.uint64pow10" .u64 Lib.pow10Tab) (hr0_0 : Kd.C k48 w A0_0 l0_0.length l0_0) (hc0_0 : l0_0.length ≤ c0_0) (hr0_1 : Kd.C Kd.string w A0_1 l0_1.length l0_1) (hc0_1 : l0_1.length ≤ c0_1) (h : impl_DbOk.f k l0_0 l0_1 = some r) :
  Calls Tryd.prog 21 #[.agg #[.slice A0_0 l0_0.length c0_0,.slice A0_1 l0_1.length c0_1]] w fun e w' => e = .returned (.bool r) ∧ Below w.heap.size w w':=by
 have hu41:=Tryd.underlying41
 have hu48:=Tryd.underlying48
 have hu29:=Tryd.underlying29
 have HR0_0:=Aside0.mk hr0_0
 have HC0_0:=Aside0.mk hc0_0
 clear hr0_0 hc0_0
 have HR0_1:=Aside0.mk hr0_1
 have HC0_1:=Aside0.mk hc0_1
 clear hr0_1 hc0_1
 have HB:=Aside0.mk (Below.refl w.heap.size w)
 have HTAB:=Aside0.mk hTAB
 clear hTAB
 have H : (impl_DbOk.l0 k l0_0 (l0_0.length : Int) 0 l0_0 l0_1) = some r:=h
 clear h
 have H':=Aside0.mk H
 clear H
 go_enter Tryd.func21,Tryd.ntmps21
 go_wp2_with (first|((with_reducible refine gate_dst (N:=1) rfl ?_);(try (refine gate_guard (by rfl) ?_;dsimp only));refine box_event ?hg (N:=1) ?hd (cs:=#[.slice A0_0 l0_0.length c0_0,.slice A0_1 l0_1.length c0_1]) (t:=41) ?hr ?_;(case hd => rfl);(case hg => rfl);(case hr => first|(go_simp;done)|(go_simp;rfl));intro gb262 hg w2 hbox hb;have n0_:=Aside0.mk (below_step (by repeat (first|(with_reducible first|exact HB.out|apply below_alloc|apply pw_below_drewN|apply below_drew1)|exact HB.out)) hb);have n1_:=Aside0.mk (hbox);have n2_:=Aside0.mk ((by rw [hg];exact (below_size (by repeat (first|(with_reducible first|exact HB.out|apply below_alloc|apply pw_below_drewN|apply below_drew1)|exact HB.out))) : w.heap.size ≤ gb262));have n3_:=Aside0.mk ((by rw [hg];exact (below_size (by repeat (first|(with_reducible first|exact HB.out|apply below_alloc|apply pw_below_drewN|apply below_drew1)|exact HB.out))) : w.heap.size ≤ gb262));clear HB;have HB:=n0_;have BK262:=n1_;have GW262:=n2_;have GE262:=n3_;clear n0_ n1_ n2_ n3_;clear hb hbox hg;have hcz3_0 : w2.cell? ⟨gb262,0,none⟩ = some (.slice A0_0 l0_0.length c0_0):=(blk_cell BK262.out 0).trans rfl;have hcz3_1 : w2.cell? ⟨gb262,1,none⟩ = some (.slice A0_1 l0_1.length c0_1):=(blk_cell BK262.out 1).trans rfl;have hfz3_0:=blk_frozen BK262.out 0;have hfz3_1:=blk_frozen BK262.out 1))
 go_loopg [8] k (fun kq v8 w' => ∃ (x8_1 : Int),v8 = .int .i64 x8_1 ∧ Aside0 (impl_DbOk.l0 kq l0_0 (l0_0.length : Int) x8_1 l0_0 l0_1 = some r) ∧ Aside0 (kq ≤ k) ∧ Aside0 (w'.heap[gb262]? = some (.cells #[(.slice A0_0 l0_0.length c0_0),(.slice A0_1 l0_1.length c0_1)] 41 (0,0))) ∧ Aside0 (Below w.heap.size w w'))
 case atStart => exact ⟨(0),(by first|rfl|(simp;done)|(simp [*];done)),H',⟨Nat.le_refl _⟩,⟨by (with_reducible repeat (first|refine blk_drewN ?_ _|refine blk_drew ?_|refine blk_alloc ?_ _));exact BK262.out⟩,⟨by repeat (first|(with_reducible first|exact HB.out|apply below_alloc|apply pw_below_drewN|apply below_drew1|refine below_set ?_ GE262.out)|exact HB.out)⟩⟩
 case round =>
  clear H'
  try clear hcz3_0
  try clear hcz3_1
  try clear hfz3_0
  try clear hfz3_1
  try clear BK262
  obtain ⟨x8_1,rfl,HA,HK1,BK262,HB⟩:=hrel
  cases gk with
  | zero => exact absurd HA.out (by simp [impl_DbOk.l0])
  | succ k1 =>
   have H:=HA.out
   clear HA
   simp only [impl_DbOk.l0] at H
   by_cases c4 : x8_1 < (l0_0.length : Int)
   ·rw [if_pos c4] at H
    have c4b0 : decide (x8_1 < (l0_0.length : Int)) = true:=decide_eq_true c4
    clear c4
    by_cases c5 : 0 ≤ x8_1
    rotate_left
    ·rw [if_neg c5] at H
     exact absurd H (by simp)
    rw [if_pos c5] at H
    have c5b0 : decide (0 ≤ x8_1) = true:=decide_eq_true c5
    clear c5
    by_cases c6 : x8_1 < (l0_0.length : Int)
    rotate_left
    ·rw [if_neg c6] at H
     exact absurd H (by simp)
    rw [if_pos c6] at H
    have c6b0 : decide (x8_1 < (l0_0.length : Int)) = true:=decide_eq_true c6
    clear c6
    replace H:=Option.bind_eq_some_iff.mp H
    obtain ⟨t265,A70,H⟩:=H
    replace H : (if t265 = true then ((impl_TermOk.f k1 ((rd_T48 l0_0 x8_1).f1.f0) ((rd_T48 l0_0 x8_1).f1.f1) ((rd_T48 l0_0 x8_1).f1.f2) ((rd_T48 l0_0 x8_1).f1.f3)).bind fun t266 => (if t266 = true then ((impl_headOk.f k1 ((rd_T48 l0_0 x8_1).f0.f0) ((rd_T48 l0_0 x8_1).f0.f1) ((rd_T48 l0_0 x8_1).f0.f2) ((rd_T48 l0_0 x8_1).f0.f3)).bind fun t267 => (if t267 = true then (impl_DbOk.l0 k1 l0_0 (l0_0.length : Int) (wrap64 (x8_1 + 1)) l0_0 l0_1) else (some false))) else (some false))) else (some false)) = some r:=H
    have A7:=Aside0.mk A70
    clear A70
    by_cases c8 : t265 = true
    ·subst c8
     have H1 : ((impl_TermOk.f k1 ((rd_T48 l0_0 x8_1).f1.f0) ((rd_T48 l0_0 x8_1).f1.f1) ((rd_T48 l0_0 x8_1).f1.f2) ((rd_T48 l0_0 x8_1).f1.f3)).bind fun t266 => (if t266 = true then ((impl_headOk.f k1 ((rd_T48 l0_0 x8_1).f0.f0) ((rd_T48 l0_0 x8_1).f0.f1) ((rd_T48 l0_0 x8_1).f0.f2) ((rd_T48 l0_0 x8_1).f0.f3)).bind fun t267 => (if t267 = true then (impl_DbOk.l0 k1 l0_0 (l0_0.length : Int) (wrap64 (x8_1 + 1)) l0_0 l0_1) else (some false))) else (some false))) = some r:=by rw [if_pos rfl] at H;exact H
     clear H
     have H:=H1
     clear H1
     replace H:=Option.bind_eq_some_iff.mp H
     obtain ⟨t266,A90,H⟩:=H
     replace H : (if t266 = true then ((impl_headOk.f k1 ((rd_T48 l0_0 x8_1).f0.f0) ((rd_T48 l0_0 x8_1).f0.f1) ((rd_T48 l0_0 x8_1).f0.f2) ((rd_T48 l0_0 x8_1).f0.f3)).bind fun t267 => (if t267 = true then (impl_DbOk.l0 k1 l0_0 (l0_0.length : Int) (wrap64 (x8_1 + 1)) l0_0 l0_1) else (some false))) else (some false)) = some r:=H
     have A9:=Aside0.mk A90
     clear A90
     by_cases c10 : t266 = true
     ·subst c10
      have H1 : ((impl_headOk.f k1 ((rd_T48 l0_0 x8_1).f0.f0) ((rd_T48 l0_0 x8_1).f0.f1) ((rd_T48 l0_0 x8_1).f0.f2) ((rd_T48 l0_0 x8_1).f0.f3)).bind fun t267 => (if t267 = true then (impl_DbOk.l0 k1 l0_0 (l0_0.length : Int) (wrap64 (x8_1 + 1)) l0_0 l0_1) else (some false))) = some r:=by rw [if_pos rfl] at H;exact H
      clear H
      have H:=H1
      clear H1
      replace H:=Option.bind_eq_some_iff.mp H
      obtain ⟨t267,A110,H⟩:=H
      replace H : (if t267 = true then (impl_DbOk.l0 k1 l0_0 (l0_0.length : Int) (wrap64 (x8_1 + 1)) l0_0 l0_1) else (some false)) = some r:=H
      have A11:=Aside0.mk A110
      clear A110
      by_cases c12 : t267 = true
      ·subst c12
       have H1 : (impl_DbOk.l0 k1 l0_0 (l0_0.length : Int) (wrap64 (x8_1 + 1)) l0_0 l0_1) = some r:=by rw [if_pos rfl] at H;exact H
       clear H
       have H:=H1
       clear H1
       have H':=Aside0.mk H
       clear H
       have p263 : 0 ≤ (x8_1 : Int):=of_decide_eq_true (by first|(with_reducible assumption)|assumption)
       have q263 : x8_1 < (l0_0.length : Int):=of_decide_eq_true (by first|(with_reducible assumption)|assumption)
       obtain ⟨ad263,A263_3,c263_3,A263_7,c263_7,e263,hx263_0,hx263_1,hx263_2,hx263_3,hx263_4,hx263_5,hx263_6,hx263_7,hx263_8,hl263_3,hi263_3,hl263_7,hi263_7⟩:=at_T48 HR0_0.out x8_1 p263 q263
       cases e263
       replace hx263_0:=(HB.out.cell (World.block_lt_of_cell? w _ hx263_0)).trans hx263_0
       replace hx263_1:=(HB.out.cell (World.block_lt_of_cell? w _ hx263_1)).trans hx263_1
       replace hx263_2:=(HB.out.cell (World.block_lt_of_cell? w _ hx263_2)).trans hx263_2
       replace hx263_3:=(HB.out.cell (World.block_lt_of_cell? w _ hx263_3)).trans hx263_3
       replace hx263_4:=(HB.out.cell (World.block_lt_of_cell? w _ hx263_4)).trans hx263_4
       replace hx263_5:=(HB.out.cell (World.block_lt_of_cell? w _ hx263_5)).trans hx263_5
       replace hx263_6:=(HB.out.cell (World.block_lt_of_cell? w _ hx263_6)).trans hx263_6
       replace hx263_7:=(HB.out.cell (World.block_lt_of_cell? w _ hx263_7)).trans hx263_7
       replace hx263_8:=(HB.out.cell (World.block_lt_of_cell? w _ hx263_8)).trans hx263_8
       have HR263_3:=Aside0.mk hi263_3
       have HC263_3:=Aside0.mk hl263_3
       clear hi263_3 hl263_3
       have HR263_7:=Aside0.mk hi263_7
       have HC263_7:=Aside0.mk hl263_7
       clear hi263_7 hl263_7
       replace p263:=eq_true p263
       replace q263:=eq_true q263
       go_wp2_with (first|((with_reducible refine gate_dst (N:=4) rfl ?_);(try (refine gate_guard (by rfl) ?_;dsimp only));refine box_event ?hg (N:=4) ?hd (cs:=#[.int .i64 0,.string (⟨#[]⟩ : ByteArray),.int .i64 0,.slice none 0 0,.int .i64 0,.string (⟨#[]⟩ : ByteArray),.int .i64 0,.slice none 0 0,.string (⟨#[]⟩ : ByteArray)]) (t:=48) ?hr ?_;(case hd => rfl);(case hg => rfl);(case hr => first|(go_simp;done)|(go_simp;rfl));intro gb264 hg w13 hbox hb;have n0_:=Aside0.mk (blk_below (g:=gb262) (o:=.cells #[.slice (some ad263) l0_0.length c0_0,.slice A0_1 l0_1.length c0_1] 41 (0,0)) (by (with_reducible repeat (first|refine blk_drewN ?_ _|refine blk_drew ?_|refine blk_alloc ?_ _));exact BK262.out) hb);have n1_:=Aside0.mk (below_step (by repeat (first|(with_reducible first|exact HB.out|apply below_alloc|apply pw_below_drewN|apply below_drew1|refine below_set ?_ GE262.out)|exact HB.out)) hb);have n2_:=Aside0.mk (hbox);have n3_:=Aside0.mk ((by rw [hg];exact (below_size (by repeat (first|(with_reducible first|exact HB.out|apply below_alloc|apply pw_below_drewN|apply below_drew1|refine below_set ?_ GE262.out)|exact HB.out))) : w.heap.size ≤ gb264));have n4_:=Aside0.mk ((by rw [hg];exact (below_size (by repeat (first|(with_reducible first|exact HB.out|apply below_alloc|apply pw_below_drewN|apply below_drew1|refine below_set ?_ GE262.out)|exact HB.out))) : w.heap.size ≤ gb264));have n5_:=Aside0.mk ((by rw [hg];exact Nat.ne_of_lt (blk_lt (g:=gb262) (o:=.cells #[.slice (some ad263) l0_0.length c0_0,.slice A0_1 l0_1.length c0_1] 41 (0,0)) (by (with_reducible repeat (first|refine blk_drewN ?_ _|refine blk_drew ?_|refine blk_alloc ?_ _));exact BK262.out)) : gb262 ≠ gb264));have n6_:=Aside0.mk ((by rw [hg];exact Nat.ne_of_gt (blk_lt (g:=gb262) (o:=.cells #[.slice (some ad263) l0_0.length c0_0,.slice A0_1 l0_1.length c0_1] 41 (0,0)) (by (with_reducible repeat (first|refine blk_drewN ?_ _|refine blk_drew ?_|refine blk_alloc ?_ _));exact BK262.out)) : gb264 ≠ gb262));clear BK262;clear HB;have BK262:=n0_;have HB:=n1_;have BK264:=n2_;have GW264:=n3_;have GE264:=n4_;have NB262_264:=n5_;have NB264_262:=n6_;clear n0_ n1_ n2_ n3_ n4_ n5_ n6_;clear hb hbox hg;have hnb14:=NB264_262.out;have hnc14:=NB262_264.out;have hcz15_0 : w13.cell? ⟨gb264,0,none⟩ = some (.int .i64 0):=(blk_cell BK264.out 0).trans rfl;have hcz15_1 : w13.cell? ⟨gb264,1,none⟩ = some (.string (⟨#[]⟩ : ByteArray)):=(blk_cell BK264.out 1).trans rfl;have hcz15_2 : w13.cell? ⟨gb264,2,none⟩ = some (.int .i64 0):=(blk_cell BK264.out 2).trans rfl;have hcz15_3 : w13.cell? ⟨gb264,3,none⟩ = some (.slice none 0 0):=(blk_cell BK264.out 3).trans rfl;have hcz15_4 : w13.cell? ⟨gb264,4,none⟩ = some (.int .i64 0):=(blk_cell BK264.out 4).trans rfl;have hcz15_5 : w13.cell? ⟨gb264,5,none⟩ = some (.string (⟨#[]⟩ : ByteArray)):=(blk_cell BK264.out 5).trans rfl;have hcz15_6 : w13.cell? ⟨gb264,6,none⟩ = some (.int .i64 0):=(blk_cell BK264.out 6).trans rfl;have hcz15_7 : w13.cell? ⟨gb264,7,none⟩ = some (.slice none 0 0):=(blk_cell BK264.out 7).trans rfl;have hcz15_8 : w13.cell? ⟨gb264,8,none⟩ = some (.string (⟨#[]⟩ : ByteArray)):=(blk_cell BK264.out 8).trans rfl;have hfz15_0:=blk_frozen BK264.out 0;have hfz15_1:=blk_frozen BK264.out 1;have hfz15_2:=blk_frozen BK264.out 2;have hfz15_3:=blk_frozen BK264.out 3;have hfz15_4:=blk_frozen BK264.out 4;have hfz15_5:=blk_frozen BK264.out 5;have hfz15_6:=blk_frozen BK264.out 6;have hfz15_7:=blk_frozen BK264.out 7;have hfz15_8:=blk_frozen BK264.out 8)|((with_reducible refine gate_callee (f:=56) rfl ?_);refine goesL_ (some 14) rfl rfl Tryd.func56 (by kernel_rfl) rfl #[.agg #[.int .i64 ((rd_T48 l0_0 x8_1).f0.f0),.string ((rd_T48 l0_0 x8_1).f0.f1),.int .i64 ((rd_T48 l0_0 x8_1).f0.f2),.slice A263_3 ((rd_T48 l0_0 x8_1).f0.f3).length c263_3]] rfl (by (try simp only [List.map_toArray,List.map_cons,List.map_nil]);first|done|rfl|(simp only [List.length_drop,List.length_take];rfl)) ?_;(with_reducible refine (impl_TermOk.calls k1 ((rd_T48 l0_0 x8_1).f0.f0) ((rd_T48 l0_0 x8_1).f0.f1) ((rd_T48 l0_0 x8_1).f0.f2) _ _ ((rd_T48 l0_0 x8_1).f0.f3) true _ ?side1 ?side2 A7.out).mono ?_);(case side1 => exact Kd.C_below HR263_3.out (by repeat (first|(with_reducible first|exact HB.out|apply below_alloc|apply pw_below_drewN|apply below_drew1|refine below_set ?_ GE262.out|refine below_set ?_ GE264.out)|exact HB.out)));(case side2 => exact HC263_3.out);rintro e w16 ⟨rfl,hb⟩;refine ⟨_,rfl,?_⟩;have n0_:=Aside0.mk (blk_below (g:=gb262) (o:=.cells #[.slice (some ad263) l0_0.length c0_0,.slice A0_1 l0_1.length c0_1] 41 (0,0)) (by (with_reducible repeat (first|refine blk_drewN ?_ _|refine blk_drew ?_|refine blk_alloc ?_ _));refine blk_far ?_ NB262_264.out _;(with_reducible repeat (first|refine blk_drewN ?_ _|refine blk_drew ?_|refine blk_alloc ?_ _));refine blk_far ?_ NB262_264.out _;(with_reducible repeat (first|refine blk_drewN ?_ _|refine blk_drew ?_|refine blk_alloc ?_ _));refine blk_far ?_ NB262_264.out _;(with_reducible repeat (first|refine blk_drewN ?_ _|refine blk_drew ?_|refine blk_alloc ?_ _));refine blk_far ?_ NB262_264.out _;(with_reducible repeat (first|refine blk_drewN ?_ _|refine blk_drew ?_|refine blk_alloc ?_ _));refine blk_far ?_ NB262_264.out _;(with_reducible repeat (first|refine blk_drewN ?_ _|refine blk_drew ?_|refine blk_alloc ?_ _));refine blk_far ?_ NB262_264.out _;(with_reducible repeat (first|refine blk_drewN ?_ _|refine blk_drew ?_|refine blk_alloc ?_ _));refine blk_far ?_ NB262_264.out _;(with_reducible repeat (first|refine blk_drewN ?_ _|refine blk_drew ?_|refine blk_alloc ?_ _));refine blk_far ?_ NB262_264.out _;(with_reducible repeat (first|refine blk_drewN ?_ _|refine blk_drew ?_|refine blk_alloc ?_ _));refine blk_far ?_ NB262_264.out _;(with_reducible repeat (first|refine blk_drewN ?_ _|refine blk_drew ?_|refine blk_alloc ?_ _));exact BK262.out) hb);have n1_:=Aside0.mk (blk_below (g:=gb264) (o:=.cells #[.int .i64 ((rd_T48 l0_0 x8_1).f0.f0),.string ((rd_T48 l0_0 x8_1).f0.f1),.int .i64 ((rd_T48 l0_0 x8_1).f0.f2),.slice A263_3 ((rd_T48 l0_0 x8_1).f0.f3).length c263_3,.int .i64 ((rd_T48 l0_0 x8_1).f1.f0),.string ((rd_T48 l0_0 x8_1).f1.f1),.int .i64 ((rd_T48 l0_0 x8_1).f1.f2),.slice A263_7 ((rd_T48 l0_0 x8_1).f1.f3).length c263_7,.string ((rd_T48 l0_0 x8_1).f2)] 48 (0,0)) (by (with_reducible repeat (first|refine blk_drewN ?_ _|refine blk_drew ?_|refine blk_alloc ?_ _));refine blk_put (cs:=#[.int .i64 ((rd_T48 l0_0 x8_1).f0.f0),.string ((rd_T48 l0_0 x8_1).f0.f1),.int .i64 ((rd_T48 l0_0 x8_1).f0.f2),.slice A263_3 ((rd_T48 l0_0 x8_1).f0.f3).length c263_3,.int .i64 ((rd_T48 l0_0 x8_1).f1.f0),.string ((rd_T48 l0_0 x8_1).f1.f1),.int .i64 ((rd_T48 l0_0 x8_1).f1.f2),.slice A263_7 ((rd_T48 l0_0 x8_1).f1.f3).length c263_7,.string (⟨#[]⟩ : ByteArray)]) ?_ 8 _ rfl;(with_reducible repeat (first|refine blk_drewN ?_ _|refine blk_drew ?_|refine blk_alloc ?_ _));refine blk_put (cs:=#[.int .i64 ((rd_T48 l0_0 x8_1).f0.f0),.string ((rd_T48 l0_0 x8_1).f0.f1),.int .i64 ((rd_T48 l0_0 x8_1).f0.f2),.slice A263_3 ((rd_T48 l0_0 x8_1).f0.f3).length c263_3,.int .i64 ((rd_T48 l0_0 x8_1).f1.f0),.string ((rd_T48 l0_0 x8_1).f1.f1),.int .i64 ((rd_T48 l0_0 x8_1).f1.f2),.slice none 0 0,.string (⟨#[]⟩ : ByteArray)]) ?_ 7 _ rfl;(with_reducible repeat (first|refine blk_drewN ?_ _|refine blk_drew ?_|refine blk_alloc ?_ _));refine blk_put (cs:=#[.int .i64 ((rd_T48 l0_0 x8_1).f0.f0),.string ((rd_T48 l0_0 x8_1).f0.f1),.int .i64 ((rd_T48 l0_0 x8_1).f0.f2),.slice A263_3 ((rd_T48 l0_0 x8_1).f0.f3).length c263_3,.int .i64 ((rd_T48 l0_0 x8_1).f1.f0),.string ((rd_T48 l0_0 x8_1).f1.f1),.int .i64 0,.slice none 0 0,.string (⟨#[]⟩ : ByteArray)]) ?_ 6 _ rfl;(with_reducible repeat (first|refine blk_drewN ?_ _|refine blk_drew ?_|refine blk_alloc ?_ _));refine blk_put (cs:=#[.int .i64 ((rd_T48 l0_0 x8_1).f0.f0),.string ((rd_T48 l0_0 x8_1).f0.f1),.int .i64 ((rd_T48 l0_0 x8_1).f0.f2),.slice A263_3 ((rd_T48 l0_0 x8_1).f0.f3).length c263_3,.int .i64 ((rd_T48 l0_0 x8_1).f1.f0),.string (⟨#[]⟩ : ByteArray),.int .i64 0,.slice none 0 0,.string (⟨#[]⟩ : ByteArray)]) ?_ 5 _ rfl;(with_reducible repeat (first|refine blk_drewN ?_ _|refine blk_drew ?_|refine blk_alloc ?_ _));refine blk_put (cs:=#[.int .i64 ((rd_T48 l0_0 x8_1).f0.f0),.string ((rd_T48 l0_0 x8_1).f0.f1),.int .i64 ((rd_T48 l0_0 x8_1).f0.f2),.slice A263_3 ((rd_T48 l0_0 x8_1).f0.f3).length c263_3,.int .i64 0,.string (⟨#[]⟩ : ByteArray),.int .i64 0,.slice none 0 0,.string (⟨#[]⟩ : ByteArray)]) ?_ 4 _ rfl;(with_reducible repeat (first|refine blk_drewN ?_ _|refine blk_drew ?_|refine blk_alloc ?_ _));refine blk_put (cs:=#[.int .i64 ((rd_T48 l0_0 x8_1).f0.f0),.string ((rd_T48 l0_0 x8_1).f0.f1),.int .i64 ((rd_T48 l0_0 x8_1).f0.f2),.slice none 0 0,.int .i64 0,.string (⟨#[]⟩ : ByteArray),.int .i64 0,.slice none 0 0,.string (⟨#[]⟩ : ByteArray)]) ?_ 3 _ rfl;(with_reducible repeat (first|refine blk_drewN ?_ _|refine blk_drew ?_|refine blk_alloc ?_ _));refine blk_put (cs:=#[.int .i64 ((rd_T48 l0_0 x8_1).f0.f0),.string ((rd_T48 l0_0 x8_1).f0.f1),.int .i64 0,.slice none 0 0,.int .i64 0,.string (⟨#[]⟩ : ByteArray),.int .i64 0,.slice none 0 0,.string (⟨#[]⟩ : ByteArray)]) ?_ 2 _ rfl;(with_reducible repeat (first|refine blk_drewN ?_ _|refine blk_drew ?_|refine blk_alloc ?_ _));refine blk_put (cs:=#[.int .i64 ((rd_T48 l0_0 x8_1).f0.f0),.string (⟨#[]⟩ : ByteArray),.int .i64 0,.slice none 0 0,.int .i64 0,.string (⟨#[]⟩ : ByteArray),.int .i64 0,.slice none 0 0,.string (⟨#[]⟩ : ByteArray)]) ?_ 1 _ rfl;(with_reducible repeat (first|refine blk_drewN ?_ _|refine blk_drew ?_|refine blk_alloc ?_ _));refine blk_put (cs:=#[.int .i64 0,.string (⟨#[]⟩ : ByteArray),.int .i64 0,.slice none 0 0,.int .i64 0,.string (⟨#[]⟩ : ByteArray),.int .i64 0,.slice none 0 0,.string (⟨#[]⟩ : ByteArray)]) ?_ 0 _ rfl;(with_reducible repeat (first|refine blk_drewN ?_ _|refine blk_drew ?_|refine blk_alloc ?_ _));exact BK264.out) hb);have n2_:=Aside0.mk (below_step (by repeat (first|(with_reducible first|exact HB.out|apply below_alloc|apply pw_below_drewN|apply below_drew1|refine below_set ?_ GE262.out|refine below_set ?_ GE264.out)|exact HB.out)) hb);clear BK262;clear BK264;clear HB;have BK262:=n0_;have BK264:=n1_;have HB:=n2_;clear n0_ n1_ n2_;(try clear hb);(try clear hb2);(try clear hk);(try clear hi);have hcz17_0 : w16.cell? ⟨gb264,0,none⟩ = some (.int .i64 ((rd_T48 l0_0 x8_1).f0.f0)):=(blk_cell BK264.out 0).trans rfl;have hcz17_1 : w16.cell? ⟨gb264,1,none⟩ = some (.string ((rd_T48 l0_0 x8_1).f0.f1)):=(blk_cell BK264.out 1).trans rfl;have hcz17_2 : w16.cell? ⟨gb264,2,none⟩ = some (.int .i64 ((rd_T48 l0_0 x8_1).f0.f2)):=(blk_cell BK264.out 2).trans rfl;have hcz17_3 : w16.cell? ⟨gb264,3,none⟩ = some (.slice A263_3 ((rd_T48 l0_0 x8_1).f0.f3).length c263_3):=(blk_cell BK264.out 3).trans rfl;have hcz17_4 : w16.cell? ⟨gb264,4,none⟩ = some (.int .i64 ((rd_T48 l0_0 x8_1).f1.f0)):=(blk_cell BK264.out 4).trans rfl;have hcz17_5 : w16.cell? ⟨gb264,5,none⟩ = some (.string ((rd_T48 l0_0 x8_1).f1.f1)):=(blk_cell BK264.out 5).trans rfl;have hcz17_6 : w16.cell? ⟨gb264,6,none⟩ = some (.int .i64 ((rd_T48 l0_0 x8_1).f1.f2)):=(blk_cell BK264.out 6).trans rfl;have hcz17_7 : w16.cell? ⟨gb264,7,none⟩ = some (.slice A263_7 ((rd_T48 l0_0 x8_1).f1.f3).length c263_7):=(blk_cell BK264.out 7).trans rfl;have hcz17_8 : w16.cell? ⟨gb264,8,none⟩ = some (.string ((rd_T48 l0_0 x8_1).f2)):=(blk_cell BK264.out 8).trans rfl;have hfz17_0:=blk_frozen BK264.out 0;have hfz17_1:=blk_frozen BK264.out 1;have hfz17_2:=blk_frozen BK264.out 2;have hfz17_3:=blk_frozen BK264.out 3;have hfz17_4:=blk_frozen BK264.out 4;have hfz17_5:=blk_frozen BK264.out 5;have hfz17_6:=blk_frozen BK264.out 6;have hfz17_7:=blk_frozen BK264.out 7;have hfz17_8:=blk_frozen BK264.out 8)|(go_at_call 56;(with_reducible refine (impl_TermOk.calls k1 ((rd_T48 l0_0 x8_1).f1.f0) ((rd_T48 l0_0 x8_1).f1.f1) ((rd_T48 l0_0 x8_1).f1.f2) _ _ ((rd_T48 l0_0 x8_1).f1.f3) true _ ?side1 ?side2 A9.out).mono ?_);(case side1 => repeat (first|exact (Kd.C_below HR263_7.out HB.out)|(with_reducible refine Kd.C_alloc ?_ _)|(with_reducible refine Kd.C_drewN ?_ _)|(with_reducible refine Kd.C_drew ?_)));(case side2 => exact HC263_7.out);rintro e w18 ⟨rfl,hb⟩;have n0_:=Aside0.mk (blk_below (g:=gb262) (o:=.cells #[.slice (some ad263) l0_0.length c0_0,.slice A0_1 l0_1.length c0_1] 41 (0,0)) (by (with_reducible repeat (first|refine blk_drewN ?_ _|refine blk_drew ?_|refine blk_alloc ?_ _));exact BK262.out) hb);have n1_:=Aside0.mk (blk_below (g:=gb264) (o:=.cells #[.int .i64 ((rd_T48 l0_0 x8_1).f0.f0),.string ((rd_T48 l0_0 x8_1).f0.f1),.int .i64 ((rd_T48 l0_0 x8_1).f0.f2),.slice A263_3 ((rd_T48 l0_0 x8_1).f0.f3).length c263_3,.int .i64 ((rd_T48 l0_0 x8_1).f1.f0),.string ((rd_T48 l0_0 x8_1).f1.f1),.int .i64 ((rd_T48 l0_0 x8_1).f1.f2),.slice A263_7 ((rd_T48 l0_0 x8_1).f1.f3).length c263_7,.string ((rd_T48 l0_0 x8_1).f2)] 48 (0,0)) (by (with_reducible repeat (first|refine blk_drewN ?_ _|refine blk_drew ?_|refine blk_alloc ?_ _));exact BK264.out) hb);have n2_:=Aside0.mk (below_step (by repeat (first|(with_reducible first|exact HB.out|apply below_alloc|apply pw_below_drewN|apply below_drew1|refine below_set ?_ GE262.out|refine below_set ?_ GE264.out)|exact HB.out)) hb);clear BK262;clear BK264;clear HB;have BK262:=n0_;have BK264:=n1_;have HB:=n2_;clear n0_ n1_ n2_;(try clear hb);(try clear hb2);(try clear hk);(try clear hi);have hcz19_0 : w18.cell? ⟨gb264,0,none⟩ = some (.int .i64 ((rd_T48 l0_0 x8_1).f0.f0)):=(blk_cell BK264.out 0).trans rfl;have hcz19_1 : w18.cell? ⟨gb264,1,none⟩ = some (.string ((rd_T48 l0_0 x8_1).f0.f1)):=(blk_cell BK264.out 1).trans rfl;have hcz19_2 : w18.cell? ⟨gb264,2,none⟩ = some (.int .i64 ((rd_T48 l0_0 x8_1).f0.f2)):=(blk_cell BK264.out 2).trans rfl;have hcz19_3 : w18.cell? ⟨gb264,3,none⟩ = some (.slice A263_3 ((rd_T48 l0_0 x8_1).f0.f3).length c263_3):=(blk_cell BK264.out 3).trans rfl;have hcz19_4 : w18.cell? ⟨gb264,4,none⟩ = some (.int .i64 ((rd_T48 l0_0 x8_1).f1.f0)):=(blk_cell BK264.out 4).trans rfl;have hcz19_5 : w18.cell? ⟨gb264,5,none⟩ = some (.string ((rd_T48 l0_0 x8_1).f1.f1)):=(blk_cell BK264.out 5).trans rfl;have hcz19_6 : w18.cell? ⟨gb264,6,none⟩ = some (.int .i64 ((rd_T48 l0_0 x8_1).f1.f2)):=(blk_cell BK264.out 6).trans rfl;have hcz19_7 : w18.cell? ⟨gb264,7,none⟩ = some (.slice A263_7 ((rd_T48 l0_0 x8_1).f1.f3).length c263_7):=(blk_cell BK264.out 7).trans rfl;have hcz19_8 : w18.cell? ⟨gb264,8,none⟩ = some (.string ((rd_T48 l0_0 x8_1).f2)):=(blk_cell BK264.out 8).trans rfl;have hfz19_0:=blk_frozen BK264.out 0;have hfz19_1:=blk_frozen BK264.out 1;have hfz19_2:=blk_frozen BK264.out 2;have hfz19_3:=blk_frozen BK264.out 3;have hfz19_4:=blk_frozen BK264.out 4;have hfz19_5:=blk_frozen BK264.out 5;have hfz19_6:=blk_frozen BK264.out 6;have hfz19_7:=blk_frozen BK264.out 7;have hfz19_8:=blk_frozen BK264.out 8)|(go_at_call 57;(with_reducible refine (impl_headOk.calls k1 ((rd_T48 l0_0 x8_1).f0.f0) ((rd_T48 l0_0 x8_1).f0.f1) ((rd_T48 l0_0 x8_1).f0.f2) _ _ ((rd_T48 l0_0 x8_1).f0.f3) true _ (tab_at HTAB.out (by repeat (first|(with_reducible first|exact HB.out|apply below_alloc|apply pw_below_drewN|apply below_drew1|refine below_set ?_ GE262.out|refine below_set ?_ GE264.out)|exact HB.out))) ?side1 ?side2 A11.out).mono ?_);(case side1 => repeat (first|exact (Kd.C_below HR263_3.out HB.out)|(with_reducible refine Kd.C_alloc ?_ _)|(with_reducible refine Kd.C_drewN ?_ _)|(with_reducible refine Kd.C_drew ?_)));(case side2 => exact HC263_3.out);rintro e w20 ⟨rfl,hb⟩;have n0_:=Aside0.mk (blk_below (g:=gb262) (o:=.cells #[.slice (some ad263) l0_0.length c0_0,.slice A0_1 l0_1.length c0_1] 41 (0,0)) (by (with_reducible repeat (first|refine blk_drewN ?_ _|refine blk_drew ?_|refine blk_alloc ?_ _));exact BK262.out) hb);have n1_:=Aside0.mk (blk_below (g:=gb264) (o:=.cells #[.int .i64 ((rd_T48 l0_0 x8_1).f0.f0),.string ((rd_T48 l0_0 x8_1).f0.f1),.int .i64 ((rd_T48 l0_0 x8_1).f0.f2),.slice A263_3 ((rd_T48 l0_0 x8_1).f0.f3).length c263_3,.int .i64 ((rd_T48 l0_0 x8_1).f1.f0),.string ((rd_T48 l0_0 x8_1).f1.f1),.int .i64 ((rd_T48 l0_0 x8_1).f1.f2),.slice A263_7 ((rd_T48 l0_0 x8_1).f1.f3).length c263_7,.string ((rd_T48 l0_0 x8_1).f2)] 48 (0,0)) (by (with_reducible repeat (first|refine blk_drewN ?_ _|refine blk_drew ?_|refine blk_alloc ?_ _));exact BK264.out) hb);have n2_:=Aside0.mk (below_step (by repeat (first|(with_reducible first|exact HB.out|apply below_alloc|apply pw_below_drewN|apply below_drew1|refine below_set ?_ GE262.out|refine below_set ?_ GE264.out)|exact HB.out)) hb);clear BK262;clear BK264;clear HB;have BK262:=n0_;have BK264:=n1_;have HB:=n2_;clear n0_ n1_ n2_;(try clear hb)))
       go_roundg k1
       case measure => have:=HK1.out;omega
       case rel => exact ⟨(wrap64 (x8_1 + 1)),(by first|rfl|(simp;done)|(simp [*];done)),H',⟨by have:=HK1.out;omega⟩,⟨by (with_reducible repeat (first|refine blk_drewN ?_ _|refine blk_drew ?_|refine blk_alloc ?_ _));exact BK262.out⟩,⟨by repeat (first|(with_reducible first|exact HB.out|apply below_alloc|apply pw_below_drewN|apply below_drew1|refine below_set ?_ GE262.out|refine below_set ?_ GE264.out)|exact HB.out)⟩⟩
      ·replace c12:=Bool.eq_false_iff.mpr c12
       subst c12
       have H1 : (some false) = some r:=by rw [if_neg (show ¬ (false = true) by decide)] at H;exact H
       clear H
       have H:=H1
       clear H1
       obtain rfl:=Option.some.inj H
       have p263 : 0 ≤ (x8_1 : Int):=of_decide_eq_true (by first|(with_reducible assumption)|assumption)
       have q263 : x8_1 < (l0_0.length : Int):=of_decide_eq_true (by first|(with_reducible assumption)|assumption)
       obtain ⟨ad263,A263_3,c263_3,A263_7,c263_7,e263,hx263_0,hx263_1,hx263_2,hx263_3,hx263_4,hx263_5,hx263_6,hx263_7,hx263_8,hl263_3,hi263_3,hl263_7,hi263_7⟩:=at_T48 HR0_0.out x8_1 p263 q263
       cases e263
       replace hx263_0:=(HB.out.cell (World.block_lt_of_cell? w _ hx263_0)).trans hx263_0
       replace hx263_1:=(HB.out.cell (World.block_lt_of_cell? w _ hx263_1)).trans hx263_1
       replace hx263_2:=(HB.out.cell (World.block_lt_of_cell? w _ hx263_2)).trans hx263_2
       replace hx263_3:=(HB.out.cell (World.block_lt_of_cell? w _ hx263_3)).trans hx263_3
       replace hx263_4:=(HB.out.cell (World.block_lt_of_cell? w _ hx263_4)).trans hx263_4
       replace hx263_5:=(HB.out.cell (World.block_lt_of_cell? w _ hx263_5)).trans hx263_5
       replace hx263_6:=(HB.out.cell (World.block_lt_of_cell? w _ hx263_6)).trans hx263_6
       replace hx263_7:=(HB.out.cell (World.block_lt_of_cell? w _ hx263_7)).trans hx263_7
       replace hx263_8:=(HB.out.cell (World.block_lt_of_cell? w _ hx263_8)).trans hx263_8
       have HR263_3:=Aside0.mk hi263_3
       have HC263_3:=Aside0.mk hl263_3
       clear hi263_3 hl263_3
       have HR263_7:=Aside0.mk hi263_7
       have HC263_7:=Aside0.mk hl263_7
       clear hi263_7 hl263_7
       replace p263:=eq_true p263
       replace q263:=eq_true q263
       go_wp2_with (first|((with_reducible refine gate_dst (N:=4) rfl ?_);(try (refine gate_guard (by rfl) ?_;dsimp only));refine box_event ?hg (N:=4) ?hd (cs:=#[.int .i64 0,.string (⟨#[]⟩ : ByteArray),.int .i64 0,.slice none 0 0,.int .i64 0,.string (⟨#[]⟩ : ByteArray),.int .i64 0,.slice none 0 0,.string (⟨#[]⟩ : ByteArray)]) (t:=48) ?hr ?_;(case hd => rfl);(case hg => rfl);(case hr => first|(go_simp;done)|(go_simp;rfl));intro gb264 hg w21 hbox hb;have n0_:=Aside0.mk (blk_below (g:=gb262) (o:=.cells #[.slice (some ad263) l0_0.length c0_0,.slice A0_1 l0_1.length c0_1] 41 (0,0)) (by (with_reducible repeat (first|refine blk_drewN ?_ _|refine blk_drew ?_|refine blk_alloc ?_ _));exact BK262.out) hb);have n1_:=Aside0.mk (below_step (by repeat (first|(with_reducible first|exact HB.out|apply below_alloc|apply pw_below_drewN|apply below_drew1|refine below_set ?_ GE262.out)|exact HB.out)) hb);have n2_:=Aside0.mk (hbox);have n3_:=Aside0.mk ((by rw [hg];exact (below_size (by repeat (first|(with_reducible first|exact HB.out|apply below_alloc|apply pw_below_drewN|apply below_drew1|refine below_set ?_ GE262.out)|exact HB.out))) : w.heap.size ≤ gb264));have n4_:=Aside0.mk ((by rw [hg];exact (below_size (by repeat (first|(with_reducible first|exact HB.out|apply below_alloc|apply pw_below_drewN|apply below_drew1|refine below_set ?_ GE262.out)|exact HB.out))) : w.heap.size ≤ gb264));have n5_:=Aside0.mk ((by rw [hg];exact Nat.ne_of_lt (blk_lt (g:=gb262) (o:=.cells #[.slice (some ad263) l0_0.length c0_0,.slice A0_1 l0_1.length c0_1] 41 (0,0)) (by (with_reducible repeat (first|refine blk_drewN ?_ _|refine blk_drew ?_|refine blk_alloc ?_ _));exact BK262.out)) : gb262 ≠ gb264));have n6_:=Aside0.mk ((by rw [hg];exact Nat.ne_of_gt (blk_lt (g:=gb262) (o:=.cells #[.slice (some ad263) l0_0.length c0_0,.slice A0_1 l0_1.length c0_1] 41 (0,0)) (by (with_reducible repeat (first|refine blk_drewN ?_ _|refine blk_drew ?_|refine blk_alloc ?_ _));exact BK262.out)) : gb264 ≠ gb262));clear BK262;clear HB;have BK262:=n0_;have HB:=n1_;have BK264:=n2_;have GW264:=n3_;have GE264:=n4_;have NB262_264:=n5_;have NB264_262:=n6_;clear n0_ n1_ n2_ n3_ n4_ n5_ n6_;clear hb hbox hg;have hnb22:=NB264_262.out;have hnc22:=NB262_264.out;have hcz23_0 : w21.cell? ⟨gb264,0,none⟩ = some (.int .i64 0):=(blk_cell BK264.out 0).trans rfl;have hcz23_1 : w21.cell? ⟨gb264,1,none⟩ = some (.string (⟨#[]⟩ : ByteArray)):=(blk_cell BK264.out 1).trans rfl;have hcz23_2 : w21.cell? ⟨gb264,2,none⟩ = some (.int .i64 0):=(blk_cell BK264.out 2).trans rfl;have hcz23_3 : w21.cell? ⟨gb264,3,none⟩ = some (.slice none 0 0):=(blk_cell BK264.out 3).trans rfl;have hcz23_4 : w21.cell? ⟨gb264,4,none⟩ = some (.int .i64 0):=(blk_cell BK264.out 4).trans rfl;have hcz23_5 : w21.cell? ⟨gb264,5,none⟩ = some (.string (⟨#[]⟩ : ByteArray)):=(blk_cell BK264.out 5).trans rfl;have hcz23_6 : w21.cell? ⟨gb264,6,none⟩ = some (.int .i64 0):=(blk_cell BK264.out 6).trans rfl;have hcz23_7 : w21.cell? ⟨gb264,7,none⟩ = some (.slice none 0 0):=(blk_cell BK264.out 7).trans rfl;have hcz23_8 : w21.cell? ⟨gb264,8,none⟩ = some (.string (⟨#[]⟩ : ByteArray)):=(blk_cell BK264.out 8).trans rfl;have hfz23_0:=blk_frozen BK264.out 0;have hfz23_1:=blk_frozen BK264.out 1;have hfz23_2:=blk_frozen BK264.out 2;have hfz23_3:=blk_frozen BK264.out 3;have hfz23_4:=blk_frozen BK264.out 4;have hfz23_5:=blk_frozen BK264.out 5;have hfz23_6:=blk_frozen BK264.out 6;have hfz23_7:=blk_frozen BK264.out 7;have hfz23_8:=blk_frozen BK264.out 8)|((with_reducible refine gate_callee (f:=56) rfl ?_);refine goesL_ (some 14) rfl rfl Tryd.func56 (by kernel_rfl) rfl #[.agg #[.int .i64 ((rd_T48 l0_0 x8_1).f0.f0),.string ((rd_T48 l0_0 x8_1).f0.f1),.int .i64 ((rd_T48 l0_0 x8_1).f0.f2),.slice A263_3 ((rd_T48 l0_0 x8_1).f0.f3).length c263_3]] rfl (by (try simp only [List.map_toArray,List.map_cons,List.map_nil]);first|done|rfl|(simp only [List.length_drop,List.length_take];rfl)) ?_;(with_reducible refine (impl_TermOk.calls k1 ((rd_T48 l0_0 x8_1).f0.f0) ((rd_T48 l0_0 x8_1).f0.f1) ((rd_T48 l0_0 x8_1).f0.f2) _ _ ((rd_T48 l0_0 x8_1).f0.f3) true _ ?side1 ?side2 A7.out).mono ?_);(case side1 => exact Kd.C_below HR263_3.out (by repeat (first|(with_reducible first|exact HB.out|apply below_alloc|apply pw_below_drewN|apply below_drew1|refine below_set ?_ GE262.out|refine below_set ?_ GE264.out)|exact HB.out)));(case side2 => exact HC263_3.out);rintro e w24 ⟨rfl,hb⟩;refine ⟨_,rfl,?_⟩;have n0_:=Aside0.mk (blk_below (g:=gb262) (o:=.cells #[.slice (some ad263) l0_0.length c0_0,.slice A0_1 l0_1.length c0_1] 41 (0,0)) (by (with_reducible repeat (first|refine blk_drewN ?_ _|refine blk_drew ?_|refine blk_alloc ?_ _));refine blk_far ?_ NB262_264.out _;(with_reducible repeat (first|refine blk_drewN ?_ _|refine blk_drew ?_|refine blk_alloc ?_ _));refine blk_far ?_ NB262_264.out _;(with_reducible repeat (first|refine blk_drewN ?_ _|refine blk_drew ?_|refine blk_alloc ?_ _));refine blk_far ?_ NB262_264.out _;(with_reducible repeat (first|refine blk_drewN ?_ _|refine blk_drew ?_|refine blk_alloc ?_ _));refine blk_far ?_ NB262_264.out _;(with_reducible repeat (first|refine blk_drewN ?_ _|refine blk_drew ?_|refine blk_alloc ?_ _));refine blk_far ?_ NB262_264.out _;(with_reducible repeat (first|refine blk_drewN ?_ _|refine blk_drew ?_|refine blk_alloc ?_ _));refine blk_far ?_ NB262_264.out _;(with_reducible repeat (first|refine blk_drewN ?_ _|refine blk_drew ?_|refine blk_alloc ?_ _));refine blk_far ?_ NB262_264.out _;(with_reducible repeat (first|refine blk_drewN ?_ _|refine blk_drew ?_|refine blk_alloc ?_ _));refine blk_far ?_ NB262_264.out _;(with_reducible repeat (first|refine blk_drewN ?_ _|refine blk_drew ?_|refine blk_alloc ?_ _));refine blk_far ?_ NB262_264.out _;(with_reducible repeat (first|refine blk_drewN ?_ _|refine blk_drew ?_|refine blk_alloc ?_ _));exact BK262.out) hb);have n1_:=Aside0.mk (blk_below (g:=gb264) (o:=.cells #[.int .i64 ((rd_T48 l0_0 x8_1).f0.f0),.string ((rd_T48 l0_0 x8_1).f0.f1),.int .i64 ((rd_T48 l0_0 x8_1).f0.f2),.slice A263_3 ((rd_T48 l0_0 x8_1).f0.f3).length c263_3,.int .i64 ((rd_T48 l0_0 x8_1).f1.f0),.string ((rd_T48 l0_0 x8_1).f1.f1),.int .i64 ((rd_T48 l0_0 x8_1).f1.f2),.slice A263_7 ((rd_T48 l0_0 x8_1).f1.f3).length c263_7,.string ((rd_T48 l0_0 x8_1).f2)] 48 (0,0)) (by (with_reducible repeat (first|refine blk_drewN ?_ _|refine blk_drew ?_|refine blk_alloc ?_ _));refine blk_put (cs:=#[.int .i64 ((rd_T48 l0_0 x8_1).f0.f0),.string ((rd_T48 l0_0 x8_1).f0.f1),.int .i64 ((rd_T48 l0_0 x8_1).f0.f2),.slice A263_3 ((rd_T48 l0_0 x8_1).f0.f3).length c263_3,.int .i64 ((rd_T48 l0_0 x8_1).f1.f0),.string ((rd_T48 l0_0 x8_1).f1.f1),.int .i64 ((rd_T48 l0_0 x8_1).f1.f2),.slice A263_7 ((rd_T48 l0_0 x8_1).f1.f3).length c263_7,.string (⟨#[]⟩ : ByteArray)]) ?_ 8 _ rfl;(with_reducible repeat (first|refine blk_drewN ?_ _|refine blk_drew ?_|refine blk_alloc ?_ _));refine blk_put (cs:=#[.int .i64 ((rd_T48 l0_0 x8_1).f0.f0),.string ((rd_T48 l0_0 x8_1).f0.f1),.int .i64 ((rd_T48 l0_0 x8_1).f0.f2),.slice A263_3 ((rd_T48 l0_0 x8_1).f0.f3).length c263_3,.int .i64 ((rd_T48 l0_0 x8_1).f1.f0),.string ((rd_T48 l0_0 x8_1).f1.f1),.int .i64 ((rd_T48 l0_0 x8_1).f1.f2),.slice none 0 0,.string (⟨#[]⟩ : ByteArray)]) ?_ 7 _ rfl;(with_reducible repeat (first|refine blk_drewN ?_ _|refine blk_drew ?_|refine blk_alloc ?_ _));refine blk_put (cs:=#[.int .i64 ((rd_T48 l0_0 x8_1).f0.f0),.string ((rd_T48 l0_0 x8_1).f0.f1),.int .i64 ((rd_T48 l0_0 x8_1).f0.f2),.slice A263_3 ((rd_T48 l0_0 x8_1).f0.f3).length c263_3,.int .i64 ((rd_T48 l0_0 x8_1).f1.f0),.string ((rd_T48 l0_0 x8_1).f1.f1),.int .i64 0,.slice none 0 0,.string (⟨#[]⟩ : ByteArray)]) ?_ 6 _ rfl;(with_reducible repeat (first|refine blk_drewN ?_ _|refine blk_drew ?_|refine blk_alloc ?_ _));refine blk_put (cs:=#[.int .i64 ((rd_T48 l0_0 x8_1).f0.f0),.string ((rd_T48 l0_0 x8_1).f0.f1),.int .i64 ((rd_T48 l0_0 x8_1).f0.f2),.slice A263_3 ((rd_T48 l0_0 x8_1).f0.f3).length c263_3,.int .i64 ((rd_T48 l0_0 x8_1).f1.f0),.string (⟨#[]⟩ : ByteArray),.int .i64 0,.slice none 0 0,.string (⟨#[]⟩ : ByteArray)]) ?_ 5 _ rfl;(with_reducible repeat (first|refine blk_drewN ?_ _|refine blk_drew ?_|refine blk_alloc ?_ _));refine blk_put (cs:=#[.int .i64 ((rd_T48 l0_0 x8_1).f0.f0),.string ((rd_T48 l0_0 x8_1).f0.f1),.int .i64 ((rd_T48 l0_0 x8_1).f0.f2),.slice A263_3 ((rd_T48 l0_0 x8_1).f0.f3).length c263_3,.int .i64 0,.string (⟨#[]⟩ : ByteArray),.int .i64 0,.slice none 0 0,.string (⟨#[]⟩ : ByteArray)]) ?_ 4 _ rfl;(with_reducible repeat (first|refine blk_drewN ?_ _|refine blk_drew ?_|refine blk_alloc ?_ _));refine blk_put (cs:=#[.int .i64 ((rd_T48 l0_0 x8_1).f0.f0),.string ((rd_T48 l0_0 x8_1).f0.f1),.int .i64 ((rd_T48 l0_0 x8_1).f0.f2),.slice none 0 0,.int .i64 0,.string (⟨#[]⟩ : ByteArray),.int .i64 0,.slice none 0 0,.string (⟨#[]⟩ : ByteArray)]) ?_ 3 _ rfl;(with_reducible repeat (first|refine blk_drewN ?_ _|refine blk_drew ?_|refine blk_alloc ?_ _));refine blk_put (cs:=#[.int .i64 ((rd_T48 l0_0 x8_1).f0.f0),.string ((rd_T48 l0_0 x8_1).f0.f1),.int .i64 0,.slice none 0 0,.int .i64 0,.string (⟨#[]⟩ : ByteArray),.int .i64 0,.slice none 0 0,.string (⟨#[]⟩ : ByteArray)]) ?_ 2 _ rfl;(with_reducible repeat (first|refine blk_drewN ?_ _|refine blk_drew ?_|refine blk_alloc ?_ _));refine blk_put (cs:=#[.int .i64 ((rd_T48 l0_0 x8_1).f0.f0),.string (⟨#[]⟩ : ByteArray),.int .i64 0,.slice none 0 0,.int .i64 0,.string (⟨#[]⟩ : ByteArray),.int .i64 0,.slice none 0 0,.string (⟨#[]⟩ : ByteArray)]) ?_ 1 _ rfl;(with_reducible repeat (first|refine blk_drewN ?_ _|refine blk_drew ?_|refine blk_alloc ?_ _));refine blk_put (cs:=#[.int .i64 0,.string (⟨#[]⟩ : ByteArray),.int .i64 0,.slice none 0 0,.int .i64 0,.string (⟨#[]⟩ : ByteArray),.int .i64 0,.slice none 0 0,.string (⟨#[]⟩ : ByteArray)]) ?_ 0 _ rfl;(with_reducible repeat (first|refine blk_drewN ?_ _|refine blk_drew ?_|refine blk_alloc ?_ _));exact BK264.out) hb);have n2_:=Aside0.mk (below_step (by repeat (first|(with_reducible first|exact HB.out|apply below_alloc|apply pw_below_drewN|apply below_drew1|refine below_set ?_ GE262.out|refine below_set ?_ GE264.out)|exact HB.out)) hb);clear BK262;clear BK264;clear HB;have BK262:=n0_;have BK264:=n1_;have HB:=n2_;clear n0_ n1_ n2_;(try clear hb);(try clear hb2);(try clear hk);(try clear hi);have hcz25_0 : w24.cell? ⟨gb264,0,none⟩ = some (.int .i64 ((rd_T48 l0_0 x8_1).f0.f0)):=(blk_cell BK264.out 0).trans rfl;have hcz25_1 : w24.cell? ⟨gb264,1,none⟩ = some (.string ((rd_T48 l0_0 x8_1).f0.f1)):=(blk_cell BK264.out 1).trans rfl;have hcz25_2 : w24.cell? ⟨gb264,2,none⟩ = some (.int .i64 ((rd_T48 l0_0 x8_1).f0.f2)):=(blk_cell BK264.out 2).trans rfl;have hcz25_3 : w24.cell? ⟨gb264,3,none⟩ = some (.slice A263_3 ((rd_T48 l0_0 x8_1).f0.f3).length c263_3):=(blk_cell BK264.out 3).trans rfl;have hcz25_4 : w24.cell? ⟨gb264,4,none⟩ = some (.int .i64 ((rd_T48 l0_0 x8_1).f1.f0)):=(blk_cell BK264.out 4).trans rfl;have hcz25_5 : w24.cell? ⟨gb264,5,none⟩ = some (.string ((rd_T48 l0_0 x8_1).f1.f1)):=(blk_cell BK264.out 5).trans rfl;have hcz25_6 : w24.cell? ⟨gb264,6,none⟩ = some (.int .i64 ((rd_T48 l0_0 x8_1).f1.f2)):=(blk_cell BK264.out 6).trans rfl;have hcz25_7 : w24.cell? ⟨gb264,7,none⟩ = some (.slice A263_7 ((rd_T48 l0_0 x8_1).f1.f3).length c263_7):=(blk_cell BK264.out 7).trans rfl;have hcz25_8 : w24.cell? ⟨gb264,8,none⟩ = some (.string ((rd_T48 l0_0 x8_1).f2)):=(blk_cell BK264.out 8).trans rfl;have hfz25_0:=blk_frozen BK264.out 0;have hfz25_1:=blk_frozen BK264.out 1;have hfz25_2:=blk_frozen BK264.out 2;have hfz25_3:=blk_frozen BK264.out 3;have hfz25_4:=blk_frozen BK264.out 4;have hfz25_5:=blk_frozen BK264.out 5;have hfz25_6:=blk_frozen BK264.out 6;have hfz25_7:=blk_frozen BK264.out 7;have hfz25_8:=blk_frozen BK264.out 8)|(go_at_call 56;(with_reducible refine (impl_TermOk.calls k1 ((rd_T48 l0_0 x8_1).f1.f0) ((rd_T48 l0_0 x8_1).f1.f1) ((rd_T48 l0_0 x8_1).f1.f2) _ _ ((rd_T48 l0_0 x8_1).f1.f3) true _ ?side1 ?side2 A9.out).mono ?_);(case side1 => repeat (first|exact (Kd.C_below HR263_7.out HB.out)|(with_reducible refine Kd.C_alloc ?_ _)|(with_reducible refine Kd.C_drewN ?_ _)|(with_reducible refine Kd.C_drew ?_)));(case side2 => exact HC263_7.out);rintro e w26 ⟨rfl,hb⟩;have n0_:=Aside0.mk (blk_below (g:=gb262) (o:=.cells #[.slice (some ad263) l0_0.length c0_0,.slice A0_1 l0_1.length c0_1] 41 (0,0)) (by (with_reducible repeat (first|refine blk_drewN ?_ _|refine blk_drew ?_|refine blk_alloc ?_ _));exact BK262.out) hb);have n1_:=Aside0.mk (blk_below (g:=gb264) (o:=.cells #[.int .i64 ((rd_T48 l0_0 x8_1).f0.f0),.string ((rd_T48 l0_0 x8_1).f0.f1),.int .i64 ((rd_T48 l0_0 x8_1).f0.f2),.slice A263_3 ((rd_T48 l0_0 x8_1).f0.f3).length c263_3,.int .i64 ((rd_T48 l0_0 x8_1).f1.f0),.string ((rd_T48 l0_0 x8_1).f1.f1),.int .i64 ((rd_T48 l0_0 x8_1).f1.f2),.slice A263_7 ((rd_T48 l0_0 x8_1).f1.f3).length c263_7,.string ((rd_T48 l0_0 x8_1).f2)] 48 (0,0)) (by (with_reducible repeat (first|refine blk_drewN ?_ _|refine blk_drew ?_|refine blk_alloc ?_ _));exact BK264.out) hb);have n2_:=Aside0.mk (below_step (by repeat (first|(with_reducible first|exact HB.out|apply below_alloc|apply pw_below_drewN|apply below_drew1|refine below_set ?_ GE262.out|refine below_set ?_ GE264.out)|exact HB.out)) hb);clear BK262;clear BK264;clear HB;have BK262:=n0_;have BK264:=n1_;have HB:=n2_;clear n0_ n1_ n2_;(try clear hb);(try clear hb2);(try clear hk);(try clear hi);have hcz27_0 : w26.cell? ⟨gb264,0,none⟩ = some (.int .i64 ((rd_T48 l0_0 x8_1).f0.f0)):=(blk_cell BK264.out 0).trans rfl;have hcz27_1 : w26.cell? ⟨gb264,1,none⟩ = some (.string ((rd_T48 l0_0 x8_1).f0.f1)):=(blk_cell BK264.out 1).trans rfl;have hcz27_2 : w26.cell? ⟨gb264,2,none⟩ = some (.int .i64 ((rd_T48 l0_0 x8_1).f0.f2)):=(blk_cell BK264.out 2).trans rfl;have hcz27_3 : w26.cell? ⟨gb264,3,none⟩ = some (.slice A263_3 ((rd_T48 l0_0 x8_1).f0.f3).length c263_3):=(blk_cell BK264.out 3).trans rfl;have hcz27_4 : w26.cell? ⟨gb264,4,none⟩ = some (.int .i64 ((rd_T48 l0_0 x8_1).f1.f0)):=(blk_cell BK264.out 4).trans rfl;have hcz27_5 : w26.cell? ⟨gb264,5,none⟩ = some (.string ((rd_T48 l0_0 x8_1).f1.f1)):=(blk_cell BK264.out 5).trans rfl;have hcz27_6 : w26.cell? ⟨gb264,6,none⟩ = some (.int .i64 ((rd_T48 l0_0 x8_1).f1.f2)):=(blk_cell BK264.out 6).trans rfl;have hcz27_7 : w26.cell? ⟨gb264,7,none⟩ = some (.slice A263_7 ((rd_T48 l0_0 x8_1).f1.f3).length c263_7):=(blk_cell BK264.out 7).trans rfl;have hcz27_8 : w26.cell? ⟨gb264,8,none⟩ = some (.string ((rd_T48 l0_0 x8_1).f2)):=(blk_cell BK264.out 8).trans rfl;have hfz27_0:=blk_frozen BK264.out 0;have hfz27_1:=blk_frozen BK264.out 1;have hfz27_2:=blk_frozen BK264.out 2;have hfz27_3:=blk_frozen BK264.out 3;have hfz27_4:=blk_frozen BK264.out 4;have hfz27_5:=blk_frozen BK264.out 5;have hfz27_6:=blk_frozen BK264.out 6;have hfz27_7:=blk_frozen BK264.out 7;have hfz27_8:=blk_frozen BK264.out 8)|(go_at_call 57;(with_reducible refine (impl_headOk.calls k1 ((rd_T48 l0_0 x8_1).f0.f0) ((rd_T48 l0_0 x8_1).f0.f1) ((rd_T48 l0_0 x8_1).f0.f2) _ _ ((rd_T48 l0_0 x8_1).f0.f3) false _ (tab_at HTAB.out (by repeat (first|(with_reducible first|exact HB.out|apply below_alloc|apply pw_below_drewN|apply below_drew1|refine below_set ?_ GE262.out|refine below_set ?_ GE264.out)|exact HB.out))) ?side1 ?side2 A11.out).mono ?_);(case side1 => repeat (first|exact (Kd.C_below HR263_3.out HB.out)|(with_reducible refine Kd.C_alloc ?_ _)|(with_reducible refine Kd.C_drewN ?_ _)|(with_reducible refine Kd.C_drew ?_)));(case side2 => exact HC263_3.out);rintro e w28 ⟨rfl,hb⟩;have n0_:=Aside0.mk (blk_below (g:=gb262) (o:=.cells #[.slice (some ad263) l0_0.length c0_0,.slice A0_1 l0_1.length c0_1] 41 (0,0)) (by (with_reducible repeat (first|refine blk_drewN ?_ _|refine blk_drew ?_|refine blk_alloc ?_ _));exact BK262.out) hb);have n1_:=Aside0.mk (blk_below (g:=gb264) (o:=.cells #[.int .i64 ((rd_T48 l0_0 x8_1).f0.f0),.string ((rd_T48 l0_0 x8_1).f0.f1),.int .i64 ((rd_T48 l0_0 x8_1).f0.f2),.slice A263_3 ((rd_T48 l0_0 x8_1).f0.f3).length c263_3,.int .i64 ((rd_T48 l0_0 x8_1).f1.f0),.string ((rd_T48 l0_0 x8_1).f1.f1),.int .i64 ((rd_T48 l0_0 x8_1).f1.f2),.slice A263_7 ((rd_T48 l0_0 x8_1).f1.f3).length c263_7,.string ((rd_T48 l0_0 x8_1).f2)] 48 (0,0)) (by (with_reducible repeat (first|refine blk_drewN ?_ _|refine blk_drew ?_|refine blk_alloc ?_ _));exact BK264.out) hb);have n2_:=Aside0.mk (below_step (by repeat (first|(with_reducible first|exact HB.out|apply below_alloc|apply pw_below_drewN|apply below_drew1|refine below_set ?_ GE262.out|refine below_set ?_ GE264.out)|exact HB.out)) hb);clear BK262;clear BK264;clear HB;have BK262:=n0_;have BK264:=n1_;have HB:=n2_;clear n0_ n1_ n2_;(try clear hb)))
       go_ret
       exact ⟨by first|rfl|(simp [errW_none,errW_some] <;> rfl)|(simp [*,errW_none,errW_some] <;> rfl),by repeat (first|(with_reducible first|exact HB.out|apply below_alloc|apply pw_below_drewN|apply below_drew1|refine below_set ?_ GE262.out|refine below_set ?_ GE264.out)|exact HB.out)⟩
     ·replace c10:=Bool.eq_false_iff.mpr c10
      subst c10
      have H1 : (some false) = some r:=by rw [if_neg (show ¬ (false = true) by decide)] at H;exact H
      clear H
      have H:=H1
      clear H1
      obtain rfl:=Option.some.inj H
      have p263 : 0 ≤ (x8_1 : Int):=of_decide_eq_true (by first|(with_reducible assumption)|assumption)
      have q263 : x8_1 < (l0_0.length : Int):=of_decide_eq_true (by first|(with_reducible assumption)|assumption)
      obtain ⟨ad263,A263_3,c263_3,A263_7,c263_7,e263,hx263_0,hx263_1,hx263_2,hx263_3,hx263_4,hx263_5,hx263_6,hx263_7,hx263_8,hl263_3,hi263_3,hl263_7,hi263_7⟩:=at_T48 HR0_0.out x8_1 p263 q263
      cases e263
      replace hx263_0:=(HB.out.cell (World.block_lt_of_cell? w _ hx263_0)).trans hx263_0
      replace hx263_1:=(HB.out.cell (World.block_lt_of_cell? w _ hx263_1)).trans hx263_1
      replace hx263_2:=(HB.out.cell (World.block_lt_of_cell? w _ hx263_2)).trans hx263_2
      replace hx263_3:=(HB.out.cell (World.block_lt_of_cell? w _ hx263_3)).trans hx263_3
      replace hx263_4:=(HB.out.cell (World.block_lt_of_cell? w _ hx263_4)).trans hx263_4
      replace hx263_5:=(HB.out.cell (World.block_lt_of_cell? w _ hx263_5)).trans hx263_5
      replace hx263_6:=(HB.out.cell (World.block_lt_of_cell? w _ hx263_6)).trans hx263_6
      replace hx263_7:=(HB.out.cell (World.block_lt_of_cell? w _ hx263_7)).trans hx263_7
      replace hx263_8:=(HB.out.cell (World.block_lt_of_cell? w _ hx263_8)).trans hx263_8
      have HR263_3:=Aside0.mk hi263_3
      have HC263_3:=Aside0.mk hl263_3
      clear hi263_3 hl263_3
      have HR263_7:=Aside0.mk hi263_7
      have HC263_7:=Aside0.mk hl263_7
      clear hi263_7 hl263_7
      replace p263:=eq_true p263
      replace q263:=eq_true q263
      go_wp2_with (first|((with_reducible refine gate_dst (N:=4) rfl ?_);(try (refine gate_guard (by rfl) ?_;dsimp only));refine box_event ?hg (N:=4) ?hd (cs:=#[.int .i64 0,.string (⟨#[]⟩ : ByteArray),.int .i64 0,.slice none 0 0,.int .i64 0,.string (⟨#[]⟩ : ByteArray),.int .i64 0,.slice none 0 0,.string (⟨#[]⟩ : ByteArray)]) (t:=48) ?hr ?_;(case hd => rfl);(case hg => rfl);(case hr => first|(go_simp;done)|(go_simp;rfl));intro gb264 hg w29 hbox hb;have n0_:=Aside0.mk (blk_below (g:=gb262) (o:=.cells #[.slice (some ad263) l0_0.length c0_0,.slice A0_1 l0_1.length c0_1] 41 (0,0)) (by (with_reducible repeat (first|refine blk_drewN ?_ _|refine blk_drew ?_|refine blk_alloc ?_ _));exact BK262.out) hb);have n1_:=Aside0.mk (below_step (by repeat (first|(with_reducible first|exact HB.out|apply below_alloc|apply pw_below_drewN|apply below_drew1|refine below_set ?_ GE262.out)|exact HB.out)) hb);have n2_:=Aside0.mk (hbox);have n3_:=Aside0.mk ((by rw [hg];exact (below_size (by repeat (first|(with_reducible first|exact HB.out|apply below_alloc|apply pw_below_drewN|apply below_drew1|refine below_set ?_ GE262.out)|exact HB.out))) : w.heap.size ≤ gb264));have n4_:=Aside0.mk ((by rw [hg];exact (below_size (by repeat (first|(with_reducible first|exact HB.out|apply below_alloc|apply pw_below_drewN|apply below_drew1|refine below_set ?_ GE262.out)|exact HB.out))) : w.heap.size ≤ gb264));have n5_:=Aside0.mk ((by rw [hg];exact Nat.ne_of_lt (blk_lt (g:=gb262) (o:=.cells #[.slice (some ad263) l0_0.length c0_0,.slice A0_1 l0_1.length c0_1] 41 (0,0)) (by (with_reducible repeat (first|refine blk_drewN ?_ _|refine blk_drew ?_|refine blk_alloc ?_ _));exact BK262.out)) : gb262 ≠ gb264));have n6_:=Aside0.mk ((by rw [hg];exact Nat.ne_of_gt (blk_lt (g:=gb262) (o:=.cells #[.slice (some ad263) l0_0.length c0_0,.slice A0_1 l0_1.length c0_1] 41 (0,0)) (by (with_reducible repeat (first|refine blk_drewN ?_ _|refine blk_drew ?_|refine blk_alloc ?_ _));exact BK262.out)) : gb264 ≠ gb262));clear BK262;clear HB;have BK262:=n0_;have HB:=n1_;have BK264:=n2_;have GW264:=n3_;have GE264:=n4_;have NB262_264:=n5_;have NB264_262:=n6_;clear n0_ n1_ n2_ n3_ n4_ n5_ n6_;clear hb hbox hg;have hnb30:=NB264_262.out;have hnc30:=NB262_264.out;have hcz31_0 : w29.cell? ⟨gb264,0,none⟩ = some (.int .i64 0):=(blk_cell BK264.out 0).trans rfl;have hcz31_1 : w29.cell? ⟨gb264,1,none⟩ = some (.string (⟨#[]⟩ : ByteArray)):=(blk_cell BK264.out 1).trans rfl;have hcz31_2 : w29.cell? ⟨gb264,2,none⟩ = some (.int .i64 0):=(blk_cell BK264.out 2).trans rfl;have hcz31_3 : w29.cell? ⟨gb264,3,none⟩ = some (.slice none 0 0):=(blk_cell BK264.out 3).trans rfl;have hcz31_4 : w29.cell? ⟨gb264,4,none⟩ = some (.int .i64 0):=(blk_cell BK264.out 4).trans rfl;have hcz31_5 : w29.cell? ⟨gb264,5,none⟩ = some (.string (⟨#[]⟩ : ByteArray)):=(blk_cell BK264.out 5).trans rfl;have hcz31_6 : w29.cell? ⟨gb264,6,none⟩ = some (.int .i64 0):=(blk_cell BK264.out 6).trans rfl;have hcz31_7 : w29.cell? ⟨gb264,7,none⟩ = some (.slice none 0 0):=(blk_cell BK264.out 7).trans rfl;have hcz31_8 : w29.cell? ⟨gb264,8,none⟩ = some (.string (⟨#[]⟩ : ByteArray)):=(blk_cell BK264.out 8).trans rfl;have hfz31_0:=blk_frozen BK264.out 0;have hfz31_1:=blk_frozen BK264.out 1;have hfz31_2:=blk_frozen BK264.out 2;have hfz31_3:=blk_frozen BK264.out 3;have hfz31_4:=blk_frozen BK264.out 4;have hfz31_5:=blk_frozen BK264.out 5;have hfz31_6:=blk_frozen BK264.out 6;have hfz31_7:=blk_frozen BK264.out 7;have hfz31_8:=blk_frozen BK264.out 8)|((with_reducible refine gate_callee (f:=56) rfl ?_);refine goesL_ (some 14) rfl rfl Tryd.func56 (by kernel_rfl) rfl #[.agg #[.int .i64 ((rd_T48 l0_0 x8_1).f0.f0),.string ((rd_T48 l0_0 x8_1).f0.f1),.int .i64 ((rd_T48 l0_0 x8_1).f0.f2),.slice A263_3 ((rd_T48 l0_0 x8_1).f0.f3).length c263_3]] rfl (by (try simp only [List.map_toArray,List.map_cons,List.map_nil]);first|done|rfl|(simp only [List.length_drop,List.length_take];rfl)) ?_;(with_reducible refine (impl_TermOk.calls k1 ((rd_T48 l0_0 x8_1).f0.f0) ((rd_T48 l0_0 x8_1).f0.f1) ((rd_T48 l0_0 x8_1).f0.f2) _ _ ((rd_T48 l0_0 x8_1).f0.f3) true _ ?side1 ?side2 A7.out).mono ?_);(case side1 => exact Kd.C_below HR263_3.out (by repeat (first|(with_reducible first|exact HB.out|apply below_alloc|apply pw_below_drewN|apply below_drew1|refine below_set ?_ GE262.out|refine below_set ?_ GE264.out)|exact HB.out)));(case side2 => exact HC263_3.out);rintro e w32 ⟨rfl,hb⟩;refine ⟨_,rfl,?_⟩;have n0_:=Aside0.mk (blk_below (g:=gb262) (o:=.cells #[.slice (some ad263) l0_0.length c0_0,.slice A0_1 l0_1.length c0_1] 41 (0,0)) (by (with_reducible repeat (first|refine blk_drewN ?_ _|refine blk_drew ?_|refine blk_alloc ?_ _));refine blk_far ?_ NB262_264.out _;(with_reducible repeat (first|refine blk_drewN ?_ _|refine blk_drew ?_|refine blk_alloc ?_ _));refine blk_far ?_ NB262_264.out _;(with_reducible repeat (first|refine blk_drewN ?_ _|refine blk_drew ?_|refine blk_alloc ?_ _));refine blk_far ?_ NB262_264.out _;(with_reducible repeat (first|refine blk_drewN ?_ _|refine blk_drew ?_|refine blk_alloc ?_ _));refine blk_far ?_ NB262_264.out _;(with_reducible repeat (first|refine blk_drewN ?_ _|refine blk_drew ?_|refine blk_alloc ?_ _));refine blk_far ?_ NB262_264.out _;(with_reducible repeat (first|refine blk_drewN ?_ _|refine blk_drew ?_|refine blk_alloc ?_ _));refine blk_far ?_ NB262_264.out _;(with_reducible repeat (first|refine blk_drewN ?_ _|refine blk_drew ?_|refine blk_alloc ?_ _));refine blk_far ?_ NB262_264.out _;(with_reducible repeat (first|refine blk_drewN ?_ _|refine blk_drew ?_|refine blk_alloc ?_ _));refine blk_far ?_ NB262_264.out _;(with_reducible repeat (first|refine blk_drewN ?_ _|refine blk_drew ?_|refine blk_alloc ?_ _));refine blk_far ?_ NB262_264.out _;(with_reducible repeat (first|refine blk_drewN ?_ _|refine blk_drew ?_|refine blk_alloc ?_ _));exact BK262.out) hb);have n1_:=Aside0.mk (blk_below (g:=gb264) (o:=.cells #[.int .i64 ((rd_T48 l0_0 x8_1).f0.f0),.string ((rd_T48 l0_0 x8_1).f0.f1),.int .i64 ((rd_T48 l0_0 x8_1).f0.f2),.slice A263_3 ((rd_T48 l0_0 x8_1).f0.f3).length c263_3,.int .i64 ((rd_T48 l0_0 x8_1).f1.f0),.string ((rd_T48 l0_0 x8_1).f1.f1),.int .i64 ((rd_T48 l0_0 x8_1).f1.f2),.slice A263_7 ((rd_T48 l0_0 x8_1).f1.f3).length c263_7,.string ((rd_T48 l0_0 x8_1).f2)] 48 (0,0)) (by (with_reducible repeat (first|refine blk_drewN ?_ _|refine blk_drew ?_|refine blk_alloc ?_ _));refine blk_put (cs:=#[.int .i64 ((rd_T48 l0_0 x8_1).f0.f0),.string ((rd_T48 l0_0 x8_1).f0.f1),.int .i64 ((rd_T48 l0_0 x8_1).f0.f2),.slice A263_3 ((rd_T48 l0_0 x8_1).f0.f3).length c263_3,.int .i64 ((rd_T48 l0_0 x8_1).f1.f0),.string ((rd_T48 l0_0 x8_1).f1.f1),.int .i64 ((rd_T48 l0_0 x8_1).f1.f2),.slice A263_7 ((rd_T48 l0_0 x8_1).f1.f3).length c263_7,.string (⟨#[]⟩ : ByteArray)]) ?_ 8 _ rfl;(with_reducible repeat (first|refine blk_drewN ?_ _|refine blk_drew ?_|refine blk_alloc ?_ _));refine blk_put (cs:=#[.int .i64 ((rd_T48 l0_0 x8_1).f0.f0),.string ((rd_T48 l0_0 x8_1).f0.f1),.int .i64 ((rd_T48 l0_0 x8_1).f0.f2),.slice A263_3 ((rd_T48 l0_0 x8_1).f0.f3).length c263_3,.int .i64 ((rd_T48 l0_0 x8_1).f1.f0),.string ((rd_T48 l0_0 x8_1).f1.f1),.int .i64 ((rd_T48 l0_0 x8_1).f1.f2),.slice none 0 0,.string (⟨#[]⟩ : ByteArray)]) ?_ 7 _ rfl;(with_reducible repeat (first|refine blk_drewN ?_ _|refine blk_drew ?_|refine blk_alloc ?_ _));refine blk_put (cs:=#[.int .i64 ((rd_T48 l0_0 x8_1).f0.f0),.string ((rd_T48 l0_0 x8_1).f0.f1),.int .i64 ((rd_T48 l0_0 x8_1).f0.f2),.slice A263_3 ((rd_T48 l0_0 x8_1).f0.f3).length c263_3,.int .i64 ((rd_T48 l0_0 x8_1).f1.f0),.string ((rd_T48 l0_0 x8_1).f1.f1),.int .i64 0,.slice none 0 0,.string (⟨#[]⟩ : ByteArray)]) ?_ 6 _ rfl;(with_reducible repeat (first|refine blk_drewN ?_ _|refine blk_drew ?_|refine blk_alloc ?_ _));refine blk_put (cs:=#[.int .i64 ((rd_T48 l0_0 x8_1).f0.f0),.string ((rd_T48 l0_0 x8_1).f0.f1),.int .i64 ((rd_T48 l0_0 x8_1).f0.f2),.slice A263_3 ((rd_T48 l0_0 x8_1).f0.f3).length c263_3,.int .i64 ((rd_T48 l0_0 x8_1).f1.f0),.string (⟨#[]⟩ : ByteArray),.int .i64 0,.slice none 0 0,.string (⟨#[]⟩ : ByteArray)]) ?_ 5 _ rfl;(with_reducible repeat (first|refine blk_drewN ?_ _|refine blk_drew ?_|refine blk_alloc ?_ _));refine blk_put (cs:=#[.int .i64 ((rd_T48 l0_0 x8_1).f0.f0),.string ((rd_T48 l0_0 x8_1).f0.f1),.int .i64 ((rd_T48 l0_0 x8_1).f0.f2),.slice A263_3 ((rd_T48 l0_0 x8_1).f0.f3).length c263_3,.int .i64 0,.string (⟨#[]⟩ : ByteArray),.int .i64 0,.slice none 0 0,.string (⟨#[]⟩ : ByteArray)]) ?_ 4 _ rfl;(with_reducible repeat (first|refine blk_drewN ?_ _|refine blk_drew ?_|refine blk_alloc ?_ _));refine blk_put (cs:=#[.int .i64 ((rd_T48 l0_0 x8_1).f0.f0),.string ((rd_T48 l0_0 x8_1).f0.f1),.int .i64 ((rd_T48 l0_0 x8_1).f0.f2),.slice none 0 0,.int .i64 0,.string (⟨#[]⟩ : ByteArray),.int .i64 0,.slice none 0 0,.string (⟨#[]⟩ : ByteArray)]) ?_ 3 _ rfl;(with_reducible repeat (first|refine blk_drewN ?_ _|refine blk_drew ?_|refine blk_alloc ?_ _));refine blk_put (cs:=#[.int .i64 ((rd_T48 l0_0 x8_1).f0.f0),.string ((rd_T48 l0_0 x8_1).f0.f1),.int .i64 0,.slice none 0 0,.int .i64 0,.string (⟨#[]⟩ : ByteArray),.int .i64 0,.slice none 0 0,.string (⟨#[]⟩ : ByteArray)]) ?_ 2 _ rfl;(with_reducible repeat (first|refine blk_drewN ?_ _|refine blk_drew ?_|refine blk_alloc ?_ _));refine blk_put (cs:=#[.int .i64 ((rd_T48 l0_0 x8_1).f0.f0),.string (⟨#[]⟩ : ByteArray),.int .i64 0,.slice none 0 0,.int .i64 0,.string (⟨#[]⟩ : ByteArray),.int .i64 0,.slice none 0 0,.string (⟨#[]⟩ : ByteArray)]) ?_ 1 _ rfl;(with_reducible repeat (first|refine blk_drewN ?_ _|refine blk_drew ?_|refine blk_alloc ?_ _));refine blk_put (cs:=#[.int .i64 0,.string (⟨#[]⟩ : ByteArray),.int .i64 0,.slice none 0 0,.int .i64 0,.string (⟨#[]⟩ : ByteArray),.int .i64 0,.slice none 0 0,.string (⟨#[]⟩ : ByteArray)]) ?_ 0 _ rfl;(with_reducible repeat (first|refine blk_drewN ?_ _|refine blk_drew ?_|refine blk_alloc ?_ _));exact BK264.out) hb);have n2_:=Aside0.mk (below_step (by repeat (first|(with_reducible first|exact HB.out|apply below_alloc|apply pw_below_drewN|apply below_drew1|refine below_set ?_ GE262.out|refine below_set ?_ GE264.out)|exact HB.out)) hb);clear BK262;clear BK264;clear HB;have BK262:=n0_;have BK264:=n1_;have HB:=n2_;clear n0_ n1_ n2_;(try clear hb);(try clear hb2);(try clear hk);(try clear hi);have hcz33_0 : w32.cell? ⟨gb264,0,none⟩ = some (.int .i64 ((rd_T48 l0_0 x8_1).f0.f0)):=(blk_cell BK264.out 0).trans rfl;have hcz33_1 : w32.cell? ⟨gb264,1,none⟩ = some (.string ((rd_T48 l0_0 x8_1).f0.f1)):=(blk_cell BK264.out 1).trans rfl;have hcz33_2 : w32.cell? ⟨gb264,2,none⟩ = some (.int .i64 ((rd_T48 l0_0 x8_1).f0.f2)):=(blk_cell BK264.out 2).trans rfl;have hcz33_3 : w32.cell? ⟨gb264,3,none⟩ = some (.slice A263_3 ((rd_T48 l0_0 x8_1).f0.f3).length c263_3):=(blk_cell BK264.out 3).trans rfl;have hcz33_4 : w32.cell? ⟨gb264,4,none⟩ = some (.int .i64 ((rd_T48 l0_0 x8_1).f1.f0)):=(blk_cell BK264.out 4).trans rfl;have hcz33_5 : w32.cell? ⟨gb264,5,none⟩ = some (.string ((rd_T48 l0_0 x8_1).f1.f1)):=(blk_cell BK264.out 5).trans rfl;have hcz33_6 : w32.cell? ⟨gb264,6,none⟩ = some (.int .i64 ((rd_T48 l0_0 x8_1).f1.f2)):=(blk_cell BK264.out 6).trans rfl;have hcz33_7 : w32.cell? ⟨gb264,7,none⟩ = some (.slice A263_7 ((rd_T48 l0_0 x8_1).f1.f3).length c263_7):=(blk_cell BK264.out 7).trans rfl;have hcz33_8 : w32.cell? ⟨gb264,8,none⟩ = some (.string ((rd_T48 l0_0 x8_1).f2)):=(blk_cell BK264.out 8).trans rfl;have hfz33_0:=blk_frozen BK264.out 0;have hfz33_1:=blk_frozen BK264.out 1;have hfz33_2:=blk_frozen BK264.out 2;have hfz33_3:=blk_frozen BK264.out 3;have hfz33_4:=blk_frozen BK264.out 4;have hfz33_5:=blk_frozen BK264.out 5;have hfz33_6:=blk_frozen BK264.out 6;have hfz33_7:=blk_frozen BK264.out 7;have hfz33_8:=blk_frozen BK264.out 8)|(go_at_call 56;(with_reducible refine (impl_TermOk.calls k1 ((rd_T48 l0_0 x8_1).f1.f0) ((rd_T48 l0_0 x8_1).f1.f1) ((rd_T48 l0_0 x8_1).f1.f2) _ _ ((rd_T48 l0_0 x8_1).f1.f3) false _ ?side1 ?side2 A9.out).mono ?_);(case side1 => repeat (first|exact (Kd.C_below HR263_7.out HB.out)|(with_reducible refine Kd.C_alloc ?_ _)|(with_reducible refine Kd.C_drewN ?_ _)|(with_reducible refine Kd.C_drew ?_)));(case side2 => exact HC263_7.out);rintro e w34 ⟨rfl,hb⟩;have n0_:=Aside0.mk (blk_below (g:=gb262) (o:=.cells #[.slice (some ad263) l0_0.length c0_0,.slice A0_1 l0_1.length c0_1] 41 (0,0)) (by (with_reducible repeat (first|refine blk_drewN ?_ _|refine blk_drew ?_|refine blk_alloc ?_ _));exact BK262.out) hb);have n1_:=Aside0.mk (blk_below (g:=gb264) (o:=.cells #[.int .i64 ((rd_T48 l0_0 x8_1).f0.f0),.string ((rd_T48 l0_0 x8_1).f0.f1),.int .i64 ((rd_T48 l0_0 x8_1).f0.f2),.slice A263_3 ((rd_T48 l0_0 x8_1).f0.f3).length c263_3,.int .i64 ((rd_T48 l0_0 x8_1).f1.f0),.string ((rd_T48 l0_0 x8_1).f1.f1),.int .i64 ((rd_T48 l0_0 x8_1).f1.f2),.slice A263_7 ((rd_T48 l0_0 x8_1).f1.f3).length c263_7,.string ((rd_T48 l0_0 x8_1).f2)] 48 (0,0)) (by (with_reducible repeat (first|refine blk_drewN ?_ _|refine blk_drew ?_|refine blk_alloc ?_ _));exact BK264.out) hb);have n2_:=Aside0.mk (below_step (by repeat (first|(with_reducible first|exact HB.out|apply below_alloc|apply pw_below_drewN|apply below_drew1|refine below_set ?_ GE262.out|refine below_set ?_ GE264.out)|exact HB.out)) hb);clear BK262;clear BK264;clear HB;have BK262:=n0_;have BK264:=n1_;have HB:=n2_;clear n0_ n1_ n2_;(try clear hb)))
      go_ret
      exact ⟨by first|rfl|(simp [errW_none,errW_some] <;> rfl)|(simp [*,errW_none,errW_some] <;> rfl),by repeat (first|(with_reducible first|exact HB.out|apply below_alloc|apply pw_below_drewN|apply below_drew1|refine below_set ?_ GE262.out|refine below_set ?_ GE264.out)|exact HB.out)⟩
    ·replace c8:=Bool.eq_false_iff.mpr c8
     subst c8
     have H1 : (some false) = some r:=by rw [if_neg (show ¬ (false = true) by decide)] at H;exact H
     clear H
     have H:=H1
     clear H1
     obtain rfl:=Option.some.inj H
     have p263 : 0 ≤ (x8_1 : Int):=of_decide_eq_true (by first|(with_reducible assumption)|assumption)
     have q263 : x8_1 < (l0_0.length : Int):=of_decide_eq_true (by first|(with_reducible assumption)|assumption)
     obtain ⟨ad263,A263_3,c263_3,A263_7,c263_7,e263,hx263_0,hx263_1,hx263_2,hx263_3,hx263_4,hx263_5,hx263_6,hx263_7,hx263_8,hl263_3,hi263_3,hl263_7,hi263_7⟩:=at_T48 HR0_0.out x8_1 p263 q263
     cases e263
     replace hx263_0:=(HB.out.cell (World.block_lt_of_cell? w _ hx263_0)).trans hx263_0
     replace hx263_1:=(HB.out.cell (World.block_lt_of_cell? w _ hx263_1)).trans hx263_1
     replace hx263_2:=(HB.out.cell (World.block_lt_of_cell? w _ hx263_2)).trans hx263_2
     replace hx263_3:=(HB.out.cell (World.block_lt_of_cell? w _ hx263_3)).trans hx263_3
     replace hx263_4:=(HB.out.cell (World.block_lt_of_cell? w _ hx263_4)).trans hx263_4
     replace hx263_5:=(HB.out.cell (World.block_lt_of_cell? w _ hx263_5)).trans hx263_5
     replace hx263_6:=(HB.out.cell (World.block_lt_of_cell? w _ hx263_6)).trans hx263_6
     replace hx263_7:=(HB.out.cell (World.block_lt_of_cell? w _ hx263_7)).trans hx263_7
     replace hx263_8:=(HB.out.cell (World.block_lt_of_cell? w _ hx263_8)).trans hx263_8
     have HR263_3:=Aside0.mk hi263_3
     have HC263_3:=Aside0.mk hl263_3
     clear hi263_3 hl263_3
     have HR263_7:=Aside0.mk hi263_7
     have HC263_7:=Aside0.mk hl263_7
     clear hi263_7 hl263_7
     replace p263:=eq_true p263
     replace q263:=eq_true q263
     go_wp2_with (first|((with_reducible refine gate_dst (N:=4) rfl ?_);(try (refine gate_guard (by rfl) ?_;dsimp only));refine box_event ?hg (N:=4) ?hd (cs:=#[.int .i64 0,.string (⟨#[]⟩ : ByteArray),.int .i64 0,.slice none 0 0,.int .i64 0,.string (⟨#[]⟩ : ByteArray),.int .i64 0,.slice none 0 0,.string (⟨#[]⟩ : ByteArray)]) (t:=48) ?hr ?_;(case hd => rfl);(case hg => rfl);(case hr => first|(go_simp;done)|(go_simp;rfl));intro gb264 hg w35 hbox hb;have n0_:=Aside0.mk (blk_below (g:=gb262) (o:=.cells #[.slice (some ad263) l0_0.length c0_0,.slice A0_1 l0_1.length c0_1] 41 (0,0)) (by (with_reducible repeat (first|refine blk_drewN ?_ _|refine blk_drew ?_|refine blk_alloc ?_ _));exact BK262.out) hb);have n1_:=Aside0.mk (below_step (by repeat (first|(with_reducible first|exact HB.out|apply below_alloc|apply pw_below_drewN|apply below_drew1|refine below_set ?_ GE262.out)|exact HB.out)) hb);have n2_:=Aside0.mk (hbox);have n3_:=Aside0.mk ((by rw [hg];exact (below_size (by repeat (first|(with_reducible first|exact HB.out|apply below_alloc|apply pw_below_drewN|apply below_drew1|refine below_set ?_ GE262.out)|exact HB.out))) : w.heap.size ≤ gb264));have n4_:=Aside0.mk ((by rw [hg];exact (below_size (by repeat (first|(with_reducible first|exact HB.out|apply below_alloc|apply pw_below_drewN|apply below_drew1|refine below_set ?_ GE262.out)|exact HB.out))) : w.heap.size ≤ gb264));have n5_:=Aside0.mk ((by rw [hg];exact Nat.ne_of_lt (blk_lt (g:=gb262) (o:=.cells #[.slice (some ad263) l0_0.length c0_0,.slice A0_1 l0_1.length c0_1] 41 (0,0)) (by (with_reducible repeat (first|refine blk_drewN ?_ _|refine blk_drew ?_|refine blk_alloc ?_ _));exact BK262.out)) : gb262 ≠ gb264));have n6_:=Aside0.mk ((by rw [hg];exact Nat.ne_of_gt (blk_lt (g:=gb262) (o:=.cells #[.slice (some ad263) l0_0.length c0_0,.slice A0_1 l0_1.length c0_1] 41 (0,0)) (by (with_reducible repeat (first|refine blk_drewN ?_ _|refine blk_drew ?_|refine blk_alloc ?_ _));exact BK262.out)) : gb264 ≠ gb262));clear BK262;clear HB;have BK262:=n0_;have HB:=n1_;have BK264:=n2_;have GW264:=n3_;have GE264:=n4_;have NB262_264:=n5_;have NB264_262:=n6_;clear n0_ n1_ n2_ n3_ n4_ n5_ n6_;clear hb hbox hg;have hnb36:=NB264_262.out;have hnc36:=NB262_264.out;have hcz37_0 : w35.cell? ⟨gb264,0,none⟩ = some (.int .i64 0):=(blk_cell BK264.out 0).trans rfl;have hcz37_1 : w35.cell? ⟨gb264,1,none⟩ = some (.string (⟨#[]⟩ : ByteArray)):=(blk_cell BK264.out 1).trans rfl;have hcz37_2 : w35.cell? ⟨gb264,2,none⟩ = some (.int .i64 0):=(blk_cell BK264.out 2).trans rfl;have hcz37_3 : w35.cell? ⟨gb264,3,none⟩ = some (.slice none 0 0):=(blk_cell BK264.out 3).trans rfl;have hcz37_4 : w35.cell? ⟨gb264,4,none⟩ = some (.int .i64 0):=(blk_cell BK264.out 4).trans rfl;have hcz37_5 : w35.cell? ⟨gb264,5,none⟩ = some (.string (⟨#[]⟩ : ByteArray)):=(blk_cell BK264.out 5).trans rfl;have hcz37_6 : w35.cell? ⟨gb264,6,none⟩ = some (.int .i64 0):=(blk_cell BK264.out 6).trans rfl;have hcz37_7 : w35.cell? ⟨gb264,7,none⟩ = some (.slice none 0 0):=(blk_cell BK264.out 7).trans rfl;have hcz37_8 : w35.cell? ⟨gb264,8,none⟩ = some (.string (⟨#[]⟩ : ByteArray)):=(blk_cell BK264.out 8).trans rfl;have hfz37_0:=blk_frozen BK264.out 0;have hfz37_1:=blk_frozen BK264.out 1;have hfz37_2:=blk_frozen BK264.out 2;have hfz37_3:=blk_frozen BK264.out 3;have hfz37_4:=blk_frozen BK264.out 4;have hfz37_5:=blk_frozen BK264.out 5;have hfz37_6:=blk_frozen BK264.out 6;have hfz37_7:=blk_frozen BK264.out 7;have hfz37_8:=blk_frozen BK264.out 8)|((with_reducible refine gate_callee (f:=56) rfl ?_);refine goesL_ (some 14) rfl rfl Tryd.func56 (by kernel_rfl) rfl #[.agg #[.int .i64 ((rd_T48 l0_0 x8_1).f0.f0),.string ((rd_T48 l0_0 x8_1).f0.f1),.int .i64 ((rd_T48 l0_0 x8_1).f0.f2),.slice A263_3 ((rd_T48 l0_0 x8_1).f0.f3).length c263_3]] rfl (by (try simp only [List.map_toArray,List.map_cons,List.map_nil]);first|done|rfl|(simp only [List.length_drop,List.length_take];rfl)) ?_;(with_reducible refine (impl_TermOk.calls k1 ((rd_T48 l0_0 x8_1).f0.f0) ((rd_T48 l0_0 x8_1).f0.f1) ((rd_T48 l0_0 x8_1).f0.f2) _ _ ((rd_T48 l0_0 x8_1).f0.f3) false _ ?side1 ?side2 A7.out).mono ?_);(case side1 => exact Kd.C_below HR263_3.out (by repeat (first|(with_reducible first|exact HB.out|apply below_alloc|apply pw_below_drewN|apply below_drew1|refine below_set ?_ GE262.out|refine below_set ?_ GE264.out)|exact HB.out)));(case side2 => exact HC263_3.out);rintro e w38 ⟨rfl,hb⟩;refine ⟨_,rfl,?_⟩;have n0_:=Aside0.mk (blk_below (g:=gb262) (o:=.cells #[.slice (some ad263) l0_0.length c0_0,.slice A0_1 l0_1.length c0_1] 41 (0,0)) (by (with_reducible repeat (first|refine blk_drewN ?_ _|refine blk_drew ?_|refine blk_alloc ?_ _));refine blk_far ?_ NB262_264.out _;(with_reducible repeat (first|refine blk_drewN ?_ _|refine blk_drew ?_|refine blk_alloc ?_ _));refine blk_far ?_ NB262_264.out _;(with_reducible repeat (first|refine blk_drewN ?_ _|refine blk_drew ?_|refine blk_alloc ?_ _));refine blk_far ?_ NB262_264.out _;(with_reducible repeat (first|refine blk_drewN ?_ _|refine blk_drew ?_|refine blk_alloc ?_ _));refine blk_far ?_ NB262_264.out _;(with_reducible repeat (first|refine blk_drewN ?_ _|refine blk_drew ?_|refine blk_alloc ?_ _));refine blk_far ?_ NB262_264.out _;(with_reducible repeat (first|refine blk_drewN ?_ _|refine blk_drew ?_|refine blk_alloc ?_ _));refine blk_far ?_ NB262_264.out _;(with_reducible repeat (first|refine blk_drewN ?_ _|refine blk_drew ?_|refine blk_alloc ?_ _));refine blk_far ?_ NB262_264.out _;(with_reducible repeat (first|refine blk_drewN ?_ _|refine blk_drew ?_|refine blk_alloc ?_ _));refine blk_far ?_ NB262_264.out _;(with_reducible repeat (first|refine blk_drewN ?_ _|refine blk_drew ?_|refine blk_alloc ?_ _));refine blk_far ?_ NB262_264.out _;(with_reducible repeat (first|refine blk_drewN ?_ _|refine blk_drew ?_|refine blk_alloc ?_ _));exact BK262.out) hb);have n1_:=Aside0.mk (blk_below (g:=gb264) (o:=.cells #[.int .i64 ((rd_T48 l0_0 x8_1).f0.f0),.string ((rd_T48 l0_0 x8_1).f0.f1),.int .i64 ((rd_T48 l0_0 x8_1).f0.f2),.slice A263_3 ((rd_T48 l0_0 x8_1).f0.f3).length c263_3,.int .i64 ((rd_T48 l0_0 x8_1).f1.f0),.string ((rd_T48 l0_0 x8_1).f1.f1),.int .i64 ((rd_T48 l0_0 x8_1).f1.f2),.slice A263_7 ((rd_T48 l0_0 x8_1).f1.f3).length c263_7,.string ((rd_T48 l0_0 x8_1).f2)] 48 (0,0)) (by (with_reducible repeat (first|refine blk_drewN ?_ _|refine blk_drew ?_|refine blk_alloc ?_ _));refine blk_put (cs:=#[.int .i64 ((rd_T48 l0_0 x8_1).f0.f0),.string ((rd_T48 l0_0 x8_1).f0.f1),.int .i64 ((rd_T48 l0_0 x8_1).f0.f2),.slice A263_3 ((rd_T48 l0_0 x8_1).f0.f3).length c263_3,.int .i64 ((rd_T48 l0_0 x8_1).f1.f0),.string ((rd_T48 l0_0 x8_1).f1.f1),.int .i64 ((rd_T48 l0_0 x8_1).f1.f2),.slice A263_7 ((rd_T48 l0_0 x8_1).f1.f3).length c263_7,.string (⟨#[]⟩ : ByteArray)]) ?_ 8 _ rfl;(with_reducible repeat (first|refine blk_drewN ?_ _|refine blk_drew ?_|refine blk_alloc ?_ _));refine blk_put (cs:=#[.int .i64 ((rd_T48 l0_0 x8_1).f0.f0),.string ((rd_T48 l0_0 x8_1).f0.f1),.int .i64 ((rd_T48 l0_0 x8_1).f0.f2),.slice A263_3 ((rd_T48 l0_0 x8_1).f0.f3).length c263_3,.int .i64 ((rd_T48 l0_0 x8_1).f1.f0),.string ((rd_T48 l0_0 x8_1).f1.f1),.int .i64 ((rd_T48 l0_0 x8_1).f1.f2),.slice none 0 0,.string (⟨#[]⟩ : ByteArray)]) ?_ 7 _ rfl;(with_reducible repeat (first|refine blk_drewN ?_ _|refine blk_drew ?_|refine blk_alloc ?_ _));refine blk_put (cs:=#[.int .i64 ((rd_T48 l0_0 x8_1).f0.f0),.string ((rd_T48 l0_0 x8_1).f0.f1),.int .i64 ((rd_T48 l0_0 x8_1).f0.f2),.slice A263_3 ((rd_T48 l0_0 x8_1).f0.f3).length c263_3,.int .i64 ((rd_T48 l0_0 x8_1).f1.f0),.string ((rd_T48 l0_0 x8_1).f1.f1),.int .i64 0,.slice none 0 0,.string (⟨#[]⟩ : ByteArray)]) ?_ 6 _ rfl;(with_reducible repeat (first|refine blk_drewN ?_ _|refine blk_drew ?_|refine blk_alloc ?_ _));refine blk_put (cs:=#[.int .i64 ((rd_T48 l0_0 x8_1).f0.f0),.string ((rd_T48 l0_0 x8_1).f0.f1),.int .i64 ((rd_T48 l0_0 x8_1).f0.f2),.slice A263_3 ((rd_T48 l0_0 x8_1).f0.f3).length c263_3,.int .i64 ((rd_T48 l0_0 x8_1).f1.f0),.string (⟨#[]⟩ : ByteArray),.int .i64 0,.slice none 0 0,.string (⟨#[]⟩ : ByteArray)]) ?_ 5 _ rfl;(with_reducible repeat (first|refine blk_drewN ?_ _|refine blk_drew ?_|refine blk_alloc ?_ _));refine blk_put (cs:=#[.int .i64 ((rd_T48 l0_0 x8_1).f0.f0),.string ((rd_T48 l0_0 x8_1).f0.f1),.int .i64 ((rd_T48 l0_0 x8_1).f0.f2),.slice A263_3 ((rd_T48 l0_0 x8_1).f0.f3).length c263_3,.int .i64 0,.string (⟨#[]⟩ : ByteArray),.int .i64 0,.slice none 0 0,.string (⟨#[]⟩ : ByteArray)]) ?_ 4 _ rfl;(with_reducible repeat (first|refine blk_drewN ?_ _|refine blk_drew ?_|refine blk_alloc ?_ _));refine blk_put (cs:=#[.int .i64 ((rd_T48 l0_0 x8_1).f0.f0),.string ((rd_T48 l0_0 x8_1).f0.f1),.int .i64 ((rd_T48 l0_0 x8_1).f0.f2),.slice none 0 0,.int .i64 0,.string (⟨#[]⟩ : ByteArray),.int .i64 0,.slice none 0 0,.string (⟨#[]⟩ : ByteArray)]) ?_ 3 _ rfl;(with_reducible repeat (first|refine blk_drewN ?_ _|refine blk_drew ?_|refine blk_alloc ?_ _));refine blk_put (cs:=#[.int .i64 ((rd_T48 l0_0 x8_1).f0.f0),.string ((rd_T48 l0_0 x8_1).f0.f1),.int .i64 0,.slice none 0 0,.int .i64 0,.string (⟨#[]⟩ : ByteArray),.int .i64 0,.slice none 0 0,.string (⟨#[]⟩ : ByteArray)]) ?_ 2 _ rfl;(with_reducible repeat (first|refine blk_drewN ?_ _|refine blk_drew ?_|refine blk_alloc ?_ _));refine blk_put (cs:=#[.int .i64 ((rd_T48 l0_0 x8_1).f0.f0),.string (⟨#[]⟩ : ByteArray),.int .i64 0,.slice none 0 0,.int .i64 0,.string (⟨#[]⟩ : ByteArray),.int .i64 0,.slice none 0 0,.string (⟨#[]⟩ : ByteArray)]) ?_ 1 _ rfl;(with_reducible repeat (first|refine blk_drewN ?_ _|refine blk_drew ?_|refine blk_alloc ?_ _));refine blk_put (cs:=#[.int .i64 0,.string (⟨#[]⟩ : ByteArray),.int .i64 0,.slice none 0 0,.int .i64 0,.string (⟨#[]⟩ : ByteArray),.int .i64 0,.slice none 0 0,.string (⟨#[]⟩ : ByteArray)]) ?_ 0 _ rfl;(with_reducible repeat (first|refine blk_drewN ?_ _|refine blk_drew ?_|refine blk_alloc ?_ _));exact BK264.out) hb);have n2_:=Aside0.mk (below_step (by repeat (first|(with_reducible first|exact HB.out|apply below_alloc|apply pw_below_drewN|apply below_drew1|refine below_set ?_ GE262.out|refine below_set ?_ GE264.out)|exact HB.out)) hb);clear BK262;clear BK264;clear HB;have BK262:=n0_;have BK264:=n1_;have HB:=n2_;clear n0_ n1_ n2_;(try clear hb)))
     go_ret
     exact ⟨by first|rfl|(simp [errW_none,errW_some] <;> rfl)|(simp [*,errW_none,errW_some] <;> rfl),by repeat (first|(with_reducible first|exact HB.out|apply below_alloc|apply pw_below_drewN|apply below_drew1|refine below_set ?_ GE262.out|refine below_set ?_ GE264.out)|exact HB.out)⟩
   ·rw [if_neg c4] at H
    have c4b0 : decide (x8_1 < (l0_0.length : Int)) = false:=decide_eq_false c4
    clear c4
    by_cases c39 : (l0_0.length : Int) ≤ 120
    ·rw [if_pos c39] at H
     have c39b0 : decide ((l0_0.length : Int) ≤ 120) = true:=decide_eq_true c39
     have c39b1 : decide (l0_0.length ≤ 120) = true:=decide_eq_true (by omega)
     clear c39
     obtain rfl:=Option.some.inj H
     have hcz40_0 : wr.cell? ⟨gb262,0,none⟩ = some (.slice A0_0 l0_0.length c0_0):=(blk_cell BK262.out 0).trans rfl
     have hcz40_1 : wr.cell? ⟨gb262,1,none⟩ = some (.slice A0_1 l0_1.length c0_1):=(blk_cell BK262.out 1).trans rfl
     have hfz40_0:=blk_frozen BK262.out 0
     have hfz40_1:=blk_frozen BK262.out 1
     go_wp2
     go_ret
     exact ⟨by first|rfl|(simp [errW_none,errW_some] <;> rfl)|(simp [*,errW_none,errW_some] <;> rfl),by repeat (first|(with_reducible first|exact HB.out|apply below_alloc|apply pw_below_drewN|apply below_drew1|refine below_set ?_ GE262.out)|exact HB.out)⟩
    ·rw [if_neg c39] at H
     have c39b0 : decide ((l0_0.length : Int) ≤ 120) = false:=decide_eq_false c39
     have c39b1 : decide (l0_0.length ≤ 120) = false:=decide_eq_false (by omega)
     clear c39
     obtain rfl:=Option.some.inj H
     have hcz41_0 : wr.cell? ⟨gb262,0,none⟩ = some (.slice A0_0 l0_0.length c0_0):=(blk_cell BK262.out 0).trans rfl
     have hcz41_1 : wr.cell? ⟨gb262,1,none⟩ = some (.slice A0_1 l0_1.length c0_1):=(blk_cell BK262.out 1).trans rfl
     have hfz41_0:=blk_frozen BK262.out 0
     have hfz41_1:=blk_frozen BK262.out 1
     go_wp2
     go_ret
     exact ⟨by first|rfl|(simp [errW_none,errW_some] <;> rfl)|(simp [*,errW_none,errW_some] <;> rfl),by repeat (first|(with_reducible first|exact HB.out|apply below_alloc|apply pw_below_drewN|apply below_drew1|refine below_set ?_ GE262.out)|exact HB.out)⟩

end Go.Proofs.YtojedbogbodkiaaDoor.KDb
