/- Of this claim's own making; what nothing names is struck (fewall.py). -/
import Derived.Test.YtojedbogbodkiaaDoorKCox0
import Derived.Test.YtojedbogbodkiaaDoorKCox3
namespace Go.Proofs.YtojedbogbodkiaaDoor.KCo
open Go.RowKit Go.Proofs.YtojedbogbodkiaaDoorW.PrintWords Go.Proofs.YtojedbogbodkiaaDoorW.PrintLast Go.Proofs.YtojedbogbodkiaaDoorW.PrintMore
attribute [local go_sem] max2_int min2_int max_two min_two max_three min_three max_four min_four   -- for this text's walks alone
set_option linter.unusedVariables false
set_option linter.unusedSimpArgs false
set_option linter.unusedSectionVars false
variable [fk_laws_szTerm] [fk_laws_eqTerm] [fk_spec_l34Term] [fk_strconv_Itoa]
def spec_l08Head.f (k : Nat) (a0_0 : Int) (a0_1 : ByteArray) (a0_2 : Int) (l0_3 : List (S29)) : Option (Bool):=(spec_PredOf.f k a0_0 a0_1 a0_2 l0_3).bind fun t140 => (if t140.toList = ([] : List UInt8) then (some false) else ((spec_Control.f k t140).bind fun t141 => (some (!t141))))
theorem spec_l08Head.mono : ∀ a0 a1 a2 a3 k,LeO (spec_l08Head.f k a0 a1 a2 a3) (spec_l08Head.f (k + 1) a0 a1 a2 a3):=by
 intro a0 a1 a2 a3 k
 unfold spec_l08Head.f
 repeat' first
   | (with_reducible exact spec_Control.mono _ _)
   | (with_reducible exact spec_PredOf.mono _ _ _ _ _)
   | (with_reducible exact LeO.refl _)
   | (with_reducible exact LeO.none _)
   | (with_reducible refine LeO.ite ?_ ?_)
   | (with_reducible refine LeO.bind ?_ (fun _ => ?_))
   | exact spec_Control.mono _ _
   | exact spec_PredOf.mono _ _ _ _ _
   | exact LeO.none _
   | refine LeO.ite ?_ ?_
   | refine LeO.bind ?_ (fun _ => ?_)
set_option maxHeartbeats 8000000 in
set_option maxRecDepth 100000 in
theorem spec_l08Head.calls (k : Nat) (a0_0 : Int) (a0_1 : ByteArray) (a0_2 : Int) (A0_3 : Option Addr) (c0_3 : Nat) (l0_3 : List (S29)) (r : Bool) (w : World) (hr0_3 : Kd.C k29 w A0_3 l0_3.length l0_3) (hc0_3 : l0_3.length ≤ c0_3) (h : spec_l08Head.f k a0_0 a0_1 a0_2 l0_3 = some r) :
  Calls Tryd.prog 87 #[.agg #[.int .i64 a0_0,.string a0_1,.int .i64 a0_2,.slice A0_3 l0_3.length c0_3]] w fun e w' => e = .returned (.bool r) ∧ Below w.heap.size w w':=by
 have hu29:=Tryd.underlying29
 have HR0_3:=Aside0.mk hr0_3
 have HC0_3:=Aside0.mk hc0_3
 clear hr0_3 hc0_3
 have HB:=Aside0.mk (Below.refl w.heap.size w)
 have H : ((spec_PredOf.f k a0_0 a0_1 a0_2 l0_3).bind fun t140 => (if t140.toList = ([] : List UInt8) then (some false) else ((spec_Control.f k t140).bind fun t141 => (some (!t141))))) = some r:=h
 clear h
 replace H:=Option.bind_eq_some_iff.mp H
 obtain ⟨t140,A20,H⟩:=H
 replace H : (if t140.toList = ([] : List UInt8) then (some false) else ((spec_Control.f k t140).bind fun t141 => (some (!t141)))) = some r:=H
 have A2:=Aside0.mk A20
 clear A20
 by_cases c3 : t140.toList = ([] : List UInt8)
 ·rw [if_pos c3] at H
  have c3b0 : (t140.toList == ([] : List UInt8)) = true:=beq_iff_eq.mpr c3
  have c3b1 : (t140.toList != ([] : List UInt8)) = false:=bne_eq_false_iff_eq.mpr c3
  clear c3
  obtain rfl:=Option.some.inj H
  go_enter Tryd.func87,Tryd.ntmps87
  go_wp2_with (first|((with_reducible refine gate_dst (N:=1) rfl ?_);refine box_event ?hg (N:=1) ?hd (cs:=#[.int .i64 a0_0,.string a0_1,.int .i64 a0_2,.slice A0_3 l0_3.length c0_3]) (t:=29) ?hr ?_;(case hd => rfl);(case hg => rfl);(case hr => first|(go_simp;done)|(go_simp;rfl));intro gb139 hg w4 hbox hb;have n0_:=Aside0.mk (below_step (by repeat (first|(with_reducible first|exact HB.out|apply below_alloc|apply pw_below_drewN|apply below_drew1)|exact HB.out)) hb);have n1_:=Aside0.mk (hbox);have n2_:=Aside0.mk ((by rw [hg];exact (below_size (by repeat (first|(with_reducible first|exact HB.out|apply below_alloc|apply pw_below_drewN|apply below_drew1)|exact HB.out))) : w.heap.size ≤ gb139));have n3_:=Aside0.mk ((by rw [hg];exact (below_size (by repeat (first|(with_reducible first|exact HB.out|apply below_alloc|apply pw_below_drewN|apply below_drew1)|exact HB.out))) : w.heap.size ≤ gb139));clear HB;have HB:=n0_;have BK139:=n1_;have GW139:=n2_;have GE139:=n3_;clear n0_ n1_ n2_ n3_;clear hb hbox hg;have hcz5_0 : w4.cell? ⟨gb139,0,none⟩ = some (.int .i64 a0_0):=(blk_cell BK139.out 0).trans rfl;have hcz5_1 : w4.cell? ⟨gb139,1,none⟩ = some (.string a0_1):=(blk_cell BK139.out 1).trans rfl;have hcz5_2 : w4.cell? ⟨gb139,2,none⟩ = some (.int .i64 a0_2):=(blk_cell BK139.out 2).trans rfl;have hcz5_3 : w4.cell? ⟨gb139,3,none⟩ = some (.slice A0_3 l0_3.length c0_3):=(blk_cell BK139.out 3).trans rfl;have hfz5_0:=blk_frozen BK139.out 0;have hfz5_1:=blk_frozen BK139.out 1;have hfz5_2:=blk_frozen BK139.out 2;have hfz5_3:=blk_frozen BK139.out 3)|((with_reducible refine gate_callee (f:=11) rfl ?_);refine goesL_ (some 5) rfl rfl Tryd.func11 (by kernel_rfl) rfl #[.agg #[.int .i64 a0_0,.string a0_1,.int .i64 a0_2,.slice A0_3 l0_3.length c0_3]] rfl (by (try simp only [List.map_toArray,List.map_cons,List.map_nil]);first|done|rfl|(simp only [List.length_drop,List.length_take];rfl)) ?_;(with_reducible refine (spec_PredOf.calls k a0_0 a0_1 a0_2 _ _ l0_3 t140 _ ?side1 ?side2 A2.out).mono ?_);(case side1 => repeat (first|exact (Kd.C_below HR0_3.out HB.out)|(with_reducible refine Kd.C_alloc ?_ _)|(with_reducible refine Kd.C_drewN ?_ _)|(with_reducible refine Kd.C_drew ?_)));(case side2 => exact HC0_3.out);rintro e w6 ⟨rfl,hb⟩;refine ⟨_,rfl,?_⟩;have n0_:=Aside0.mk (blk_below (g:=gb139) (o:=.cells #[.int .i64 a0_0,.string a0_1,.int .i64 a0_2,.slice A0_3 l0_3.length c0_3] 29 (0,0)) (by (with_reducible repeat (first|refine blk_drewN ?_ _|refine blk_drew ?_|refine blk_alloc ?_ _));exact BK139.out) hb);have n1_:=Aside0.mk (below_step (by repeat (first|(with_reducible first|exact HB.out|apply below_alloc|apply pw_below_drewN|apply below_drew1|refine below_set ?_ GE139.out)|exact HB.out)) hb);clear BK139;clear HB;have BK139:=n0_;have HB:=n1_;clear n0_ n1_;(try clear hb)))
  go_ret
  exact ⟨by first|rfl|(simp [errW_none,errW_some] <;> rfl)|(simp [*,errW_none,errW_some] <;> rfl),by repeat (first|(with_reducible first|exact HB.out|apply below_alloc|apply pw_below_drewN|apply below_drew1|refine below_set ?_ GE139.out)|exact HB.out)⟩
 ·rw [if_neg c3] at H
  have c3b0 : (t140.toList == ([] : List UInt8)) = false:=beq_eq_false_iff_ne.mpr c3
  have c3b1 : (t140.toList != ([] : List UInt8)) = true:=bne_iff_ne.mpr c3
  replace H:=Option.bind_eq_some_iff.mp H
  obtain ⟨t141,A70,H⟩:=H
  replace H : (some (!t141)) = some r:=H
  have A7:=Aside0.mk A70
  clear A70
  obtain rfl:=Option.some.inj H
  go_enter Tryd.func87,Tryd.ntmps87
  go_wp2_with (first|((with_reducible refine gate_dst (N:=1) rfl ?_);refine box_event ?hg (N:=1) ?hd (cs:=#[.int .i64 a0_0,.string a0_1,.int .i64 a0_2,.slice A0_3 l0_3.length c0_3]) (t:=29) ?hr ?_;(case hd => rfl);(case hg => rfl);(case hr => first|(go_simp;done)|(go_simp;rfl));intro gb139 hg w8 hbox hb;have n0_:=Aside0.mk (below_step (by repeat (first|(with_reducible first|exact HB.out|apply below_alloc|apply pw_below_drewN|apply below_drew1)|exact HB.out)) hb);have n1_:=Aside0.mk (hbox);have n2_:=Aside0.mk ((by rw [hg];exact (below_size (by repeat (first|(with_reducible first|exact HB.out|apply below_alloc|apply pw_below_drewN|apply below_drew1)|exact HB.out))) : w.heap.size ≤ gb139));have n3_:=Aside0.mk ((by rw [hg];exact (below_size (by repeat (first|(with_reducible first|exact HB.out|apply below_alloc|apply pw_below_drewN|apply below_drew1)|exact HB.out))) : w.heap.size ≤ gb139));clear HB;have HB:=n0_;have BK139:=n1_;have GW139:=n2_;have GE139:=n3_;clear n0_ n1_ n2_ n3_;clear hb hbox hg;have hcz9_0 : w8.cell? ⟨gb139,0,none⟩ = some (.int .i64 a0_0):=(blk_cell BK139.out 0).trans rfl;have hcz9_1 : w8.cell? ⟨gb139,1,none⟩ = some (.string a0_1):=(blk_cell BK139.out 1).trans rfl;have hcz9_2 : w8.cell? ⟨gb139,2,none⟩ = some (.int .i64 a0_2):=(blk_cell BK139.out 2).trans rfl;have hcz9_3 : w8.cell? ⟨gb139,3,none⟩ = some (.slice A0_3 l0_3.length c0_3):=(blk_cell BK139.out 3).trans rfl;have hfz9_0:=blk_frozen BK139.out 0;have hfz9_1:=blk_frozen BK139.out 1;have hfz9_2:=blk_frozen BK139.out 2;have hfz9_3:=blk_frozen BK139.out 3)|((with_reducible refine gate_callee (f:=11) rfl ?_);refine goesL_ (some 5) rfl rfl Tryd.func11 (by kernel_rfl) rfl #[.agg #[.int .i64 a0_0,.string a0_1,.int .i64 a0_2,.slice A0_3 l0_3.length c0_3]] rfl (by (try simp only [List.map_toArray,List.map_cons,List.map_nil]);first|done|rfl|(simp only [List.length_drop,List.length_take];rfl)) ?_;(with_reducible refine (spec_PredOf.calls k a0_0 a0_1 a0_2 _ _ l0_3 t140 _ ?side1 ?side2 A2.out).mono ?_);(case side1 => repeat (first|exact (Kd.C_below HR0_3.out HB.out)|(with_reducible refine Kd.C_alloc ?_ _)|(with_reducible refine Kd.C_drewN ?_ _)|(with_reducible refine Kd.C_drew ?_)));(case side2 => exact HC0_3.out);rintro e w10 ⟨rfl,hb⟩;refine ⟨_,rfl,?_⟩;have n0_:=Aside0.mk (blk_below (g:=gb139) (o:=.cells #[.int .i64 a0_0,.string a0_1,.int .i64 a0_2,.slice A0_3 l0_3.length c0_3] 29 (0,0)) (by (with_reducible repeat (first|refine blk_drewN ?_ _|refine blk_drew ?_|refine blk_alloc ?_ _));exact BK139.out) hb);have n1_:=Aside0.mk (below_step (by repeat (first|(with_reducible first|exact HB.out|apply below_alloc|apply pw_below_drewN|apply below_drew1|refine below_set ?_ GE139.out)|exact HB.out)) hb);clear BK139;clear HB;have BK139:=n0_;have HB:=n1_;clear n0_ n1_;(try clear hb))|(go_at_call 109;(with_reducible refine (spec_Control.calls k t140 t141 _ A7.out).mono ?_);rintro e w' ⟨rfl,⟨nd,rfl⟩⟩))
  go_ret
  exact ⟨by first|rfl|(simp [errW_none,errW_some] <;> rfl)|(simp [*,errW_none,errW_some] <;> rfl),by repeat (first|(with_reducible first|exact HB.out|apply below_alloc|apply pw_below_drewN|apply below_drew1|refine below_set ?_ GE139.out)|exact HB.out)⟩
def spec_l03Is.f (a0_0 : Int) (a0_1 : ByteArray) (a0_2 : Int) (l0_3 : List (S29)) (a1 : ByteArray) (a2 : Int) : Option (Bool):=if a0_0 = 4 then (if a0_1.toList = a1.toList then (some ((l0_3.length : Int) == a2)) else (some false)) else (some false)
set_option maxHeartbeats 8000000 in
set_option maxRecDepth 100000 in
theorem spec_l03Is.calls (a0_0 : Int) (a0_1 : ByteArray) (a0_2 : Int) (A0_3 : Option Addr) (c0_3 : Nat) (l0_3 : List (S29)) (a1 : ByteArray) (a2 : Int) (r : Bool) (w : World) (hr0_3 : Kd.C k29 w A0_3 l0_3.length l0_3) (hc0_3 : l0_3.length ≤ c0_3) (h : spec_l03Is.f a0_0 a0_1 a0_2 l0_3 a1 a2 = some r) :
  Calls Tryd.prog 90 #[.agg #[.int .i64 a0_0,.string a0_1,.int .i64 a0_2,.slice A0_3 l0_3.length c0_3],.string a1,.int .i64 a2] w fun e w' => e = .returned (.bool r) ∧ Below w.heap.size w w':=by
 have hu29:=Tryd.underlying29
 have HR0_3:=Aside0.mk hr0_3
 have HC0_3:=Aside0.mk hc0_3
 clear hr0_3 hc0_3
 have HB:=Aside0.mk (Below.refl w.heap.size w)
 have H : (if a0_0 = 4 then (if a0_1.toList = a1.toList then (some ((l0_3.length : Int) == a2)) else (some false)) else (some false)) = some r:=h
 clear h
 by_cases c4 : a0_0 = 4
 ·rw [if_pos c4] at H
  have c4b0 : (a0_0 == 4) = true:=beq_iff_eq.mpr c4
  have c4b1 : (a0_0 != 4) = false:=bne_eq_false_iff_eq.mpr c4
  clear c4
  by_cases c5 : a0_1.toList = a1.toList
  ·rw [if_pos c5] at H
   have c5b0 : (a0_1.toList == a1.toList) = true:=beq_iff_eq.mpr c5
   have c5b1 : (a0_1.toList != a1.toList) = false:=bne_eq_false_iff_eq.mpr c5
   clear c5
   obtain rfl:=Option.some.inj H
   go_enter Tryd.func90,Tryd.ntmps90
   go_wp2_with (first|((with_reducible refine gate_dst (N:=3) rfl ?_);(try (refine gate_guard (by rfl) ?_;dsimp only));refine box_event ?hg (N:=3) ?hd (cs:=#[.int .i64 a0_0,.string a0_1,.int .i64 a0_2,.slice A0_3 l0_3.length c0_3]) (t:=29) ?hr ?_;(case hd => rfl);(case hg => rfl);(case hr => first|(go_simp;done)|(go_simp;rfl));intro gb142 hg w6 hbox hb;have n0_:=Aside0.mk (below_step (by repeat (first|(with_reducible first|exact HB.out|apply below_alloc|apply pw_below_drewN|apply below_drew1)|exact HB.out)) hb);have n1_:=Aside0.mk (hbox);have n2_:=Aside0.mk ((by rw [hg];exact (below_size (by repeat (first|(with_reducible first|exact HB.out|apply below_alloc|apply pw_below_drewN|apply below_drew1)|exact HB.out))) : w.heap.size ≤ gb142));have n3_:=Aside0.mk ((by rw [hg];exact (below_size (by repeat (first|(with_reducible first|exact HB.out|apply below_alloc|apply pw_below_drewN|apply below_drew1)|exact HB.out))) : w.heap.size ≤ gb142));clear HB;have HB:=n0_;have BK142:=n1_;have GW142:=n2_;have GE142:=n3_;clear n0_ n1_ n2_ n3_;clear hb hbox hg;have hcz7_0 : w6.cell? ⟨gb142,0,none⟩ = some (.int .i64 a0_0):=(blk_cell BK142.out 0).trans rfl;have hcz7_1 : w6.cell? ⟨gb142,1,none⟩ = some (.string a0_1):=(blk_cell BK142.out 1).trans rfl;have hcz7_2 : w6.cell? ⟨gb142,2,none⟩ = some (.int .i64 a0_2):=(blk_cell BK142.out 2).trans rfl;have hcz7_3 : w6.cell? ⟨gb142,3,none⟩ = some (.slice A0_3 l0_3.length c0_3):=(blk_cell BK142.out 3).trans rfl;have hfz7_0:=blk_frozen BK142.out 0;have hfz7_1:=blk_frozen BK142.out 1;have hfz7_2:=blk_frozen BK142.out 2;have hfz7_3:=blk_frozen BK142.out 3))
   go_ret
   exact ⟨by first|rfl|(simp [errW_none,errW_some] <;> rfl)|(simp [*,errW_none,errW_some] <;> rfl),by repeat (first|(with_reducible first|exact HB.out|apply below_alloc|apply pw_below_drewN|apply below_drew1|refine below_set ?_ GE142.out)|exact HB.out)⟩
  ·rw [if_neg c5] at H
   have c5b0 : (a0_1.toList == a1.toList) = false:=beq_eq_false_iff_ne.mpr c5
   have c5b1 : (a0_1.toList != a1.toList) = true:=bne_iff_ne.mpr c5
   obtain rfl:=Option.some.inj H
   go_enter Tryd.func90,Tryd.ntmps90
   go_wp2_with (first|((with_reducible refine gate_dst (N:=3) rfl ?_);(try (refine gate_guard (by rfl) ?_;dsimp only));refine box_event ?hg (N:=3) ?hd (cs:=#[.int .i64 a0_0,.string a0_1,.int .i64 a0_2,.slice A0_3 l0_3.length c0_3]) (t:=29) ?hr ?_;(case hd => rfl);(case hg => rfl);(case hr => first|(go_simp;done)|(go_simp;rfl));intro gb142 hg w8 hbox hb;have n0_:=Aside0.mk (below_step (by repeat (first|(with_reducible first|exact HB.out|apply below_alloc|apply pw_below_drewN|apply below_drew1)|exact HB.out)) hb);have n1_:=Aside0.mk (hbox);have n2_:=Aside0.mk ((by rw [hg];exact (below_size (by repeat (first|(with_reducible first|exact HB.out|apply below_alloc|apply pw_below_drewN|apply below_drew1)|exact HB.out))) : w.heap.size ≤ gb142));have n3_:=Aside0.mk ((by rw [hg];exact (below_size (by repeat (first|(with_reducible first|exact HB.out|apply below_alloc|apply pw_below_drewN|apply below_drew1)|exact HB.out))) : w.heap.size ≤ gb142));clear HB;have HB:=n0_;have BK142:=n1_;have GW142:=n2_;have GE142:=n3_;clear n0_ n1_ n2_ n3_;clear hb hbox hg;have hcz9_0 : w8.cell? ⟨gb142,0,none⟩ = some (.int .i64 a0_0):=(blk_cell BK142.out 0).trans rfl;have hcz9_1 : w8.cell? ⟨gb142,1,none⟩ = some (.string a0_1):=(blk_cell BK142.out 1).trans rfl;have hcz9_2 : w8.cell? ⟨gb142,2,none⟩ = some (.int .i64 a0_2):=(blk_cell BK142.out 2).trans rfl;have hcz9_3 : w8.cell? ⟨gb142,3,none⟩ = some (.slice A0_3 l0_3.length c0_3):=(blk_cell BK142.out 3).trans rfl;have hfz9_0:=blk_frozen BK142.out 0;have hfz9_1:=blk_frozen BK142.out 1;have hfz9_2:=blk_frozen BK142.out 2;have hfz9_3:=blk_frozen BK142.out 3))
   go_ret
   exact ⟨by first|rfl|(simp [errW_none,errW_some] <;> rfl)|(simp [*,errW_none,errW_some] <;> rfl),by repeat (first|(with_reducible first|exact HB.out|apply below_alloc|apply pw_below_drewN|apply below_drew1|refine below_set ?_ GE142.out)|exact HB.out)⟩
 ·rw [if_neg c4] at H
  have c4b0 : (a0_0 == 4) = false:=beq_eq_false_iff_ne.mpr c4
  have c4b1 : (a0_0 != 4) = true:=bne_iff_ne.mpr c4
  obtain rfl:=Option.some.inj H
  go_enter Tryd.func90,Tryd.ntmps90
  go_wp2_with (first|((with_reducible refine gate_dst (N:=3) rfl ?_);(try (refine gate_guard (by rfl) ?_;dsimp only));refine box_event ?hg (N:=3) ?hd (cs:=#[.int .i64 a0_0,.string a0_1,.int .i64 a0_2,.slice A0_3 l0_3.length c0_3]) (t:=29) ?hr ?_;(case hd => rfl);(case hg => rfl);(case hr => first|(go_simp;done)|(go_simp;rfl));intro gb142 hg w10 hbox hb;have n0_:=Aside0.mk (below_step (by repeat (first|(with_reducible first|exact HB.out|apply below_alloc|apply pw_below_drewN|apply below_drew1)|exact HB.out)) hb);have n1_:=Aside0.mk (hbox);have n2_:=Aside0.mk ((by rw [hg];exact (below_size (by repeat (first|(with_reducible first|exact HB.out|apply below_alloc|apply pw_below_drewN|apply below_drew1)|exact HB.out))) : w.heap.size ≤ gb142));have n3_:=Aside0.mk ((by rw [hg];exact (below_size (by repeat (first|(with_reducible first|exact HB.out|apply below_alloc|apply pw_below_drewN|apply below_drew1)|exact HB.out))) : w.heap.size ≤ gb142));clear HB;have HB:=n0_;have BK142:=n1_;have GW142:=n2_;have GE142:=n3_;clear n0_ n1_ n2_ n3_;clear hb hbox hg;have hcz11_0 : w10.cell? ⟨gb142,0,none⟩ = some (.int .i64 a0_0):=(blk_cell BK142.out 0).trans rfl;have hcz11_1 : w10.cell? ⟨gb142,1,none⟩ = some (.string a0_1):=(blk_cell BK142.out 1).trans rfl;have hcz11_2 : w10.cell? ⟨gb142,2,none⟩ = some (.int .i64 a0_2):=(blk_cell BK142.out 2).trans rfl;have hcz11_3 : w10.cell? ⟨gb142,3,none⟩ = some (.slice A0_3 l0_3.length c0_3):=(blk_cell BK142.out 3).trans rfl;have hfz11_0:=blk_frozen BK142.out 0;have hfz11_1:=blk_frozen BK142.out 1;have hfz11_2:=blk_frozen BK142.out 2;have hfz11_3:=blk_frozen BK142.out 3))
  go_ret
  exact ⟨by first|rfl|(simp [errW_none,errW_some] <;> rfl)|(simp [*,errW_none,errW_some] <;> rfl),by repeat (first|(with_reducible first|exact HB.out|apply below_alloc|apply pw_below_drewN|apply below_drew1|refine below_set ?_ GE142.out)|exact HB.out)⟩
def spec_l34Terms.l0 : Nat → List (S29) → List (S29) → Int → Option ((List (S29)))
 | 0,_,_,_ => none
 | k + 1,x0,x3,x4 => if x4 < (x0.length : Int) then (if 0 ≤ x4 then ((fk_spec_l34Term.f k ((rd_T29 x0 x4).f0) ((rd_T29 x0 x4).f1) ((rd_T29 x0 x4).f2) ((rd_T29 x0 x4).f3)).bind fun bt147 => (if x3.length < 2513169434916 then (spec_l34Terms.l0 k x0 (x3 ++ [(⟨bt147.1,bt147.2.1,bt147.2.2.1,bt147.2.2.2⟩ : S29)]) (wrap64 (x4 + 1))) else (none))) else (none)) else (some x3)
def spec_l34Terms.f (k : Nat) (l0 : List (S29)) : Option ((List (S29))):=spec_l34Terms.l0 k l0 (([] : List (S29))) 0
theorem spec_l34Terms.mono_l : ∀ k,(∀ y0 y1 y2,LeO (spec_l34Terms.l0 k y0 y1 y2) (spec_l34Terms.l0 (k + 1) y0 y1 y2))
 | 0 => fun _ _ _ r h => by simp [spec_l34Terms.l0] at h
 | k + 1 => by
  have ih0:=spec_l34Terms.mono_l k
  ·intro y0 y1 y2
   unfold spec_l34Terms.l0
   repeat' first
   | (with_reducible exact ih0 _ _ _)
   | (with_reducible exact fk_spec_l34Term.mono _ _ _ _ _)
   | (with_reducible exact LeO.refl _)
   | (with_reducible exact LeO.none _)
   | (with_reducible refine LeO.ite ?_ ?_)
   | (with_reducible refine LeO.bind ?_ (fun _ => ?_))
   | exact ih0 _ _ _
   | exact fk_spec_l34Term.mono _ _ _ _ _
   | exact LeO.none _
   | refine LeO.ite ?_ ?_
   | refine LeO.bind ?_ (fun _ => ?_)
theorem spec_l34Terms.mono : ∀ a0 k,LeO (spec_l34Terms.f k a0) (spec_l34Terms.f (k + 1) a0):=by
 intro a0 k
 have ih0:=spec_l34Terms.mono_l k
 unfold spec_l34Terms.f
 repeat' first
   | (with_reducible exact ih0 _ _ _)
   | (with_reducible exact fk_spec_l34Term.mono _ _ _ _ _)
   | (with_reducible exact LeO.refl _)
   | (with_reducible exact LeO.none _)
   | (with_reducible refine LeO.ite ?_ ?_)
   | (with_reducible refine LeO.bind ?_ (fun _ => ?_))
   | exact ih0 _ _ _
   | exact fk_spec_l34Term.mono _ _ _ _ _
   | exact LeO.none _
   | refine LeO.ite ?_ ?_
   | refine LeO.bind ?_ (fun _ => ?_)
set_option maxHeartbeats 8000000 in
set_option maxRecDepth 100000 in
theorem spec_l34Terms.calls (k : Nat) (A0 : Option Addr) (c0 : Nat) (l0 : List (S29)) (r : List (S29)) (w : World) (hr0 : Kd.C k29 w A0 l0.length l0) (hc0 : l0.length ≤ c0) (h : spec_l34Terms.f k l0 = some r) :
  Calls Tryd.prog 100 #[.slice A0 l0.length c0] w fun e w' => ∃ v0_ : Value,e = .returned (v0_) ∧ Kd.R k29 29 w' w.heap.size (fun _ => True) v0_ r ∧ Below w.heap.size w w':=by
 have hu29:=Tryd.underlying29
 have HR0:=Aside0.mk hr0
 have HC0:=Aside0.mk hc0
 clear hr0 hc0
 have HB:=Aside0.mk (Below.refl w.heap.size w)
 have H : (spec_l34Terms.l0 k l0 (([] : List (S29))) 0) = some r:=h
 clear h
 obtain ⟨y143,hy143⟩ : ∃ y_ : List (S29),y_ = (([] : List (S29))):=⟨_,rfl⟩
 replace H : (spec_l34Terms.l0 k l0 y143 0) = some r:=by first|(rw [hy143];with_reducible exact H)|(have H2_:=(Option.bind_some _ _).symm.trans H;rw [hy143];with_reducible exact H2_)|(have H2_:=(Option.bind_some _ _).symm.trans H;with_reducible exact H2_)|with_reducible exact H|(rw [hy143];exact H)|exact H
 have Ny143:=Aside0.mk hy143
 clear hy143
 have H':=Aside0.mk H
 clear H
 go_enter Tryd.func100,Tryd.ntmps100
 go_wp2_with (first|((with_reducible refine gate_dst (N:=5) rfl ?_);refine Kd.R_lit k29 _ 29 ?hg (N:=5) ?hd (xs:=([] : List (S29))) (inner:=[]) (ok:=fun _ => True) (okp:=fun _ => True) ?hr ?hp (fun _ hk => hk) trivial (Below.refl _ _) (Nat.le_refl _) (by simp) ?_;(case hd => rfl);(case hg => rfl);(case hr => first|(go_simp;done)|(go_simp;rfl));(case hp => exact (Reps.none _ _));intro v144 w2 ho3 hb hg_ hnew_;clear hg_ hnew_;(first|rw [← Ny143.out] at ho3|(simp only [Int.reduceToNat] at ho3;rw [← Ny143.out] at ho3));have n0_:=Aside0.mk (Kd.R_lower ho3 (below_size (by repeat (first|(with_reducible first|exact HB.out|apply below_alloc|apply pw_below_drewN|apply below_drew1)|exact HB.out))));have n1_:=Aside0.mk (below_step (by repeat (first|(with_reducible first|exact HB.out|apply below_alloc|apply pw_below_drewN|apply below_drew1)|exact HB.out)) hb);clear HB;have HO145:=n0_;have HB:=n1_;clear n0_ n1_;clear hb ho3))
 go_loopg [3,4] k (fun kq v3 v4 w' => ∃ (x3_1 : List (S29)) (x4_1 : Int),v4 = .int .i64 x4_1 ∧ Aside0 (spec_l34Terms.l0 kq l0 x3_1 x4_1 = some r) ∧ Aside0 (kq ≤ k) ∧ Aside0 (Kd.R k29 29 w' w.heap.size (fun _ => True) v3 x3_1) ∧ Aside0 (Below w.heap.size w w'))
 case atStart => exact ⟨(y143),(0),(by first|rfl|(simp;done)|(simp [*];done)),H',⟨Nat.le_refl _⟩,⟨by (with_reducible repeat (first|apply Kd.R_alloc|apply Kd.R_drewN|apply Kd.R_drew));exact HO145.out⟩,⟨by repeat (first|(with_reducible first|exact HB.out|apply below_alloc|apply pw_below_drewN|apply below_drew1)|exact HB.out)⟩⟩
 case round =>
  clear H'
  obtain ⟨x3_1,x4_1,rfl,HA,HK1,HO_3,HB⟩:=hrel
  cases gk with
  | zero => exact absurd HA.out (by simp [spec_l34Terms.l0])
  | succ k1 =>
   have H:=HA.out
   clear HA
   simp only [spec_l34Terms.l0] at H
   by_cases c4 : x4_1 < (l0.length : Int)
   ·rw [if_pos c4] at H
    have c4b0 : decide (x4_1 < (l0.length : Int)) = true:=decide_eq_true c4
    clear c4
    by_cases c5 : 0 ≤ x4_1
    rotate_left
    ·rw [if_neg c5] at H
     exact absurd H (by simp)
    rw [if_pos c5] at H
    have c5b0 : decide (0 ≤ x4_1) = true:=decide_eq_true c5
    clear c5
    replace H:=Option.bind_eq_some_iff.mp H
    obtain ⟨⟨t147,t148,t149,t150⟩,A60,H⟩:=H
    replace H : (if x3_1.length < 2513169434916 then (spec_l34Terms.l0 k1 l0 (x3_1 ++ [(⟨t147,t148,t149,t150⟩ : S29)]) (wrap64 (x4_1 + 1))) else (none)) = some r:=H
    have A6:=Aside0.mk A60
    clear A60
    by_cases c7 : x3_1.length < 2513169434916
    rotate_left
    ·rw [if_neg c7] at H
     exact absurd H (by simp)
    rw [if_pos c7] at H
    have LMc7:=Aside0.mk c7
    clear c7
    obtain ⟨y153,hy153⟩ : ∃ y_ : List (S29),y_ = (x3_1 ++ [(⟨t147,t148,t149,t150⟩ : S29)]):=⟨_,rfl⟩
    replace H : (spec_l34Terms.l0 k1 l0 y153 (wrap64 (x4_1 + 1))) = some r:=by first|(rw [hy153];with_reducible exact H)|(have H2_:=(Option.bind_some _ _).symm.trans H;rw [hy153];with_reducible exact H2_)|(have H2_:=(Option.bind_some _ _).symm.trans H;with_reducible exact H2_)|with_reducible exact H|(rw [hy153];exact H)|exact H
    have Ny153:=Aside0.mk hy153
    clear hy153
    have H':=Aside0.mk H
    clear H
    have p146 : 0 ≤ (x4_1 : Int):=of_decide_eq_true (by first|(with_reducible assumption)|assumption)
    have q146 : x4_1 < (l0.length : Int):=of_decide_eq_true (by first|(with_reducible assumption)|assumption)
    obtain ⟨ad146,A146_3,c146_3,e146,hx146_0,hx146_1,hx146_2,hx146_3,hl146_3,hi146_3⟩:=at_T29 HR0.out x4_1 p146 q146
    cases e146
    replace hx146_0:=(HB.out.cell (World.block_lt_of_cell? w _ hx146_0)).trans hx146_0
    replace hx146_1:=(HB.out.cell (World.block_lt_of_cell? w _ hx146_1)).trans hx146_1
    replace hx146_2:=(HB.out.cell (World.block_lt_of_cell? w _ hx146_2)).trans hx146_2
    replace hx146_3:=(HB.out.cell (World.block_lt_of_cell? w _ hx146_3)).trans hx146_3
    have HR146_3:=Aside0.mk hi146_3
    have HC146_3:=Aside0.mk hl146_3
    clear hi146_3 hl146_3
    replace p146:=eq_true p146
    replace q146:=eq_true q146
    go_wp2_with (first|((with_reducible refine gate_callee (f:=75) rfl ?_);refine goesL_ (some 17) rfl rfl Tryd.func75 (by kernel_rfl) rfl #[.agg #[.int .i64 ((rd_T29 l0 x4_1).f0),.string ((rd_T29 l0 x4_1).f1),.int .i64 ((rd_T29 l0 x4_1).f2),.slice A146_3 ((rd_T29 l0 x4_1).f3).length c146_3]] rfl (by (try simp only [List.map_toArray,List.map_cons,List.map_nil]);first|done|rfl|(simp only [List.length_drop,List.length_take];rfl)) ?_;(with_reducible refine (fk_spec_l34Term.calls k1 ((rd_T29 l0 x4_1).f0) ((rd_T29 l0 x4_1).f1) ((rd_T29 l0 x4_1).f2) _ _ ((rd_T29 l0 x4_1).f3) t147 t148 t149 t150 _ ?side1 ?side2 A6.out).mono ?_);(case side1 => repeat (first|exact (Kd.C_below HR146_3.out HB.out)|(with_reducible refine Kd.C_alloc ?_ _)|(with_reducible refine Kd.C_drewN ?_ _)|(with_reducible refine Kd.C_drew ?_)));(case side2 => exact HC146_3.out);rintro e w8 ⟨v151,rfl,ho0,hb⟩;refine ⟨_,rfl,?_⟩;have n0_:=Aside0.mk (Kd.R_elder' (by (with_reducible repeat (first|apply Kd.R_alloc|apply Kd.R_drewN|apply Kd.R_drew));exact HO_3.out) (Kd.R_base ho0) hb);have n1_:=Aside0.mk (Kd.R_lower (Kd.R_new' ho0 (Kd.R_lt (by (with_reducible repeat (first|apply Kd.R_alloc|apply Kd.R_drewN|apply Kd.R_drew));exact HO_3.out))) (below_size (by repeat (first|(with_reducible first|exact HB.out|apply below_alloc|apply pw_below_drewN|apply below_drew1)|exact HB.out))));have n2_:=Aside0.mk (below_step (by repeat (first|(with_reducible first|exact HB.out|apply below_alloc|apply pw_below_drewN|apply below_drew1)|exact HB.out)) hb);clear HO_3;clear HB;have HO_3:=n0_;have HO152:=n1_;have HB:=n2_;clear n0_ n1_ n2_;(try clear hb);(try clear hb2);(try clear hk);(try clear hi);(try clear ho0);obtain ⟨Ao10,co10,eo10⟩:=Kd.R_slice HO152.out;subst eo10)|((with_reducible refine gate_builtin (b:=.append) (xs:=#[.tmp 12,.tmp 18]) rfl ?_);at_builtin;refine Kd.R_append k29 (w0:=w) w.heap.size rfl (.tmp 12) (.tmp 18) 27 29 (.agg #[(.int .i64 0),(.string ⟨#[]⟩),(.int .i64 0),(.slice none 0 0)]) 56 rfl Tryd.underlying27 info29 rfl (by decide) (by omega) u3 x3_1 (⟨t147,t148,t149,t150⟩ : S29) [.int .i64 t147,.string t148,.int .i64 t149,.slice Ao10 t150.length co10] (fun _ => True) (fun k_ => ((fun _ => True)) k_ ∧ some k_ ≠ (u3 : Value).ownBlock) rfl rfl ?aP (fun _ hk => hk) ?aF ?aO ?aB ?aS ?aL ?_;(case aP => exact k29_mkM _ _ _ (⟨t147,t148,t149,t150⟩ : S29) (Kd.R_mono (HO152.out) (fun k_ hk => ⟨trivial,hk.2⟩)));(case aB => exact (by repeat (first|(with_reducible first|exact HB.out|apply below_alloc|apply pw_below_drewN|apply below_drew1)|exact HB.out)));(case aF => exact (fun _ _ => trivial));(case aO => exact (by (with_reducible repeat (first|apply Kd.R_alloc|apply Kd.R_drewN|apply Kd.R_drew));exact Kd.R_mono HO_3.out (fun _ hk => trivial)));(case aS => exact (below_size (by repeat (first|(with_reducible first|exact HB.out|apply below_alloc|apply pw_below_drewN|apply below_drew1)|exact HB.out))));(case aL => have:=LMc7.out;omega);intro v154 w9 ho hb hg hat;rw [← Ny153.out] at ho;have n0_:=Aside0.mk (hb);have n1_:=Aside0.mk (ho);clear HB;clear HO_3;clear HO152;have HB:=n0_;have HO155:=n1_;clear n0_ n1_;clear ho hb hg hat))
    go_roundg k1
    case measure => have:=HK1.out;omega
    case rel => exact ⟨(y153),(wrap64 (x4_1 + 1)),(by first|rfl|(simp;done)|(simp [*];done)),H',⟨by have:=HK1.out;omega⟩,⟨by (with_reducible repeat (first|apply Kd.R_alloc|apply Kd.R_drewN|apply Kd.R_drew));exact HO155.out⟩,⟨by repeat (first|(with_reducible first|exact HB.out|apply below_alloc|apply pw_below_drewN|apply below_drew1)|exact HB.out)⟩⟩
   ·rw [if_neg c4] at H
    have c4b0 : decide (x4_1 < (l0.length : Int)) = false:=decide_eq_false c4
    clear c4
    obtain rfl:=Option.some.inj H
    go_wp2
    go_ret
    exact ⟨_,by first|rfl|(simp [errW_none,errW_some] <;> rfl)|(simp [*,errW_none,errW_some] <;> rfl),by (with_reducible repeat (first|apply Kd.R_alloc|apply Kd.R_drewN|apply Kd.R_drew));exact HO_3.out,by repeat (first|(with_reducible first|exact HB.out|apply below_alloc|apply pw_below_drewN|apply below_drew1)|exact HB.out)⟩
def spec_l34Term.f (k : Nat) (a0_0 : Int) (a0_1 : ByteArray) (a0_2 : Int) (l0_3 : List (S29)) : Option (Int × ByteArray × Int × (List (S29))):=(spec_l34Terms.f k l0_3).bind fun t158 => (some (a0_0,a0_1,a0_2,t158))
theorem spec_l34Term.mono : ∀ a0 a1 a2 a3 k,LeO (spec_l34Term.f k a0 a1 a2 a3) (spec_l34Term.f (k + 1) a0 a1 a2 a3):=by
 intro a0 a1 a2 a3 k
 unfold spec_l34Term.f
 repeat' first
   | (with_reducible exact spec_l34Terms.mono _ _)
   | (with_reducible exact LeO.refl _)
   | (with_reducible exact LeO.none _)
   | (with_reducible refine LeO.ite ?_ ?_)
   | (with_reducible refine LeO.bind ?_ (fun _ => ?_))
   | exact spec_l34Terms.mono _ _
   | exact LeO.none _
   | refine LeO.ite ?_ ?_
   | refine LeO.bind ?_ (fun _ => ?_)
set_option maxHeartbeats 8000000 in
set_option maxRecDepth 100000 in
theorem spec_l34Term.calls (k : Nat) (a0_0 : Int) (a0_1 : ByteArray) (a0_2 : Int) (A0_3 : Option Addr) (c0_3 : Nat) (l0_3 : List (S29)) (r1 : Int) (r2 : ByteArray) (r3 : Int) (r4 : List (S29)) (w : World) (hr0_3 : Kd.C k29 w A0_3 l0_3.length l0_3) (hc0_3 : l0_3.length ≤ c0_3) (h : spec_l34Term.f k a0_0 a0_1 a0_2 l0_3 = some (r1,r2,r3,r4)) :
  Calls Tryd.prog 75 #[.agg #[.int .i64 a0_0,.string a0_1,.int .i64 a0_2,.slice A0_3 l0_3.length c0_3]] w fun e w' => ∃ v3_ : Value,e = .returned (.agg #[.int .i64 r1,.string r2,.int .i64 r3,v3_]) ∧ Kd.R k29 29 w' w.heap.size (fun _ => True) v3_ r4 ∧ Below w.heap.size w w':=by
 have hu29:=Tryd.underlying29
 have HR0_3:=Aside0.mk hr0_3
 have HC0_3:=Aside0.mk hc0_3
 clear hr0_3 hc0_3
 have HB:=Aside0.mk (Below.refl w.heap.size w)
 have H : ((spec_l34Terms.f k l0_3).bind fun t158 => (some (a0_0,a0_1,a0_2,t158))) = some (r1,r2,r3,r4):=h
 clear h
 replace H:=Option.bind_eq_some_iff.mp H
 obtain ⟨t158,A20,H⟩:=H
 replace H : (some (a0_0,a0_1,a0_2,t158)) = some (r1,r2,r3,r4):=H
 have A2:=Aside0.mk A20
 clear A20
 simp only [Option.some.injEq,Prod.mk.injEq] at H
 obtain ⟨rfl,rfl,rfl,rfl⟩:=H
 go_enter Tryd.func75,Tryd.ntmps75
 go_wp2_with (first|((with_reducible refine gate_dst (N:=1) rfl ?_);refine box_event ?hg (N:=1) ?hd (cs:=#[.int .i64 a0_0,.string a0_1,.int .i64 a0_2,.slice A0_3 l0_3.length c0_3]) (t:=29) ?hr ?_;(case hd => rfl);(case hg => rfl);(case hr => first|(go_simp;done)|(go_simp;rfl));intro gb156 hg w3 hbox hb;have n0_:=Aside0.mk (below_step (by repeat (first|(with_reducible first|exact HB.out|apply below_alloc|apply pw_below_drewN|apply below_drew1)|exact HB.out)) hb);have n1_:=Aside0.mk (hbox);have n2_:=Aside0.mk ((by rw [hg];exact (below_size (by repeat (first|(with_reducible first|exact HB.out|apply below_alloc|apply pw_below_drewN|apply below_drew1)|exact HB.out))) : w.heap.size ≤ gb156));have n3_:=Aside0.mk ((by rw [hg];exact (below_size (by repeat (first|(with_reducible first|exact HB.out|apply below_alloc|apply pw_below_drewN|apply below_drew1)|exact HB.out))) : w.heap.size ≤ gb156));clear HB;have HB:=n0_;have BK156:=n1_;have GW156:=n2_;have GE156:=n3_;clear n0_ n1_ n2_ n3_;clear hb hbox hg)|((with_reducible refine gate_dst (N:=2) rfl ?_);refine box_event ?hg (N:=2) ?hd (cs:=#[.int .i64 0,.string (⟨#[]⟩ : ByteArray),.int .i64 0,.slice none 0 0]) (t:=29) ?hr ?_;(case hd => rfl);(case hg => rfl);(case hr => first|(go_simp;done)|(go_simp;rfl));intro gb157 hg w4 hbox hb;have n0_:=Aside0.mk (blk_below (g:=gb156) (o:=.cells #[.int .i64 a0_0,.string a0_1,.int .i64 a0_2,.slice A0_3 l0_3.length c0_3] 29 (0,0)) (by (with_reducible repeat (first|refine blk_drewN ?_ _|refine blk_drew ?_|refine blk_alloc ?_ _));exact BK156.out) hb);have n1_:=Aside0.mk (below_step (by repeat (first|(with_reducible first|exact HB.out|apply below_alloc|apply pw_below_drewN|apply below_drew1|refine below_set ?_ GE156.out)|exact HB.out)) hb);have n2_:=Aside0.mk (hbox);have n3_:=Aside0.mk ((by rw [hg];exact (below_size (by repeat (first|(with_reducible first|exact HB.out|apply below_alloc|apply pw_below_drewN|apply below_drew1|refine below_set ?_ GE156.out)|exact HB.out))) : w.heap.size ≤ gb157));have n4_:=Aside0.mk ((by rw [hg];exact (below_size (by repeat (first|(with_reducible first|exact HB.out|apply below_alloc|apply pw_below_drewN|apply below_drew1|refine below_set ?_ GE156.out)|exact HB.out))) : w.heap.size ≤ gb157));have n5_:=Aside0.mk ((by rw [hg];exact Nat.ne_of_lt (blk_lt (g:=gb156) (o:=.cells #[.int .i64 a0_0,.string a0_1,.int .i64 a0_2,.slice A0_3 l0_3.length c0_3] 29 (0,0)) (by (with_reducible repeat (first|refine blk_drewN ?_ _|refine blk_drew ?_|refine blk_alloc ?_ _));exact BK156.out)) : gb156 ≠ gb157));have n6_:=Aside0.mk ((by rw [hg];exact Nat.ne_of_gt (blk_lt (g:=gb156) (o:=.cells #[.int .i64 a0_0,.string a0_1,.int .i64 a0_2,.slice A0_3 l0_3.length c0_3] 29 (0,0)) (by (with_reducible repeat (first|refine blk_drewN ?_ _|refine blk_drew ?_|refine blk_alloc ?_ _));exact BK156.out)) : gb157 ≠ gb156));clear BK156;clear HB;have BK156:=n0_;have HB:=n1_;have BK157:=n2_;have GW157:=n3_;have GE157:=n4_;have NB156_157:=n5_;have NB157_156:=n6_;clear n0_ n1_ n2_ n3_ n4_ n5_ n6_;clear hb hbox hg;have hnb5:=NB156_157.out;have hnc5:=NB157_156.out;have hcz6_0 : w4.cell? ⟨gb156,0,none⟩ = some (.int .i64 a0_0):=(blk_cell BK156.out 0).trans rfl;have hcz6_1 : w4.cell? ⟨gb156,1,none⟩ = some (.string a0_1):=(blk_cell BK156.out 1).trans rfl;have hcz6_2 : w4.cell? ⟨gb156,2,none⟩ = some (.int .i64 a0_2):=(blk_cell BK156.out 2).trans rfl;have hcz6_3 : w4.cell? ⟨gb156,3,none⟩ = some (.slice A0_3 l0_3.length c0_3):=(blk_cell BK156.out 3).trans rfl;have hfz6_0:=blk_frozen BK156.out 0;have hfz6_1:=blk_frozen BK156.out 1;have hfz6_2:=blk_frozen BK156.out 2;have hfz6_3:=blk_frozen BK156.out 3)|((with_reducible refine gate_callee (f:=100) rfl ?_);refine goesL_ (some 5) rfl rfl Tryd.func100 (by kernel_rfl) rfl #[.slice A0_3 l0_3.length c0_3] rfl (by (try simp only [List.map_toArray,List.map_cons,List.map_nil]);first|done|rfl|(simp only [List.length_drop,List.length_take];rfl)) ?_;(with_reducible refine (spec_l34Terms.calls k _ _ l0_3 t158 _ ?side1 ?side2 A2.out).mono ?_);(case side1 => repeat (first|exact (Kd.C_below HR0_3.out HB.out)|(with_reducible refine Kd.C_alloc ?_ _)|(with_reducible refine Kd.C_drewN ?_ _)|(with_reducible refine Kd.C_drew ?_)));(case side2 => exact HC0_3.out);rintro e w7 ⟨v159,rfl,ho0,hb⟩;refine ⟨_,rfl,?_⟩;have n0_:=Aside0.mk (Kd.R_lower (Kd.R_newB (Kd.R_newB ho0 (g:=gb156) (o:=.cells #[.int .i64 a0_0,.string a0_1,.int .i64 a0_2,.slice A0_3 l0_3.length c0_3] 29 (0,0)) (by (with_reducible repeat (first|refine blk_drewN ?_ _|refine blk_drew ?_|refine blk_alloc ?_ _));exact BK156.out)) (g:=gb157) (o:=.cells #[.int .i64 0,.string (⟨#[]⟩ : ByteArray),.int .i64 0,.slice none 0 0] 29 (0,0)) (by (with_reducible repeat (first|refine blk_drewN ?_ _|refine blk_drew ?_|refine blk_alloc ?_ _));exact BK157.out)) (below_size (by repeat (first|(with_reducible first|exact HB.out|apply below_alloc|apply pw_below_drewN|apply below_drew1|refine below_set ?_ GE156.out|refine below_set ?_ GE157.out)|exact HB.out))));have n1_:=Aside0.mk (blk_below (g:=gb156) (o:=.cells #[.int .i64 a0_0,.string a0_1,.int .i64 a0_2,.slice A0_3 l0_3.length c0_3] 29 (0,0)) (by (with_reducible repeat (first|refine blk_drewN ?_ _|refine blk_drew ?_|refine blk_alloc ?_ _));exact BK156.out) hb);have n2_:=Aside0.mk (blk_below (g:=gb157) (o:=.cells #[.int .i64 0,.string (⟨#[]⟩ : ByteArray),.int .i64 0,.slice none 0 0] 29 (0,0)) (by (with_reducible repeat (first|refine blk_drewN ?_ _|refine blk_drew ?_|refine blk_alloc ?_ _));exact BK157.out) hb);have n3_:=Aside0.mk (below_step (by repeat (first|(with_reducible first|exact HB.out|apply below_alloc|apply pw_below_drewN|apply below_drew1|refine below_set ?_ GE156.out|refine below_set ?_ GE157.out)|exact HB.out)) hb);clear BK156;clear BK157;clear HB;have HO160:=n0_;have BK156:=n1_;have BK157:=n2_;have HB:=n3_;clear n0_ n1_ n2_ n3_;(try clear hb);(try clear hb2);(try clear hk);(try clear hi);(try clear ho0);obtain ⟨Ao8,co8,eo8⟩:=Kd.R_slice HO160.out;subst eo8;have hcz9_0 : w7.cell? ⟨gb156,0,none⟩ = some (.int .i64 a0_0):=(blk_cell BK156.out 0).trans rfl;have hcz9_1 : w7.cell? ⟨gb156,1,none⟩ = some (.string a0_1):=(blk_cell BK156.out 1).trans rfl;have hcz9_2 : w7.cell? ⟨gb156,2,none⟩ = some (.int .i64 a0_2):=(blk_cell BK156.out 2).trans rfl;have hcz9_3 : w7.cell? ⟨gb156,3,none⟩ = some (.slice A0_3 l0_3.length c0_3):=(blk_cell BK156.out 3).trans rfl;have hfz9_0:=blk_frozen BK156.out 0;have hfz9_1:=blk_frozen BK156.out 1;have hfz9_2:=blk_frozen BK156.out 2;have hfz9_3:=blk_frozen BK156.out 3;have hcz10_0 : w7.cell? ⟨gb157,0,none⟩ = some (.int .i64 0):=(blk_cell BK157.out 0).trans rfl;have hcz10_1 : w7.cell? ⟨gb157,1,none⟩ = some (.string (⟨#[]⟩ : ByteArray)):=(blk_cell BK157.out 1).trans rfl;have hcz10_2 : w7.cell? ⟨gb157,2,none⟩ = some (.int .i64 0):=(blk_cell BK157.out 2).trans rfl;have hcz10_3 : w7.cell? ⟨gb157,3,none⟩ = some (.slice none 0 0):=(blk_cell BK157.out 3).trans rfl;have hfz10_0:=blk_frozen BK157.out 0;have hfz10_1:=blk_frozen BK157.out 1;have hfz10_2:=blk_frozen BK157.out 2;have hfz10_3:=blk_frozen BK157.out 3))
 refine bodyPost_ret (results_cell_row rfl _ _ gb157 29 #[.int .i64 a0_0,.string a0_1,.int .i64 a0_2,.slice Ao8 t158.length co8] (0,0) _ rfl (by (with_reducible repeat (first|refine blk_drewN ?_ _|refine blk_drew ?_|refine blk_alloc ?_ _));refine blk_put (cs:=#[.int .i64 a0_0,.string a0_1,.int .i64 a0_2,.slice none 0 0]) ?_ 3 _ rfl;(with_reducible repeat (first|refine blk_drewN ?_ _|refine blk_drew ?_|refine blk_alloc ?_ _));refine blk_put (cs:=#[.int .i64 a0_0,.string a0_1,.int .i64 0,.slice none 0 0]) ?_ 2 _ rfl;(with_reducible repeat (first|refine blk_drewN ?_ _|refine blk_drew ?_|refine blk_alloc ?_ _));refine blk_put (cs:=#[.int .i64 a0_0,.string (⟨#[]⟩ : ByteArray),.int .i64 0,.slice none 0 0]) ?_ 1 _ rfl;(with_reducible repeat (first|refine blk_drewN ?_ _|refine blk_drew ?_|refine blk_alloc ?_ _));refine blk_put (cs:=#[.int .i64 0,.string (⟨#[]⟩ : ByteArray),.int .i64 0,.slice none 0 0]) ?_ 0 _ rfl;(with_reducible repeat (first|refine blk_drewN ?_ _|refine blk_drew ?_|refine blk_alloc ?_ _));refine blk_far ?_ NB157_156.out _;(with_reducible repeat (first|refine blk_drewN ?_ _|refine blk_drew ?_|refine blk_alloc ?_ _));exact BK157.out) Tryd.underlying29 rfl (by kernel_rfl)) rfl ?_
 exact ⟨_,by first|rfl|(simp [errW_none,errW_some] <;> rfl)|(simp [*,errW_none,errW_some] <;> rfl),by (with_reducible repeat (first|apply Kd.R_alloc|apply Kd.R_drewN|apply Kd.R_drew));exact Kd.R_mono (Kd.R_far (p:=⟨gb157,3,none⟩) (Kd.R_far (p:=⟨gb157,2,none⟩) (Kd.R_far (p:=⟨gb157,1,none⟩) (Kd.R_far (p:=⟨gb157,0,none⟩) (Kd.R_far (p:=⟨gb156,3,none⟩) (Kd.R_mono (Kd.R_mono HO160.out (fun k_ hk => (⟨hk,hk.1.2⟩ : _ ∧ k_ ≠ gb156))) (fun k_ hk => (⟨hk,hk.1.2⟩ : _ ∧ k_ ≠ gb157))) (fun _ hk => hk.1.2) (.slice Ao8 t158.length co8)) (fun _ hk => hk.2) (.int .i64 a0_0)) (fun _ hk => hk.2) (.string a0_1)) (fun _ hk => hk.2) (.int .i64 a0_2)) (fun _ hk => hk.2) (.slice Ao8 t158.length co8)) (fun _ hk => trivial),by repeat (first|(with_reducible first|exact HB.out|apply below_alloc|apply pw_below_drewN|apply below_drew1|refine below_set ?_ GE156.out|refine below_set ?_ GE157.out)|exact HB.out)⟩
def spec_l34Clause.f (k : Nat) (a0_0 : Int) (a0_1 : ByteArray) (a0_2 : Int) (l0_3 : List (S29)) (a0_4 : Int) (a0_5 : ByteArray) (a0_6 : Int) (l0_7 : List (S29)) (a0_8 : ByteArray) : Option (Int × ByteArray × Int × (List (S29)) × Int × ByteArray × Int × (List (S29)) × ByteArray):=(spec_l34Term.f k a0_0 a0_1 a0_2 l0_3).bind fun bt163 => ((spec_l34Term.f k a0_4 a0_5 a0_6 l0_7).bind fun bt169 => (some (bt163.1,bt163.2.1,bt163.2.2.1,bt163.2.2.2,bt169.1,bt169.2.1,bt169.2.2.1,bt169.2.2.2,a0_8)))
theorem spec_l34Clause.mono : ∀ a0 a1 a2 a3 a4 a5 a6 a7 a8 k,LeO (spec_l34Clause.f k a0 a1 a2 a3 a4 a5 a6 a7 a8) (spec_l34Clause.f (k + 1) a0 a1 a2 a3 a4 a5 a6 a7 a8):=by
 intro a0 a1 a2 a3 a4 a5 a6 a7 a8 k
 unfold spec_l34Clause.f
 repeat' first
   | (with_reducible exact spec_l34Term.mono _ _ _ _ _)
   | (with_reducible exact LeO.refl _)
   | (with_reducible exact LeO.none _)
   | (with_reducible refine LeO.ite ?_ ?_)
   | (with_reducible refine LeO.bind ?_ (fun _ => ?_))
   | exact spec_l34Term.mono _ _ _ _ _
   | exact LeO.none _
   | refine LeO.ite ?_ ?_
   | refine LeO.bind ?_ (fun _ => ?_)
set_option maxHeartbeats 8000000 in
set_option maxRecDepth 100000 in
theorem spec_l34Clause.calls (k : Nat) (a0_0 : Int) (a0_1 : ByteArray) (a0_2 : Int) (A0_3 : Option Addr) (c0_3 : Nat) (l0_3 : List (S29)) (a0_4 : Int) (a0_5 : ByteArray) (a0_6 : Int) (A0_7 : Option Addr) (c0_7 : Nat) (l0_7 : List (S29)) (a0_8 : ByteArray) (r1 : Int) (r2 : ByteArray) (r3 : Int) (r4 : List (S29)) (r5 : Int) (r6 : ByteArray) (r7 : Int) (r8 : List (S29)) (r9 : ByteArray) (w : World) (hr0_3 : Kd.C k29 w A0_3 l0_3.length l0_3) (hc0_3 : l0_3.length ≤ c0_3) (hr0_7 : Kd.C k29 w A0_7 l0_7.length l0_7) (hc0_7 : l0_7.length ≤ c0_7) (h : spec_l34Clause.f k a0_0 a0_1 a0_2 l0_3 a0_4 a0_5 a0_6 l0_7 a0_8 = some (r1,r2,r3,r4,r5,r6,r7,r8,r9)) :
  Calls Tryd.prog 59 #[.agg #[.int .i64 a0_0,.string a0_1,.int .i64 a0_2,.slice A0_3 l0_3.length c0_3,.int .i64 a0_4,.string a0_5,.int .i64 a0_6,.slice A0_7 l0_7.length c0_7,.string a0_8]] w fun e w' => ∃ v3_ v7_ : Value,e = .returned (.agg #[.int .i64 r1,.string r2,.int .i64 r3,v3_,.int .i64 r5,.string r6,.int .i64 r7,v7_,.string r9]) ∧ Kd.R k29 29 w' w.heap.size (fun k_ => some k_ ≠ (v7_ : Value).ownBlock) v3_ r4 ∧ Kd.R k29 29 w' w.heap.size (fun k_ => some k_ ≠ (v3_ : Value).ownBlock) v7_ r8 ∧ Below w.heap.size w w':=by
 have hu48:=Tryd.underlying48
 have hu29:=Tryd.underlying29
 have HR0_3:=Aside0.mk hr0_3
 have HC0_3:=Aside0.mk hc0_3
 clear hr0_3 hc0_3
 have HR0_7:=Aside0.mk hr0_7
 have HC0_7:=Aside0.mk hc0_7
 clear hr0_7 hc0_7
 have HB:=Aside0.mk (Below.refl w.heap.size w)
 have H : ((spec_l34Term.f k a0_0 a0_1 a0_2 l0_3).bind fun bt163 => ((spec_l34Term.f k a0_4 a0_5 a0_6 l0_7).bind fun bt169 => (some (bt163.1,bt163.2.1,bt163.2.2.1,bt163.2.2.2,bt169.1,bt169.2.1,bt169.2.2.1,bt169.2.2.2,a0_8)))) = some (r1,r2,r3,r4,r5,r6,r7,r8,r9):=h
 clear h
 replace H:=Option.bind_eq_some_iff.mp H
 obtain ⟨⟨t163,t164,t165,t166⟩,A20,H⟩:=H
 replace H : ((spec_l34Term.f k a0_4 a0_5 a0_6 l0_7).bind fun bt169 => (some (t163,t164,t165,t166,bt169.1,bt169.2.1,bt169.2.2.1,bt169.2.2.2,a0_8))) = some (r1,r2,r3,r4,r5,r6,r7,r8,r9):=H
 have A2:=Aside0.mk A20
 clear A20
 replace H:=Option.bind_eq_some_iff.mp H
 obtain ⟨⟨t169,t170,t171,t172⟩,A30,H⟩:=H
 replace H : (some (t163,t164,t165,t166,t169,t170,t171,t172,a0_8)) = some (r1,r2,r3,r4,r5,r6,r7,r8,r9):=H
 have A3:=Aside0.mk A30
 clear A30
 simp only [Option.some.injEq,Prod.mk.injEq] at H
 obtain ⟨rfl,rfl,rfl,rfl,rfl,rfl,rfl,rfl,rfl⟩:=H
 go_enter Tryd.func59,Tryd.ntmps59
 go_wp2_with (first|((with_reducible refine gate_dst (N:=1) rfl ?_);refine box_event ?hg (N:=1) ?hd (cs:=#[.int .i64 a0_0,.string a0_1,.int .i64 a0_2,.slice A0_3 l0_3.length c0_3,.int .i64 a0_4,.string a0_5,.int .i64 a0_6,.slice A0_7 l0_7.length c0_7,.string a0_8]) (t:=48) ?hr ?_;(case hd => rfl);(case hg => rfl);(case hr => first|(go_simp;done)|(go_simp;rfl));intro gb161 hg w4 hbox hb;have n0_:=Aside0.mk (below_step (by repeat (first|(with_reducible first|exact HB.out|apply below_alloc|apply pw_below_drewN|apply below_drew1)|exact HB.out)) hb);have n1_:=Aside0.mk (hbox);have n2_:=Aside0.mk ((by rw [hg];exact (below_size (by repeat (first|(with_reducible first|exact HB.out|apply below_alloc|apply pw_below_drewN|apply below_drew1)|exact HB.out))) : w.heap.size ≤ gb161));have n3_:=Aside0.mk ((by rw [hg];exact (below_size (by repeat (first|(with_reducible first|exact HB.out|apply below_alloc|apply pw_below_drewN|apply below_drew1)|exact HB.out))) : w.heap.size ≤ gb161));clear HB;have HB:=n0_;have BK161:=n1_;have GW161:=n2_;have GE161:=n3_;clear n0_ n1_ n2_ n3_;clear hb hbox hg)|((with_reducible refine gate_dst (N:=2) rfl ?_);refine box_event ?hg (N:=2) ?hd (cs:=#[.int .i64 0,.string (⟨#[]⟩ : ByteArray),.int .i64 0,.slice none 0 0,.int .i64 0,.string (⟨#[]⟩ : ByteArray),.int .i64 0,.slice none 0 0,.string (⟨#[]⟩ : ByteArray)]) (t:=48) ?hr ?_;(case hd => rfl);(case hg => rfl);(case hr => first|(go_simp;done)|(go_simp;rfl));intro gb162 hg w5 hbox hb;have n0_:=Aside0.mk (blk_below (g:=gb161) (o:=.cells #[.int .i64 a0_0,.string a0_1,.int .i64 a0_2,.slice A0_3 l0_3.length c0_3,.int .i64 a0_4,.string a0_5,.int .i64 a0_6,.slice A0_7 l0_7.length c0_7,.string a0_8] 48 (0,0)) (by (with_reducible repeat (first|refine blk_drewN ?_ _|refine blk_drew ?_|refine blk_alloc ?_ _));exact BK161.out) hb);have n1_:=Aside0.mk (below_step (by repeat (first|(with_reducible first|exact HB.out|apply below_alloc|apply pw_below_drewN|apply below_drew1|refine below_set ?_ GE161.out)|exact HB.out)) hb);have n2_:=Aside0.mk (hbox);have n3_:=Aside0.mk ((by rw [hg];exact (below_size (by repeat (first|(with_reducible first|exact HB.out|apply below_alloc|apply pw_below_drewN|apply below_drew1|refine below_set ?_ GE161.out)|exact HB.out))) : w.heap.size ≤ gb162));have n4_:=Aside0.mk ((by rw [hg];exact (below_size (by repeat (first|(with_reducible first|exact HB.out|apply below_alloc|apply pw_below_drewN|apply below_drew1|refine below_set ?_ GE161.out)|exact HB.out))) : w.heap.size ≤ gb162));have n5_:=Aside0.mk ((by rw [hg];exact Nat.ne_of_lt (blk_lt (g:=gb161) (o:=.cells #[.int .i64 a0_0,.string a0_1,.int .i64 a0_2,.slice A0_3 l0_3.length c0_3,.int .i64 a0_4,.string a0_5,.int .i64 a0_6,.slice A0_7 l0_7.length c0_7,.string a0_8] 48 (0,0)) (by (with_reducible repeat (first|refine blk_drewN ?_ _|refine blk_drew ?_|refine blk_alloc ?_ _));exact BK161.out)) : gb161 ≠ gb162));have n6_:=Aside0.mk ((by rw [hg];exact Nat.ne_of_gt (blk_lt (g:=gb161) (o:=.cells #[.int .i64 a0_0,.string a0_1,.int .i64 a0_2,.slice A0_3 l0_3.length c0_3,.int .i64 a0_4,.string a0_5,.int .i64 a0_6,.slice A0_7 l0_7.length c0_7,.string a0_8] 48 (0,0)) (by (with_reducible repeat (first|refine blk_drewN ?_ _|refine blk_drew ?_|refine blk_alloc ?_ _));exact BK161.out)) : gb162 ≠ gb161));clear BK161;clear HB;have BK161:=n0_;have HB:=n1_;have BK162:=n2_;have GW162:=n3_;have GE162:=n4_;have NB161_162:=n5_;have NB162_161:=n6_;clear n0_ n1_ n2_ n3_ n4_ n5_ n6_;clear hb hbox hg;have hnb6:=NB161_162.out;have hnc6:=NB162_161.out;have hcz7_0 : w5.cell? ⟨gb161,0,none⟩ = some (.int .i64 a0_0):=(blk_cell BK161.out 0).trans rfl;have hcz7_1 : w5.cell? ⟨gb161,1,none⟩ = some (.string a0_1):=(blk_cell BK161.out 1).trans rfl;have hcz7_2 : w5.cell? ⟨gb161,2,none⟩ = some (.int .i64 a0_2):=(blk_cell BK161.out 2).trans rfl;have hcz7_3 : w5.cell? ⟨gb161,3,none⟩ = some (.slice A0_3 l0_3.length c0_3):=(blk_cell BK161.out 3).trans rfl;have hcz7_4 : w5.cell? ⟨gb161,4,none⟩ = some (.int .i64 a0_4):=(blk_cell BK161.out 4).trans rfl;have hcz7_5 : w5.cell? ⟨gb161,5,none⟩ = some (.string a0_5):=(blk_cell BK161.out 5).trans rfl;have hcz7_6 : w5.cell? ⟨gb161,6,none⟩ = some (.int .i64 a0_6):=(blk_cell BK161.out 6).trans rfl;have hcz7_7 : w5.cell? ⟨gb161,7,none⟩ = some (.slice A0_7 l0_7.length c0_7):=(blk_cell BK161.out 7).trans rfl;have hcz7_8 : w5.cell? ⟨gb161,8,none⟩ = some (.string a0_8):=(blk_cell BK161.out 8).trans rfl;have hfz7_0:=blk_frozen BK161.out 0;have hfz7_1:=blk_frozen BK161.out 1;have hfz7_2:=blk_frozen BK161.out 2;have hfz7_3:=blk_frozen BK161.out 3;have hfz7_4:=blk_frozen BK161.out 4;have hfz7_5:=blk_frozen BK161.out 5;have hfz7_6:=blk_frozen BK161.out 6;have hfz7_7:=blk_frozen BK161.out 7;have hfz7_8:=blk_frozen BK161.out 8)|((with_reducible refine gate_callee (f:=75) rfl ?_);refine goesL_ (some 5) rfl rfl Tryd.func75 (by kernel_rfl) rfl #[.agg #[.int .i64 a0_0,.string a0_1,.int .i64 a0_2,.slice A0_3 l0_3.length c0_3]] rfl (by (try simp only [List.map_toArray,List.map_cons,List.map_nil]);first|done|rfl|(simp only [List.length_drop,List.length_take];rfl)) ?_;(with_reducible refine (spec_l34Term.calls k a0_0 a0_1 a0_2 _ _ l0_3 t163 t164 t165 t166 _ ?side1 ?side2 A2.out).mono ?_);(case side1 => repeat (first|exact (Kd.C_below HR0_3.out HB.out)|(with_reducible refine Kd.C_alloc ?_ _)|(with_reducible refine Kd.C_drewN ?_ _)|(with_reducible refine Kd.C_drew ?_)));(case side2 => exact HC0_3.out);rintro e w8 ⟨v167,rfl,ho0,hb⟩;refine ⟨_,rfl,?_⟩;have n0_:=Aside0.mk (Kd.R_lower ho0 (below_size (by repeat (first|(with_reducible first|exact HB.out|apply below_alloc|apply pw_below_drewN|apply below_drew1|refine below_set ?_ GE161.out|refine below_set ?_ GE162.out)|exact HB.out))));have n1_:=Aside0.mk (blk_below (g:=gb161) (o:=.cells #[.int .i64 a0_0,.string a0_1,.int .i64 a0_2,.slice A0_3 l0_3.length c0_3,.int .i64 a0_4,.string a0_5,.int .i64 a0_6,.slice A0_7 l0_7.length c0_7,.string a0_8] 48 (0,0)) (by (with_reducible repeat (first|refine blk_drewN ?_ _|refine blk_drew ?_|refine blk_alloc ?_ _));exact BK161.out) hb);have n2_:=Aside0.mk (blk_below (g:=gb162) (o:=.cells #[.int .i64 0,.string (⟨#[]⟩ : ByteArray),.int .i64 0,.slice none 0 0,.int .i64 0,.string (⟨#[]⟩ : ByteArray),.int .i64 0,.slice none 0 0,.string (⟨#[]⟩ : ByteArray)] 48 (0,0)) (by (with_reducible repeat (first|refine blk_drewN ?_ _|refine blk_drew ?_|refine blk_alloc ?_ _));exact BK162.out) hb);have n3_:=Aside0.mk (below_step (by repeat (first|(with_reducible first|exact HB.out|apply below_alloc|apply pw_below_drewN|apply below_drew1|refine below_set ?_ GE161.out|refine below_set ?_ GE162.out)|exact HB.out)) hb);clear BK161;clear BK162;clear HB;have HO168:=n0_;have BK161:=n1_;have BK162:=n2_;have HB:=n3_;clear n0_ n1_ n2_ n3_;(try clear hb);(try clear hb2);(try clear hk);(try clear hi);(try clear ho0);have hcz9_0 : w8.cell? ⟨gb161,0,none⟩ = some (.int .i64 a0_0):=(blk_cell BK161.out 0).trans rfl;have hcz9_1 : w8.cell? ⟨gb161,1,none⟩ = some (.string a0_1):=(blk_cell BK161.out 1).trans rfl;have hcz9_2 : w8.cell? ⟨gb161,2,none⟩ = some (.int .i64 a0_2):=(blk_cell BK161.out 2).trans rfl;have hcz9_3 : w8.cell? ⟨gb161,3,none⟩ = some (.slice A0_3 l0_3.length c0_3):=(blk_cell BK161.out 3).trans rfl;have hcz9_4 : w8.cell? ⟨gb161,4,none⟩ = some (.int .i64 a0_4):=(blk_cell BK161.out 4).trans rfl;have hcz9_5 : w8.cell? ⟨gb161,5,none⟩ = some (.string a0_5):=(blk_cell BK161.out 5).trans rfl;have hcz9_6 : w8.cell? ⟨gb161,6,none⟩ = some (.int .i64 a0_6):=(blk_cell BK161.out 6).trans rfl;have hcz9_7 : w8.cell? ⟨gb161,7,none⟩ = some (.slice A0_7 l0_7.length c0_7):=(blk_cell BK161.out 7).trans rfl;have hcz9_8 : w8.cell? ⟨gb161,8,none⟩ = some (.string a0_8):=(blk_cell BK161.out 8).trans rfl;have hfz9_0:=blk_frozen BK161.out 0;have hfz9_1:=blk_frozen BK161.out 1;have hfz9_2:=blk_frozen BK161.out 2;have hfz9_3:=blk_frozen BK161.out 3;have hfz9_4:=blk_frozen BK161.out 4;have hfz9_5:=blk_frozen BK161.out 5;have hfz9_6:=blk_frozen BK161.out 6;have hfz9_7:=blk_frozen BK161.out 7;have hfz9_8:=blk_frozen BK161.out 8;obtain ⟨Ao10,co10,eo10⟩:=Kd.R_slice HO168.out;subst eo10)|((with_reducible refine gate_callee (f:=75) rfl ?_);refine goesL_ (some 9) rfl rfl Tryd.func75 (by kernel_rfl) rfl #[.agg #[.int .i64 a0_4,.string a0_5,.int .i64 a0_6,.slice A0_7 l0_7.length c0_7]] rfl (by (try simp only [List.map_toArray,List.map_cons,List.map_nil]);first|done|rfl|(simp only [List.length_drop,List.length_take];rfl)) ?_;(with_reducible refine (spec_l34Term.calls k a0_4 a0_5 a0_6 _ _ l0_7 t169 t170 t171 t172 _ ?side1 ?side2 A3.out).mono ?_);(case side1 => exact Kd.C_below HR0_7.out (by repeat (first|(with_reducible first|exact HB.out|apply below_alloc|apply pw_below_drewN|apply below_drew1|refine below_set ?_ GE161.out|refine below_set ?_ GE162.out)|exact HB.out)));(case side2 => exact HC0_7.out);rintro e w11 ⟨v173,rfl,ho0,hb⟩;refine ⟨_,rfl,?_⟩;have n0_:=Aside0.mk (Kd.R_elder' (by (with_reducible repeat (first|apply Kd.R_alloc|apply Kd.R_drewN|apply Kd.R_drew));exact (Kd.R_mono (Kd.R_far (p:=⟨gb161,3,none⟩) (Kd.R_far (p:=⟨gb161,2,none⟩) (Kd.R_far (p:=⟨gb161,1,none⟩) (Kd.R_far (p:=⟨gb161,0,none⟩) (Kd.R_types HO168.out BK161.out (by decide)) (fun _ hk => hk.2) (.int .i64 t163)) (fun _ hk => hk.2) (.string t164)) (fun _ hk => hk.2) (.int .i64 t165)) (fun _ hk => hk.2) (.slice Ao10 t166.length co10)) (fun _ h_ => h_.1))) (Kd.R_base ho0) hb);have n1_:=Aside0.mk (Kd.R_lower (Kd.R_new' ho0 (Kd.R_lt (by (with_reducible repeat (first|apply Kd.R_alloc|apply Kd.R_drewN|apply Kd.R_drew));exact (Kd.R_mono (Kd.R_far (p:=⟨gb161,3,none⟩) (Kd.R_far (p:=⟨gb161,2,none⟩) (Kd.R_far (p:=⟨gb161,1,none⟩) (Kd.R_far (p:=⟨gb161,0,none⟩) (Kd.R_types HO168.out BK161.out (by decide)) (fun _ hk => hk.2) (.int .i64 t163)) (fun _ hk => hk.2) (.string t164)) (fun _ hk => hk.2) (.int .i64 t165)) (fun _ hk => hk.2) (.slice Ao10 t166.length co10)) (fun _ h_ => h_.1))))) (below_size (by repeat (first|(with_reducible first|exact HB.out|apply below_alloc|apply pw_below_drewN|apply below_drew1|refine below_set ?_ GE161.out|refine below_set ?_ GE162.out)|exact HB.out))));have n2_:=Aside0.mk (blk_below (g:=gb161) (o:=.cells #[.int .i64 t163,.string t164,.int .i64 t165,.slice Ao10 t166.length co10,.int .i64 a0_4,.string a0_5,.int .i64 a0_6,.slice A0_7 l0_7.length c0_7,.string a0_8] 48 (0,0)) (by (with_reducible repeat (first|refine blk_drewN ?_ _|refine blk_drew ?_|refine blk_alloc ?_ _));refine blk_put (cs:=#[.int .i64 t163,.string t164,.int .i64 t165,.slice A0_3 l0_3.length c0_3,.int .i64 a0_4,.string a0_5,.int .i64 a0_6,.slice A0_7 l0_7.length c0_7,.string a0_8]) ?_ 3 _ rfl;(with_reducible repeat (first|refine blk_drewN ?_ _|refine blk_drew ?_|refine blk_alloc ?_ _));refine blk_put (cs:=#[.int .i64 t163,.string t164,.int .i64 a0_2,.slice A0_3 l0_3.length c0_3,.int .i64 a0_4,.string a0_5,.int .i64 a0_6,.slice A0_7 l0_7.length c0_7,.string a0_8]) ?_ 2 _ rfl;(with_reducible repeat (first|refine blk_drewN ?_ _|refine blk_drew ?_|refine blk_alloc ?_ _));refine blk_put (cs:=#[.int .i64 t163,.string a0_1,.int .i64 a0_2,.slice A0_3 l0_3.length c0_3,.int .i64 a0_4,.string a0_5,.int .i64 a0_6,.slice A0_7 l0_7.length c0_7,.string a0_8]) ?_ 1 _ rfl;(with_reducible repeat (first|refine blk_drewN ?_ _|refine blk_drew ?_|refine blk_alloc ?_ _));refine blk_put (cs:=#[.int .i64 a0_0,.string a0_1,.int .i64 a0_2,.slice A0_3 l0_3.length c0_3,.int .i64 a0_4,.string a0_5,.int .i64 a0_6,.slice A0_7 l0_7.length c0_7,.string a0_8]) ?_ 0 _ rfl;(with_reducible repeat (first|refine blk_drewN ?_ _|refine blk_drew ?_|refine blk_alloc ?_ _));exact BK161.out) hb);have n3_:=Aside0.mk (blk_below (g:=gb162) (o:=.cells #[.int .i64 0,.string (⟨#[]⟩ : ByteArray),.int .i64 0,.slice none 0 0,.int .i64 0,.string (⟨#[]⟩ : ByteArray),.int .i64 0,.slice none 0 0,.string (⟨#[]⟩ : ByteArray)] 48 (0,0)) (by (with_reducible repeat (first|refine blk_drewN ?_ _|refine blk_drew ?_|refine blk_alloc ?_ _));refine blk_far ?_ NB162_161.out _;(with_reducible repeat (first|refine blk_drewN ?_ _|refine blk_drew ?_|refine blk_alloc ?_ _));refine blk_far ?_ NB162_161.out _;(with_reducible repeat (first|refine blk_drewN ?_ _|refine blk_drew ?_|refine blk_alloc ?_ _));refine blk_far ?_ NB162_161.out _;(with_reducible repeat (first|refine blk_drewN ?_ _|refine blk_drew ?_|refine blk_alloc ?_ _));refine blk_far ?_ NB162_161.out _;(with_reducible repeat (first|refine blk_drewN ?_ _|refine blk_drew ?_|refine blk_alloc ?_ _));exact BK162.out) hb);have n4_:=Aside0.mk (below_step (by repeat (first|(with_reducible first|exact HB.out|apply below_alloc|apply pw_below_drewN|apply below_drew1|refine below_set ?_ GE161.out|refine below_set ?_ GE162.out)|exact HB.out)) hb);clear HO168;clear BK161;clear BK162;clear HB;have HO168:=n0_;have HO174:=n1_;have BK161:=n2_;have BK162:=n3_;have HB:=n4_;clear n0_ n1_ n2_ n3_ n4_;(try clear hb);(try clear hb2);(try clear hk);(try clear hi);(try clear ho0);have hcz12_0 : w11.cell? ⟨gb161,0,none⟩ = some (.int .i64 t163):=(blk_cell BK161.out 0).trans rfl;have hcz12_1 : w11.cell? ⟨gb161,1,none⟩ = some (.string t164):=(blk_cell BK161.out 1).trans rfl;have hcz12_2 : w11.cell? ⟨gb161,2,none⟩ = some (.int .i64 t165):=(blk_cell BK161.out 2).trans rfl;have hcz12_3 : w11.cell? ⟨gb161,3,none⟩ = some (.slice Ao10 t166.length co10):=(blk_cell BK161.out 3).trans rfl;have hcz12_4 : w11.cell? ⟨gb161,4,none⟩ = some (.int .i64 a0_4):=(blk_cell BK161.out 4).trans rfl;have hcz12_5 : w11.cell? ⟨gb161,5,none⟩ = some (.string a0_5):=(blk_cell BK161.out 5).trans rfl;have hcz12_6 : w11.cell? ⟨gb161,6,none⟩ = some (.int .i64 a0_6):=(blk_cell BK161.out 6).trans rfl;have hcz12_7 : w11.cell? ⟨gb161,7,none⟩ = some (.slice A0_7 l0_7.length c0_7):=(blk_cell BK161.out 7).trans rfl;have hcz12_8 : w11.cell? ⟨gb161,8,none⟩ = some (.string a0_8):=(blk_cell BK161.out 8).trans rfl;have hfz12_0:=blk_frozen BK161.out 0;have hfz12_1:=blk_frozen BK161.out 1;have hfz12_2:=blk_frozen BK161.out 2;have hfz12_3:=blk_frozen BK161.out 3;have hfz12_4:=blk_frozen BK161.out 4;have hfz12_5:=blk_frozen BK161.out 5;have hfz12_6:=blk_frozen BK161.out 6;have hfz12_7:=blk_frozen BK161.out 7;have hfz12_8:=blk_frozen BK161.out 8;obtain ⟨Ao13,co13,eo13⟩:=Kd.R_slice HO174.out;subst eo13;have hcz14_0 : w11.cell? ⟨gb162,0,none⟩ = some (.int .i64 0):=(blk_cell BK162.out 0).trans rfl;have hcz14_1 : w11.cell? ⟨gb162,1,none⟩ = some (.string (⟨#[]⟩ : ByteArray)):=(blk_cell BK162.out 1).trans rfl;have hcz14_2 : w11.cell? ⟨gb162,2,none⟩ = some (.int .i64 0):=(blk_cell BK162.out 2).trans rfl;have hcz14_3 : w11.cell? ⟨gb162,3,none⟩ = some (.slice none 0 0):=(blk_cell BK162.out 3).trans rfl;have hcz14_4 : w11.cell? ⟨gb162,4,none⟩ = some (.int .i64 0):=(blk_cell BK162.out 4).trans rfl;have hcz14_5 : w11.cell? ⟨gb162,5,none⟩ = some (.string (⟨#[]⟩ : ByteArray)):=(blk_cell BK162.out 5).trans rfl;have hcz14_6 : w11.cell? ⟨gb162,6,none⟩ = some (.int .i64 0):=(blk_cell BK162.out 6).trans rfl;have hcz14_7 : w11.cell? ⟨gb162,7,none⟩ = some (.slice none 0 0):=(blk_cell BK162.out 7).trans rfl;have hcz14_8 : w11.cell? ⟨gb162,8,none⟩ = some (.string (⟨#[]⟩ : ByteArray)):=(blk_cell BK162.out 8).trans rfl;have hfz14_0:=blk_frozen BK162.out 0;have hfz14_1:=blk_frozen BK162.out 1;have hfz14_2:=blk_frozen BK162.out 2;have hfz14_3:=blk_frozen BK162.out 3;have hfz14_4:=blk_frozen BK162.out 4;have hfz14_5:=blk_frozen BK162.out 5;have hfz14_6:=blk_frozen BK162.out 6;have hfz14_7:=blk_frozen BK162.out 7;have hfz14_8:=blk_frozen BK162.out 8))
 refine bodyPost_ret (results_cell_row rfl _ _ gb162 48 #[.int .i64 t163,.string t164,.int .i64 t165,.slice Ao10 t166.length co10,.int .i64 t169,.string t170,.int .i64 t171,.slice Ao13 t172.length co13,.string a0_8] (0,0) _ rfl (by (with_reducible repeat (first|refine blk_drewN ?_ _|refine blk_drew ?_|refine blk_alloc ?_ _));refine blk_put (cs:=#[.int .i64 t163,.string t164,.int .i64 t165,.slice Ao10 t166.length co10,.int .i64 t169,.string t170,.int .i64 t171,.slice Ao13 t172.length co13,.string (⟨#[]⟩ : ByteArray)]) ?_ 8 _ rfl;(with_reducible repeat (first|refine blk_drewN ?_ _|refine blk_drew ?_|refine blk_alloc ?_ _));refine blk_put (cs:=#[.int .i64 t163,.string t164,.int .i64 t165,.slice Ao10 t166.length co10,.int .i64 t169,.string t170,.int .i64 t171,.slice none 0 0,.string (⟨#[]⟩ : ByteArray)]) ?_ 7 _ rfl;(with_reducible repeat (first|refine blk_drewN ?_ _|refine blk_drew ?_|refine blk_alloc ?_ _));refine blk_put (cs:=#[.int .i64 t163,.string t164,.int .i64 t165,.slice Ao10 t166.length co10,.int .i64 t169,.string t170,.int .i64 0,.slice none 0 0,.string (⟨#[]⟩ : ByteArray)]) ?_ 6 _ rfl;(with_reducible repeat (first|refine blk_drewN ?_ _|refine blk_drew ?_|refine blk_alloc ?_ _));refine blk_put (cs:=#[.int .i64 t163,.string t164,.int .i64 t165,.slice Ao10 t166.length co10,.int .i64 t169,.string (⟨#[]⟩ : ByteArray),.int .i64 0,.slice none 0 0,.string (⟨#[]⟩ : ByteArray)]) ?_ 5 _ rfl;(with_reducible repeat (first|refine blk_drewN ?_ _|refine blk_drew ?_|refine blk_alloc ?_ _));refine blk_put (cs:=#[.int .i64 t163,.string t164,.int .i64 t165,.slice Ao10 t166.length co10,.int .i64 0,.string (⟨#[]⟩ : ByteArray),.int .i64 0,.slice none 0 0,.string (⟨#[]⟩ : ByteArray)]) ?_ 4 _ rfl;(with_reducible repeat (first|refine blk_drewN ?_ _|refine blk_drew ?_|refine blk_alloc ?_ _));refine blk_put (cs:=#[.int .i64 t163,.string t164,.int .i64 t165,.slice none 0 0,.int .i64 0,.string (⟨#[]⟩ : ByteArray),.int .i64 0,.slice none 0 0,.string (⟨#[]⟩ : ByteArray)]) ?_ 3 _ rfl;(with_reducible repeat (first|refine blk_drewN ?_ _|refine blk_drew ?_|refine blk_alloc ?_ _));refine blk_put (cs:=#[.int .i64 t163,.string t164,.int .i64 0,.slice none 0 0,.int .i64 0,.string (⟨#[]⟩ : ByteArray),.int .i64 0,.slice none 0 0,.string (⟨#[]⟩ : ByteArray)]) ?_ 2 _ rfl;(with_reducible repeat (first|refine blk_drewN ?_ _|refine blk_drew ?_|refine blk_alloc ?_ _));refine blk_put (cs:=#[.int .i64 t163,.string (⟨#[]⟩ : ByteArray),.int .i64 0,.slice none 0 0,.int .i64 0,.string (⟨#[]⟩ : ByteArray),.int .i64 0,.slice none 0 0,.string (⟨#[]⟩ : ByteArray)]) ?_ 1 _ rfl;(with_reducible repeat (first|refine blk_drewN ?_ _|refine blk_drew ?_|refine blk_alloc ?_ _));refine blk_put (cs:=#[.int .i64 0,.string (⟨#[]⟩ : ByteArray),.int .i64 0,.slice none 0 0,.int .i64 0,.string (⟨#[]⟩ : ByteArray),.int .i64 0,.slice none 0 0,.string (⟨#[]⟩ : ByteArray)]) ?_ 0 _ rfl;(with_reducible repeat (first|refine blk_drewN ?_ _|refine blk_drew ?_|refine blk_alloc ?_ _));refine blk_far ?_ NB162_161.out _;(with_reducible repeat (first|refine blk_drewN ?_ _|refine blk_drew ?_|refine blk_alloc ?_ _));refine blk_far ?_ NB162_161.out _;(with_reducible repeat (first|refine blk_drewN ?_ _|refine blk_drew ?_|refine blk_alloc ?_ _));refine blk_far ?_ NB162_161.out _;(with_reducible repeat (first|refine blk_drewN ?_ _|refine blk_drew ?_|refine blk_alloc ?_ _));refine blk_far ?_ NB162_161.out _;(with_reducible repeat (first|refine blk_drewN ?_ _|refine blk_drew ?_|refine blk_alloc ?_ _));exact BK162.out) Tryd.underlying48 rfl (by kernel_rfl)) rfl ?_
 exact ⟨_,_,by first|rfl|(simp [errW_none,errW_some] <;> rfl)|(simp [*,errW_none,errW_some] <;> rfl),by (with_reducible repeat (first|apply Kd.R_alloc|apply Kd.R_drewN|apply Kd.R_drew));exact Kd.R_mono (Kd.R_far (p:=⟨gb162,8,none⟩) (Kd.R_far (p:=⟨gb162,7,none⟩) (Kd.R_far (p:=⟨gb162,6,none⟩) (Kd.R_far (p:=⟨gb162,5,none⟩) (Kd.R_far (p:=⟨gb162,4,none⟩) (Kd.R_far (p:=⟨gb162,3,none⟩) (Kd.R_far (p:=⟨gb162,2,none⟩) (Kd.R_far (p:=⟨gb162,1,none⟩) (Kd.R_far (p:=⟨gb162,0,none⟩) (Kd.R_far (p:=⟨gb161,7,none⟩) (Kd.R_far (p:=⟨gb161,6,none⟩) (Kd.R_far (p:=⟨gb161,5,none⟩) (Kd.R_far (p:=⟨gb161,4,none⟩) (Kd.R_types (Kd.R_types HO168.out BK161.out (by decide)) BK162.out (by decide)) (fun _ hk => hk.1.2) (.int .i64 t169)) (fun _ hk => hk.1.2) (.string t170)) (fun _ hk => hk.1.2) (.int .i64 t171)) (fun _ hk => hk.1.2) (.slice Ao13 t172.length co13)) (fun _ hk => hk.2) (.int .i64 t163)) (fun _ hk => hk.2) (.string t164)) (fun _ hk => hk.2) (.int .i64 t165)) (fun _ hk => hk.2) (.slice Ao10 t166.length co10)) (fun _ hk => hk.2) (.int .i64 t169)) (fun _ hk => hk.2) (.string t170)) (fun _ hk => hk.2) (.int .i64 t171)) (fun _ hk => hk.2) (.slice Ao13 t172.length co13)) (fun _ hk => hk.2) (.string a0_8)) (fun _ hk => hk.1.1.2),by (with_reducible repeat (first|apply Kd.R_alloc|apply Kd.R_drewN|apply Kd.R_drew));exact Kd.R_mono (Kd.R_far (p:=⟨gb162,8,none⟩) (Kd.R_far (p:=⟨gb162,7,none⟩) (Kd.R_far (p:=⟨gb162,6,none⟩) (Kd.R_far (p:=⟨gb162,5,none⟩) (Kd.R_far (p:=⟨gb162,4,none⟩) (Kd.R_far (p:=⟨gb162,3,none⟩) (Kd.R_far (p:=⟨gb162,2,none⟩) (Kd.R_far (p:=⟨gb162,1,none⟩) (Kd.R_far (p:=⟨gb162,0,none⟩) (Kd.R_far (p:=⟨gb161,7,none⟩) (Kd.R_far (p:=⟨gb161,6,none⟩) (Kd.R_far (p:=⟨gb161,5,none⟩) (Kd.R_far (p:=⟨gb161,4,none⟩) (Kd.R_types (Kd.R_types HO174.out BK161.out (by decide)) BK162.out (by decide)) (fun _ hk => hk.1.2) (.int .i64 t169)) (fun _ hk => hk.1.2) (.string t170)) (fun _ hk => hk.1.2) (.int .i64 t171)) (fun _ hk => hk.1.2) (.slice Ao13 t172.length co13)) (fun _ hk => hk.2) (.int .i64 t163)) (fun _ hk => hk.2) (.string t164)) (fun _ hk => hk.2) (.int .i64 t165)) (fun _ hk => hk.2) (.slice Ao10 t166.length co10)) (fun _ hk => hk.2) (.int .i64 t169)) (fun _ hk => hk.2) (.string t170)) (fun _ hk => hk.2) (.int .i64 t171)) (fun _ hk => hk.2) (.slice Ao13 t172.length co13)) (fun _ hk => hk.2) (.string a0_8)) (fun _ hk => hk.1.1.2),by repeat (first|(with_reducible first|exact HB.out|apply below_alloc|apply pw_below_drewN|apply below_drew1|refine below_set ?_ GE161.out|refine below_set ?_ GE162.out)|exact HB.out)⟩
def impl_within.f (a0 : Int) (a1 : Int) (a2 : Int) : Option (Bool):=if a0 ≥ a1 then (some (decide (a0 ≤ a2))) else (some false)
set_option maxHeartbeats 8000000 in
set_option maxRecDepth 100000 in
theorem impl_within.calls (a0 : Int) (a1 : Int) (a2 : Int) (r : Bool) (w : World) (h : impl_within.f a0 a1 a2 = some r) :
  Calls Tryd.prog 110 #[.int .i64 a0,.int .i64 a1,.int .i64 a2] w fun e w' => e = .returned (.bool r) ∧ Drawn0 w w':=by
 have H : (if a0 ≥ a1 then (some (decide (a0 ≤ a2))) else (some false)) = some r:=h
 clear h
 by_cases c4 : a0 ≥ a1
 ·rw [if_pos c4] at H
  have c4b0 : decide (a1 ≤ a0) = true:=decide_eq_true c4
  clear c4
  obtain rfl:=Option.some.inj H
  go_enter Tryd.func110,Tryd.ntmps110
  go_wp2
  go_ret
  exact ⟨by first|rfl|(simp;done)|(simp [*];done),by repeat (first|exact Drawn0.refl _|apply Drawn0.step)⟩
 ·rw [if_neg c4] at H
  have c4b0 : decide (a1 ≤ a0) = false:=decide_eq_false c4
  clear c4
  obtain rfl:=Option.some.inj H
  go_enter Tryd.func110,Tryd.ntmps110
  go_wp2
  go_ret
  exact ⟨by first|rfl|(simp;done)|(simp [*];done),by repeat (first|exact Drawn0.refl _|apply Drawn0.step)⟩
def impl_nameOk.l0 : Nat → ByteArray → Int → Option (Bool)
 | 0,_,_ => none
 | k + 1,x0,x3 => if x3 < (x0.size : Int) then (if 0 ≤ x3 then ((impl_within.f (wrap64 (bt x0 x3)) 33 126).bind fun t175 => (if t175 = true then (if (bt x0 x3) = 39 then (some false) else (if (bt x0 x3) = 34 then (some false) else (impl_nameOk.l0 k x0 (wrap64 (x3 + 1))))) else (some false))) else (none)) else ((impl_within.f (x0.size : Int) 1 20).bind fun t176 => (some t176))
def impl_nameOk.f (k : Nat) (a0 : ByteArray) : Option (Bool):=impl_nameOk.l0 k a0 0
theorem impl_nameOk.mono_l : ∀ k,(∀ y0 y1,LeO (impl_nameOk.l0 k y0 y1) (impl_nameOk.l0 (k + 1) y0 y1))
 | 0 => fun _ _ r h => by simp [impl_nameOk.l0] at h
 | k + 1 => by
  have ih0:=impl_nameOk.mono_l k
  ·intro y0 y1
   unfold impl_nameOk.l0
   repeat' first
   | (with_reducible exact ih0 _ _)
   | (with_reducible exact LeO.refl _)
   | (with_reducible exact LeO.none _)
   | (with_reducible refine LeO.ite ?_ ?_)
   | (with_reducible refine LeO.bind ?_ (fun _ => ?_))
   | exact ih0 _ _
   | exact LeO.none _
   | refine LeO.ite ?_ ?_
   | refine LeO.bind ?_ (fun _ => ?_)
theorem impl_nameOk.mono : ∀ a0 k,LeO (impl_nameOk.f k a0) (impl_nameOk.f (k + 1) a0):=by
 intro a0 k
 have ih0:=impl_nameOk.mono_l k
 unfold impl_nameOk.f
 repeat' first
   | (with_reducible exact ih0 _ _)
   | (with_reducible exact LeO.refl _)
   | (with_reducible exact LeO.none _)
   | (with_reducible refine LeO.ite ?_ ?_)
   | (with_reducible refine LeO.bind ?_ (fun _ => ?_))
   | exact ih0 _ _
   | exact LeO.none _
   | refine LeO.ite ?_ ?_
   | refine LeO.bind ?_ (fun _ => ?_)
set_option maxHeartbeats 8000000 in
set_option maxRecDepth 100000 in
theorem impl_nameOk.calls (k : Nat) (a0 : ByteArray) (r : Bool) (w : World) (h : impl_nameOk.f k a0 = some r) :
  Calls Tryd.prog 111 #[.string a0] w fun e w' => e = .returned (.bool r) ∧ Drawn0 w w':=by
 have H : (impl_nameOk.l0 k a0 0) = some r:=h
 clear h
 have H':=Aside0.mk H
 clear H
 go_enter Tryd.func111,Tryd.ntmps111
 go_wp2
 go_loopg [3] k (fun kq v3 w' => ∃ (x3_1 : Int),v3 = .int .i64 x3_1 ∧ Aside0 (impl_nameOk.l0 kq a0 x3_1 = some r) ∧ Aside0 (kq ≤ k) ∧ Drawn0 w w')
 case atStart => exact ⟨(0),(by first|rfl|(simp;done)|(simp [*];done)),H',⟨Nat.le_refl _⟩,by repeat (first|exact Drawn0.refl _|apply Drawn0.step)⟩
 case round =>
  clear H'
  obtain ⟨x3_1,rfl,HA,HK1,⟨m1,rfl⟩⟩:=hrel
  cases gk with
  | zero => exact absurd HA.out (by simp [impl_nameOk.l0])
  | succ k1 =>
   have H:=HA.out
   clear HA
   simp only [impl_nameOk.l0] at H
   by_cases c2 : x3_1 < (a0.size : Int)
   ·rw [if_pos c2] at H
    have c2b0 : decide (x3_1 < (a0.size : Int)) = true:=decide_eq_true c2
    clear c2
    by_cases c3 : 0 ≤ x3_1
    rotate_left
    ·rw [if_neg c3] at H
     exact absurd H (by simp)
    rw [if_pos c3] at H
    have c3b0 : decide (0 ≤ x3_1) = true:=decide_eq_true c3
    clear c3
    replace H:=Option.bind_eq_some_iff.mp H
    obtain ⟨t175,A50,H⟩:=H
    replace H : (if t175 = true then (if (bt a0 x3_1) = 39 then (some false) else (if (bt a0 x3_1) = 34 then (some false) else (impl_nameOk.l0 k1 a0 (wrap64 (x3_1 + 1))))) else (some false)) = some r:=H
    have A5:=Aside0.mk A50
    clear A50
    by_cases c6 : t175 = true
    ·subst c6
     have H1 : (if (bt a0 x3_1) = 39 then (some false) else (if (bt a0 x3_1) = 34 then (some false) else (impl_nameOk.l0 k1 a0 (wrap64 (x3_1 + 1))))) = some r:=by rw [if_pos rfl] at H;exact H
     clear H
     have H:=H1
     clear H1
     by_cases c8 : (bt a0 x3_1) = 39
     ·rw [if_pos c8] at H
      have c8b0 : ((bt a0 x3_1) == 39) = true:=beq_iff_eq.mpr c8
      have c8b1 : ((bt a0 x3_1) != 39) = false:=bne_eq_false_iff_eq.mpr c8
      clear c8
      obtain rfl:=Option.some.inj H
      have p4 : 0 ≤ (x3_1 : Int):=of_decide_eq_true (by first|(with_reducible assumption)|assumption)
      have q4 : x3_1 < (a0.size : Int):=of_decide_eq_true (by first|(with_reducible assumption)|assumption)
      have hx4:=bt_at a0 x3_1
      replace p4:=eq_true p4
      replace q4:=eq_true q4
      go_wp2_with (first|((with_reducible refine gate_callee (f:=110) rfl ?_);refine goesL_ (some 14) rfl rfl Tryd.func110 (by kernel_rfl) rfl #[.int .i64 (wrap64 (bt a0 x3_1)),.int .i64 33,.int .i64 126] rfl (by (try simp only [List.map_toArray,List.map_cons,List.map_nil]);first|done|rfl|(simp only [List.length_drop,List.length_take];rfl)) ?_;(with_reducible refine (impl_within.calls (wrap64 (bt a0 x3_1)) 33 126 true _ A5.out).mono ?_);rintro e w' ⟨rfl,⟨nd,rfl⟩⟩;refine ⟨_,rfl,?_⟩;have p7 : 0 ≤ (x3_1 : Int):=of_decide_eq_true (by first|(with_reducible assumption)|assumption);have q7 : x3_1 < (a0.size : Int):=of_decide_eq_true (by first|(with_reducible assumption)|assumption);have hx7:=bt_at a0 x3_1;replace p7:=eq_true p7;replace q7:=eq_true q7))
      go_ret
      exact ⟨by first|rfl|(simp;done)|(simp [*];done),by repeat (first|exact Drawn0.refl _|apply Drawn0.step)⟩
     ·rw [if_neg c8] at H
      have c8b0 : ((bt a0 x3_1) == 39) = false:=beq_eq_false_iff_ne.mpr c8
      have c8b1 : ((bt a0 x3_1) != 39) = true:=bne_iff_ne.mpr c8
      by_cases c10 : (bt a0 x3_1) = 34
      ·rw [if_pos c10] at H
       have c10b0 : ((bt a0 x3_1) == 34) = true:=beq_iff_eq.mpr c10
       have c10b1 : ((bt a0 x3_1) != 34) = false:=bne_eq_false_iff_eq.mpr c10
       clear c10
       obtain rfl:=Option.some.inj H
       have p4 : 0 ≤ (x3_1 : Int):=of_decide_eq_true (by first|(with_reducible assumption)|assumption)
       have q4 : x3_1 < (a0.size : Int):=of_decide_eq_true (by first|(with_reducible assumption)|assumption)
       have hx4:=bt_at a0 x3_1
       replace p4:=eq_true p4
       replace q4:=eq_true q4
       go_wp2_with (first|((with_reducible refine gate_callee (f:=110) rfl ?_);refine goesL_ (some 14) rfl rfl Tryd.func110 (by kernel_rfl) rfl #[.int .i64 (wrap64 (bt a0 x3_1)),.int .i64 33,.int .i64 126] rfl (by (try simp only [List.map_toArray,List.map_cons,List.map_nil]);first|done|rfl|(simp only [List.length_drop,List.length_take];rfl)) ?_;(with_reducible refine (impl_within.calls (wrap64 (bt a0 x3_1)) 33 126 true _ A5.out).mono ?_);rintro e w' ⟨rfl,⟨nd,rfl⟩⟩;refine ⟨_,rfl,?_⟩;have p7 : 0 ≤ (x3_1 : Int):=of_decide_eq_true (by first|(with_reducible assumption)|assumption);have q7 : x3_1 < (a0.size : Int):=of_decide_eq_true (by first|(with_reducible assumption)|assumption);have hx7:=bt_at a0 x3_1;replace p7:=eq_true p7;replace q7:=eq_true q7;have p9 : 0 ≤ (x3_1 : Int):=of_decide_eq_true (by first|(with_reducible assumption)|assumption);have q9 : x3_1 < (a0.size : Int):=of_decide_eq_true (by first|(with_reducible assumption)|assumption);have hx9:=bt_at a0 x3_1;replace p9:=eq_true p9;replace q9:=eq_true q9))
       go_ret
       exact ⟨by first|rfl|(simp;done)|(simp [*];done),by repeat (first|exact Drawn0.refl _|apply Drawn0.step)⟩
      ·rw [if_neg c10] at H
       have c10b0 : ((bt a0 x3_1) == 34) = false:=beq_eq_false_iff_ne.mpr c10
       have c10b1 : ((bt a0 x3_1) != 34) = true:=bne_iff_ne.mpr c10
       have H':=Aside0.mk H
       clear H
       have p4 : 0 ≤ (x3_1 : Int):=of_decide_eq_true (by first|(with_reducible assumption)|assumption)
       have q4 : x3_1 < (a0.size : Int):=of_decide_eq_true (by first|(with_reducible assumption)|assumption)
       have hx4:=bt_at a0 x3_1
       replace p4:=eq_true p4
       replace q4:=eq_true q4
       go_wp2_with (first|((with_reducible refine gate_callee (f:=110) rfl ?_);refine goesL_ (some 14) rfl rfl Tryd.func110 (by kernel_rfl) rfl #[.int .i64 (wrap64 (bt a0 x3_1)),.int .i64 33,.int .i64 126] rfl (by (try simp only [List.map_toArray,List.map_cons,List.map_nil]);first|done|rfl|(simp only [List.length_drop,List.length_take];rfl)) ?_;(with_reducible refine (impl_within.calls (wrap64 (bt a0 x3_1)) 33 126 true _ A5.out).mono ?_);rintro e w' ⟨rfl,⟨nd,rfl⟩⟩;refine ⟨_,rfl,?_⟩;have p7 : 0 ≤ (x3_1 : Int):=of_decide_eq_true (by first|(with_reducible assumption)|assumption);have q7 : x3_1 < (a0.size : Int):=of_decide_eq_true (by first|(with_reducible assumption)|assumption);have hx7:=bt_at a0 x3_1;replace p7:=eq_true p7;replace q7:=eq_true q7;have p9 : 0 ≤ (x3_1 : Int):=of_decide_eq_true (by first|(with_reducible assumption)|assumption);have q9 : x3_1 < (a0.size : Int):=of_decide_eq_true (by first|(with_reducible assumption)|assumption);have hx9:=bt_at a0 x3_1;replace p9:=eq_true p9;replace q9:=eq_true q9))
       go_roundg k1
       case measure => have:=HK1.out;omega
       case rel => exact ⟨(wrap64 (x3_1 + 1)),(by first|rfl|(simp;done)|(simp [*];done)),H',⟨by have:=HK1.out;omega⟩,by repeat (first|exact Drawn0.refl _|apply Drawn0.step)⟩
    ·replace c6:=Bool.eq_false_iff.mpr c6
     subst c6
     have H1 : (some false) = some r:=by rw [if_neg (show ¬ (false = true) by decide)] at H;exact H
     clear H
     have H:=H1
     clear H1
     obtain rfl:=Option.some.inj H
     have p4 : 0 ≤ (x3_1 : Int):=of_decide_eq_true (by first|(with_reducible assumption)|assumption)
     have q4 : x3_1 < (a0.size : Int):=of_decide_eq_true (by first|(with_reducible assumption)|assumption)
     have hx4:=bt_at a0 x3_1
     replace p4:=eq_true p4
     replace q4:=eq_true q4
     go_wp2_with (first|((with_reducible refine gate_callee (f:=110) rfl ?_);refine goesL_ (some 14) rfl rfl Tryd.func110 (by kernel_rfl) rfl #[.int .i64 (wrap64 (bt a0 x3_1)),.int .i64 33,.int .i64 126] rfl (by (try simp only [List.map_toArray,List.map_cons,List.map_nil]);first|done|rfl|(simp only [List.length_drop,List.length_take];rfl)) ?_;(with_reducible refine (impl_within.calls (wrap64 (bt a0 x3_1)) 33 126 false _ A5.out).mono ?_);rintro e w' ⟨rfl,⟨nd,rfl⟩⟩;refine ⟨_,rfl,?_⟩))
     go_ret
     exact ⟨by first|rfl|(simp;done)|(simp [*];done),by repeat (first|exact Drawn0.refl _|apply Drawn0.step)⟩
   ·rw [if_neg c2] at H
    have c2b0 : decide (x3_1 < (a0.size : Int)) = false:=decide_eq_false c2
    clear c2
    replace H:=Option.bind_eq_some_iff.mp H
    obtain ⟨t176,A110,H⟩:=H
    replace H : (some t176) = some r:=H
    have A11:=Aside0.mk A110
    clear A110
    obtain rfl:=Option.some.inj H
    go_wp2_with (first|((with_reducible refine gate_callee (f:=110) rfl ?_);refine goesL_ (some 30) rfl rfl Tryd.func110 (by kernel_rfl) rfl #[.int .i64 (a0.size : Int),.int .i64 1,.int .i64 20] rfl (by (try simp only [List.map_toArray,List.map_cons,List.map_nil]);first|done|rfl|(simp only [List.length_drop,List.length_take];rfl)) ?_;(with_reducible refine (impl_within.calls (a0.size : Int) 1 20 t176 _ A11.out).mono ?_);rintro e w' ⟨rfl,⟨nd,rfl⟩⟩;refine ⟨_,rfl,?_⟩))
    go_ret
    exact ⟨by first|rfl|(simp;done)|(simp [*];done),by repeat (first|exact Drawn0.refl _|apply Drawn0.step)⟩
end Go.Proofs.YtojedbogbodkiaaDoor.KCo
