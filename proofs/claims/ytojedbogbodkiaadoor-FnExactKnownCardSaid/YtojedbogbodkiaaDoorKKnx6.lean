/- Contracts of functions of the program and of the reference, each a Lean function and the proof that Go comes to its answer. Written by wip/pp/pp.py out of the kit's print, for this claim; nothing of it is trusted: Lean checks it. -/
import Derived.Test.YtojedbogbodkiaaDoorKKnx0
import Derived.Test.YtojedbogbodkiaaDoorKKnx1
import Derived.Test.YtojedbogbodkiaaDoorKKnx3
import Derived.Test.YtojedbogbodkiaaDoorKKnx5
namespace Go.Proofs.YtojedbogbodkiaaDoor.KKn
open Go.RowKit Go.Proofs.YtojedbogbodkiaaDoorW.PrintWords Go.Proofs.YtojedbogbodkiaaDoorW.PrintLast Go.Proofs.YtojedbogbodkiaaDoorW.PrintMore
attribute [local go_sem] max2_int min2_int max_two min_two max_three min_three max_four min_four   -- for this text's walks alone
set_option linter.unusedVariables false
set_option linter.unusedSimpArgs false

set_option linter.unusedSectionVars false
variable [fk_laws_szTerm] [fk_laws_toTerm] [fk_laws_eqTerm] [fk_spec_l34Term] [fk_strconv_Itoa] [fk_impl_Known]
/-! ### laws_FnExactKnown: function 4 -/
def laws_FnExactKnown.f (k : Nat) (l0_0 : List (S60)) (l0_1 : List ByteArray) (a1 : ByteArray) : Option (Bool):=if (a1.size : Int) > 1048576 then (some true) else ((laws_szDb.f k l0_0 l0_1 1048576).bind fun t285 => (if t285 < 0 then (some true) else ((laws_toDb.f k l0_0 l0_1).bind fun bt286 => ((spec_Known.f k bt286.1 bt286.2 a1).bind fun t292 => ((laws_toDb.f k l0_0 l0_1).bind fun bt293 => ((fk_impl_Known.f k bt293.1 bt293.2 a1).bind fun t300 => (if (t300 != t292) = true then (some false) else ((laws_toDb.f k l0_0 l0_1).bind fun bt301 => ((laws_eqDb.f k bt293.1 bt293.2 bt301.1 bt301.2).bind fun t307 => (if t307 = true then (some true) else (some false)))))))))))
theorem laws_FnExactKnown.mono : ∀ a0 a1 a2 k,LeO (laws_FnExactKnown.f k a0 a1 a2) (laws_FnExactKnown.f (k + 1) a0 a1 a2):=by
 intro a0 a1 a2 k
 unfold laws_FnExactKnown.f
 repeat' first
   | (with_reducible exact fk_impl_Known.mono _ _ _ _)
   | (with_reducible exact laws_eqDb.mono _ _ _ _ _)
   | (with_reducible exact laws_szDb.mono _ _ _ _)
   | (with_reducible exact laws_toDb.mono _ _ _)
   | (with_reducible exact spec_Known.mono _ _ _ _)
   | (with_reducible exact LeO.refl _)
   | (with_reducible exact LeO.none _)
   | (with_reducible refine LeO.ite ?_ ?_)
   | (with_reducible refine LeO.bind ?_ (fun _ => ?_))
   | exact fk_impl_Known.mono _ _ _ _
   | exact laws_eqDb.mono _ _ _ _ _
   | exact laws_szDb.mono _ _ _ _
   | exact laws_toDb.mono _ _ _
   | exact spec_Known.mono _ _ _ _
   | exact LeO.none _
   | refine LeO.ite ?_ ?_
   | refine LeO.bind ?_ (fun _ => ?_)
set_option maxHeartbeats 8000000 in
set_option maxRecDepth 100000 in
theorem laws_FnExactKnown.calls (k : Nat) (A0_0 : Option Addr) (c0_0 : Nat) (l0_0 : List (S60)) (A0_1 : Option Addr) (c0_1 : Nat) (l0_1 : List ByteArray) (a1 : ByteArray) (r : Bool) (w : World) (hTAB : Lib.TabBelow Tryd.prog w.heap.size w "internal/strconv.uint64pow10" .u64 Lib.pow10Tab) (hr0_0 : Kd.C k60 w A0_0 l0_0.length l0_0) (hc0_0 : l0_0.length ≤ c0_0) (hr0_1 : Kd.C Kd.string w A0_1 l0_1.length l0_1) (hc0_1 : l0_1.length ≤ c0_1) (h : laws_FnExactKnown.f k l0_0 l0_1 a1 = some r) :
  Calls Tryd.prog 4 #[.agg #[.slice A0_0 l0_0.length c0_0,.slice A0_1 l0_1.length c0_1],.string a1] w fun e w' => e = .returned (.bool r) ∧ Below w.heap.size w w':=by
 have hu36:=Tryd.underlying36
 have hu41:=Tryd.underlying41
 have HR0_0:=Aside0.mk hr0_0
 have HC0_0:=Aside0.mk hc0_0
 clear hr0_0 hc0_0
 have HR0_1:=Aside0.mk hr0_1
 have HC0_1:=Aside0.mk hc0_1
 clear hr0_1 hc0_1
 have HB:=Aside0.mk (Below.refl w.heap.size w)
 have HTAB:=Aside0.mk hTAB
 clear hTAB
 have H : (if (a1.size : Int) > 1048576 then (some true) else ((laws_szDb.f k l0_0 l0_1 1048576).bind fun t285 => (if t285 < 0 then (some true) else ((laws_toDb.f k l0_0 l0_1).bind fun bt286 => ((spec_Known.f k bt286.1 bt286.2 a1).bind fun t292 => ((laws_toDb.f k l0_0 l0_1).bind fun bt293 => ((fk_impl_Known.f k bt293.1 bt293.2 a1).bind fun t300 => (if (t300 != t292) = true then (some false) else ((laws_toDb.f k l0_0 l0_1).bind fun bt301 => ((laws_eqDb.f k bt293.1 bt293.2 bt301.1 bt301.2).bind fun t307 => (if t307 = true then (some true) else (some false)))))))))))) = some r:=h
 clear h
 by_cases c3 : (a1.size : Int) > 1048576
 ·rw [if_pos c3] at H
  have c3b0 : decide (1048576 < (a1.size : Int)) = true:=decide_eq_true c3
  have c3b1 : decide (1048576 < a1.size) = true:=decide_eq_true (by omega)
  clear c3
  obtain rfl:=Option.some.inj H
  go_enter Tryd.func4,Tryd.ntmps4
  go_wp2_with (first|((with_reducible refine gate_dst (N:=2) rfl ?_);refine box_event ?hg (N:=2) ?hd (cs:=#[.slice A0_0 l0_0.length c0_0,.slice A0_1 l0_1.length c0_1]) (t:=36) ?hr ?_;(case hd => rfl);(case hg => rfl);(case hr => first|(go_simp;done)|(go_simp;rfl));intro gb284 hg w4 hbox hb;have n0_:=Aside0.mk (below_step (by repeat (first|(with_reducible first|exact HB.out|apply below_alloc|apply pw_below_drewN|apply below_drew1)|exact HB.out)) hb);have n1_:=Aside0.mk (hbox);have n2_:=Aside0.mk ((by rw [hg];exact (below_size (by repeat (first|(with_reducible first|exact HB.out|apply below_alloc|apply pw_below_drewN|apply below_drew1)|exact HB.out))) : w.heap.size ≤ gb284));have n3_:=Aside0.mk ((by rw [hg];exact (below_size (by repeat (first|(with_reducible first|exact HB.out|apply below_alloc|apply pw_below_drewN|apply below_drew1)|exact HB.out))) : w.heap.size ≤ gb284));clear HB;have HB:=n0_;have BK284:=n1_;have GW284:=n2_;have GE284:=n3_;clear n0_ n1_ n2_ n3_;clear hb hbox hg))
  go_ret
  exact ⟨by first|rfl|(simp [errW_none,errW_some] <;> rfl)|(simp [*,errW_none,errW_some] <;> rfl),by repeat (first|(with_reducible first|exact HB.out|apply below_alloc|apply pw_below_drewN|apply below_drew1|refine below_set ?_ GE284.out)|exact HB.out)⟩
 ·rw [if_neg c3] at H
  have c3b0 : decide (1048576 < (a1.size : Int)) = false:=decide_eq_false c3
  have c3b1 : decide (1048576 < a1.size) = false:=decide_eq_false (by omega)
  clear c3
  replace H:=Option.bind_eq_some_iff.mp H
  obtain ⟨t285,A50,H⟩:=H
  replace H : (if t285 < 0 then (some true) else ((laws_toDb.f k l0_0 l0_1).bind fun bt286 => ((spec_Known.f k bt286.1 bt286.2 a1).bind fun t292 => ((laws_toDb.f k l0_0 l0_1).bind fun bt293 => ((fk_impl_Known.f k bt293.1 bt293.2 a1).bind fun t300 => (if (t300 != t292) = true then (some false) else ((laws_toDb.f k l0_0 l0_1).bind fun bt301 => ((laws_eqDb.f k bt293.1 bt293.2 bt301.1 bt301.2).bind fun t307 => (if t307 = true then (some true) else (some false)))))))))) = some r:=H
  have A5:=Aside0.mk A50
  clear A50
  by_cases c6 : t285 < 0
  ·rw [if_pos c6] at H
   have c6b0 : decide (t285 < 0) = true:=decide_eq_true c6
   clear c6
   obtain rfl:=Option.some.inj H
   go_enter Tryd.func4,Tryd.ntmps4
   go_wp2_with (first|((with_reducible refine gate_dst (N:=2) rfl ?_);refine box_event ?hg (N:=2) ?hd (cs:=#[.slice A0_0 l0_0.length c0_0,.slice A0_1 l0_1.length c0_1]) (t:=36) ?hr ?_;(case hd => rfl);(case hg => rfl);(case hr => first|(go_simp;done)|(go_simp;rfl));intro gb284 hg w7 hbox hb;have n0_:=Aside0.mk (below_step (by repeat (first|(with_reducible first|exact HB.out|apply below_alloc|apply pw_below_drewN|apply below_drew1)|exact HB.out)) hb);have n1_:=Aside0.mk (hbox);have n2_:=Aside0.mk ((by rw [hg];exact (below_size (by repeat (first|(with_reducible first|exact HB.out|apply below_alloc|apply pw_below_drewN|apply below_drew1)|exact HB.out))) : w.heap.size ≤ gb284));have n3_:=Aside0.mk ((by rw [hg];exact (below_size (by repeat (first|(with_reducible first|exact HB.out|apply below_alloc|apply pw_below_drewN|apply below_drew1)|exact HB.out))) : w.heap.size ≤ gb284));clear HB;have HB:=n0_;have BK284:=n1_;have GW284:=n2_;have GE284:=n3_;clear n0_ n1_ n2_ n3_;clear hb hbox hg;have hcz8_0 : w7.cell? ⟨gb284,0,none⟩ = some (.slice A0_0 l0_0.length c0_0):=(blk_cell BK284.out 0).trans rfl;have hcz8_1 : w7.cell? ⟨gb284,1,none⟩ = some (.slice A0_1 l0_1.length c0_1):=(blk_cell BK284.out 1).trans rfl;have hfz8_0:=blk_frozen BK284.out 0;have hfz8_1:=blk_frozen BK284.out 1)|((with_reducible refine gate_callee (f:=15) rfl ?_);refine goesL_ (some 14) rfl rfl Tryd.func15 (by kernel_rfl) rfl #[.agg #[.slice A0_0 l0_0.length c0_0,.slice A0_1 l0_1.length c0_1],.int .i64 1048576] rfl (by (try simp only [List.map_toArray,List.map_cons,List.map_nil]);first|done|rfl|(simp only [List.length_drop,List.length_take];rfl)) ?_;(with_reducible refine (laws_szDb.calls k _ _ l0_0 _ _ l0_1 1048576 t285 _ ?side1 ?side2 ?side3 ?side4 A5.out).mono ?_);(case side1 => repeat (first|exact (Kd.C_below HR0_0.out HB.out)|(with_reducible refine Kd.C_alloc ?_ _)|(with_reducible refine Kd.C_drewN ?_ _)|(with_reducible refine Kd.C_drew ?_)));(case side2 => exact HC0_0.out);(case side3 => repeat (first|exact (Kd.C_below HR0_1.out HB.out)|(with_reducible refine Kd.C_alloc ?_ _)|(with_reducible refine Kd.C_drewN ?_ _)|(with_reducible refine Kd.C_drew ?_)));(case side4 => exact HC0_1.out);rintro e w9 ⟨rfl,hb⟩;refine ⟨_,rfl,?_⟩;have n0_:=Aside0.mk (blk_below (g:=gb284) (o:=.cells #[.slice A0_0 l0_0.length c0_0,.slice A0_1 l0_1.length c0_1] 36 (0,0)) (by (with_reducible repeat (first|refine blk_drewN ?_ _|refine blk_drew ?_|refine blk_alloc ?_ _));exact BK284.out) hb);have n1_:=Aside0.mk (below_step (by repeat (first|(with_reducible first|exact HB.out|apply below_alloc|apply pw_below_drewN|apply below_drew1|refine below_set ?_ GE284.out)|exact HB.out)) hb);clear BK284;clear HB;have BK284:=n0_;have HB:=n1_;clear n0_ n1_;(try clear hb)))
   go_ret
   exact ⟨by first|rfl|(simp [errW_none,errW_some] <;> rfl)|(simp [*,errW_none,errW_some] <;> rfl),by repeat (first|(with_reducible first|exact HB.out|apply below_alloc|apply pw_below_drewN|apply below_drew1|refine below_set ?_ GE284.out)|exact HB.out)⟩
  ·rw [if_neg c6] at H
   have c6b0 : decide (t285 < 0) = false:=decide_eq_false c6
   clear c6
   replace H:=Option.bind_eq_some_iff.mp H
   obtain ⟨⟨t286,t289⟩,A100,H⟩:=H
   replace H : ((spec_Known.f k t286 t289 a1).bind fun t292 => ((laws_toDb.f k l0_0 l0_1).bind fun bt293 => ((fk_impl_Known.f k bt293.1 bt293.2 a1).bind fun t300 => (if (t300 != t292) = true then (some false) else ((laws_toDb.f k l0_0 l0_1).bind fun bt301 => ((laws_eqDb.f k bt293.1 bt293.2 bt301.1 bt301.2).bind fun t307 => (if t307 = true then (some true) else (some false)))))))) = some r:=H
   have A10:=Aside0.mk A100
   clear A100
   replace H:=Option.bind_eq_some_iff.mp H
   obtain ⟨t292,A110,H⟩:=H
   replace H : ((laws_toDb.f k l0_0 l0_1).bind fun bt293 => ((fk_impl_Known.f k bt293.1 bt293.2 a1).bind fun t300 => (if (t300 != t292) = true then (some false) else ((laws_toDb.f k l0_0 l0_1).bind fun bt301 => ((laws_eqDb.f k bt293.1 bt293.2 bt301.1 bt301.2).bind fun t307 => (if t307 = true then (some true) else (some false))))))) = some r:=H
   have A11:=Aside0.mk A110
   clear A110
   replace H:=Option.bind_eq_some_iff.mp H
   obtain ⟨⟨t293,t296⟩,A120,H⟩:=H
   replace H : ((fk_impl_Known.f k t293 t296 a1).bind fun t300 => (if (t300 != t292) = true then (some false) else ((laws_toDb.f k l0_0 l0_1).bind fun bt301 => ((laws_eqDb.f k t293 t296 bt301.1 bt301.2).bind fun t307 => (if t307 = true then (some true) else (some false)))))) = some r:=H
   have A12:=Aside0.mk A120
   clear A120
   replace H:=Option.bind_eq_some_iff.mp H
   obtain ⟨t300,A130,H⟩:=H
   replace H : (if (t300 != t292) = true then (some false) else ((laws_toDb.f k l0_0 l0_1).bind fun bt301 => ((laws_eqDb.f k t293 t296 bt301.1 bt301.2).bind fun t307 => (if t307 = true then (some true) else (some false))))) = some r:=H
   have A13:=Aside0.mk A130
   clear A130
   by_cases c14 : (t300 != t292) = true
   ·rw [if_pos c14] at H
    have c14b0 : (t300 != t292) = true:=c14
    (try (have c14b1 : decide (t300 = t292) = false:=by simpa using c14))
    (try (have c14b2 : (t300 == t292) = false:=by simpa using c14))
    (try (have c14b3 : ¬ (t300 = t292):=by simpa using c14))
    clear c14
    obtain rfl:=Option.some.inj H
    go_enter Tryd.func4,Tryd.ntmps4
    go_wp2_with (first|((with_reducible refine gate_dst (N:=2) rfl ?_);refine box_event ?hg (N:=2) ?hd (cs:=#[.slice A0_0 l0_0.length c0_0,.slice A0_1 l0_1.length c0_1]) (t:=36) ?hr ?_;(case hd => rfl);(case hg => rfl);(case hr => first|(go_simp;done)|(go_simp;rfl));intro gb284 hg w15 hbox hb;have n0_:=Aside0.mk (below_step (by repeat (first|(with_reducible first|exact HB.out|apply below_alloc|apply pw_below_drewN|apply below_drew1)|exact HB.out)) hb);have n1_:=Aside0.mk (hbox);have n2_:=Aside0.mk ((by rw [hg];exact (below_size (by repeat (first|(with_reducible first|exact HB.out|apply below_alloc|apply pw_below_drewN|apply below_drew1)|exact HB.out))) : w.heap.size ≤ gb284));have n3_:=Aside0.mk ((by rw [hg];exact (below_size (by repeat (first|(with_reducible first|exact HB.out|apply below_alloc|apply pw_below_drewN|apply below_drew1)|exact HB.out))) : w.heap.size ≤ gb284));clear HB;have HB:=n0_;have BK284:=n1_;have GW284:=n2_;have GE284:=n3_;clear n0_ n1_ n2_ n3_;clear hb hbox hg;have hcz16_0 : w15.cell? ⟨gb284,0,none⟩ = some (.slice A0_0 l0_0.length c0_0):=(blk_cell BK284.out 0).trans rfl;have hcz16_1 : w15.cell? ⟨gb284,1,none⟩ = some (.slice A0_1 l0_1.length c0_1):=(blk_cell BK284.out 1).trans rfl;have hfz16_0:=blk_frozen BK284.out 0;have hfz16_1:=blk_frozen BK284.out 1)|((with_reducible refine gate_callee (f:=15) rfl ?_);refine goesL_ (some 14) rfl rfl Tryd.func15 (by kernel_rfl) rfl #[.agg #[.slice A0_0 l0_0.length c0_0,.slice A0_1 l0_1.length c0_1],.int .i64 1048576] rfl (by (try simp only [List.map_toArray,List.map_cons,List.map_nil]);first|done|rfl|(simp only [List.length_drop,List.length_take];rfl)) ?_;(with_reducible refine (laws_szDb.calls k _ _ l0_0 _ _ l0_1 1048576 t285 _ ?side1 ?side2 ?side3 ?side4 A5.out).mono ?_);(case side1 => repeat (first|exact (Kd.C_below HR0_0.out HB.out)|(with_reducible refine Kd.C_alloc ?_ _)|(with_reducible refine Kd.C_drewN ?_ _)|(with_reducible refine Kd.C_drew ?_)));(case side2 => exact HC0_0.out);(case side3 => repeat (first|exact (Kd.C_below HR0_1.out HB.out)|(with_reducible refine Kd.C_alloc ?_ _)|(with_reducible refine Kd.C_drewN ?_ _)|(with_reducible refine Kd.C_drew ?_)));(case side4 => exact HC0_1.out);rintro e w17 ⟨rfl,hb⟩;refine ⟨_,rfl,?_⟩;have n0_:=Aside0.mk (blk_below (g:=gb284) (o:=.cells #[.slice A0_0 l0_0.length c0_0,.slice A0_1 l0_1.length c0_1] 36 (0,0)) (by (with_reducible repeat (first|refine blk_drewN ?_ _|refine blk_drew ?_|refine blk_alloc ?_ _));exact BK284.out) hb);have n1_:=Aside0.mk (below_step (by repeat (first|(with_reducible first|exact HB.out|apply below_alloc|apply pw_below_drewN|apply below_drew1|refine below_set ?_ GE284.out)|exact HB.out)) hb);clear BK284;clear HB;have BK284:=n0_;have HB:=n1_;clear n0_ n1_;(try clear hb);(try clear hb2);(try clear hk);(try clear hi);have hcz18_0 : w17.cell? ⟨gb284,0,none⟩ = some (.slice A0_0 l0_0.length c0_0):=(blk_cell BK284.out 0).trans rfl;have hcz18_1 : w17.cell? ⟨gb284,1,none⟩ = some (.slice A0_1 l0_1.length c0_1):=(blk_cell BK284.out 1).trans rfl;have hfz18_0:=blk_frozen BK284.out 0;have hfz18_1:=blk_frozen BK284.out 1)|((with_reducible refine gate_callee (f:=17) rfl ?_);refine goesL_ (some 18) rfl rfl Tryd.func17 (by kernel_rfl) rfl #[.agg #[.slice A0_0 l0_0.length c0_0,.slice A0_1 l0_1.length c0_1]] rfl (by (try simp only [List.map_toArray,List.map_cons,List.map_nil]);first|done|rfl|(simp only [List.length_drop,List.length_take];rfl)) ?_;(with_reducible refine (laws_toDb.calls k _ _ l0_0 _ _ l0_1 t286 t289 _ ?side1 ?side2 ?side3 ?side4 A10.out).mono ?_);(case side1 => repeat (first|exact (Kd.C_below HR0_0.out HB.out)|(with_reducible refine Kd.C_alloc ?_ _)|(with_reducible refine Kd.C_drewN ?_ _)|(with_reducible refine Kd.C_drew ?_)));(case side2 => exact HC0_0.out);(case side3 => repeat (first|exact (Kd.C_below HR0_1.out HB.out)|(with_reducible refine Kd.C_alloc ?_ _)|(with_reducible refine Kd.C_drewN ?_ _)|(with_reducible refine Kd.C_drew ?_)));(case side4 => exact HC0_1.out);rintro e w19 ⟨v287,v290,rfl,ho0,ho1,hb⟩;refine ⟨_,rfl,?_⟩;have n0_:=Aside0.mk (Kd.R_lower ho0 (below_size (by repeat (first|(with_reducible first|exact HB.out|apply below_alloc|apply pw_below_drewN|apply below_drew1|refine below_set ?_ GE284.out)|exact HB.out))));have n1_:=Aside0.mk (Kd.R_lower ho1 (below_size (by repeat (first|(with_reducible first|exact HB.out|apply below_alloc|apply pw_below_drewN|apply below_drew1|refine below_set ?_ GE284.out)|exact HB.out))));have n2_:=Aside0.mk (blk_below (g:=gb284) (o:=.cells #[.slice A0_0 l0_0.length c0_0,.slice A0_1 l0_1.length c0_1] 36 (0,0)) (by (with_reducible repeat (first|refine blk_drewN ?_ _|refine blk_drew ?_|refine blk_alloc ?_ _));exact BK284.out) hb);have n3_:=Aside0.mk (below_step (by repeat (first|(with_reducible first|exact HB.out|apply below_alloc|apply pw_below_drewN|apply below_drew1|refine below_set ?_ GE284.out)|exact HB.out)) hb);clear BK284;clear HB;have HO288:=n0_;have HO291:=n1_;have BK284:=n2_;have HB:=n3_;clear n0_ n1_ n2_ n3_;(try clear hb);(try clear hb2);(try clear hk);(try clear hi);(try clear ho0);(try clear ho1);obtain ⟨Ao20,co20,eo20⟩:=Kd.R_slice HO288.out;subst eo20;obtain ⟨Ao21,co21,eo21⟩:=Kd.R_slice HO291.out;subst eo21)|((with_reducible refine gate_callee (f:=16) rfl ?_);refine goesL_ (some 20) rfl rfl Tryd.func16 (by kernel_rfl) rfl #[.agg #[.slice Ao20 t286.length co20,.slice Ao21 t289.length co21],.string a1] rfl (by (try simp only [List.map_toArray,List.map_cons,List.map_nil]);first|done|rfl|(simp only [List.length_drop,List.length_take];rfl)) ?_;(with_reducible refine (spec_Known.calls k _ _ t286 _ _ t289 a1 t292 _ ?side1 ?side2 ?side3 ?side4 A11.out).mono ?_);(case side1 => repeat (first|exact (Kd.R_reads' HO288.out).2.2|(with_reducible refine Kd.C_alloc ?_ _)|(with_reducible refine Kd.C_drewN ?_ _)|(with_reducible refine Kd.C_drew ?_)));(case side2 => exact (Kd.R_reads' HO288.out).2.1);(case side3 => repeat (first|exact (Kd.R_reads' HO291.out).2.2|(with_reducible refine Kd.C_alloc ?_ _)|(with_reducible refine Kd.C_drewN ?_ _)|(with_reducible refine Kd.C_drew ?_)));(case side4 => exact (Kd.R_reads' HO291.out).2.1);rintro e w22 ⟨rfl,hb⟩;refine ⟨_,rfl,?_⟩;have n0_:=Aside0.mk (Kd.R_below (by (with_reducible repeat (first|apply Kd.R_alloc|apply Kd.R_drewN|apply Kd.R_drew));exact HO288.out) hb);have n1_:=Aside0.mk (Kd.R_below (by (with_reducible repeat (first|apply Kd.R_alloc|apply Kd.R_drewN|apply Kd.R_drew));exact HO291.out) hb);have n2_:=Aside0.mk (blk_below (g:=gb284) (o:=.cells #[.slice A0_0 l0_0.length c0_0,.slice A0_1 l0_1.length c0_1] 36 (0,0)) (by (with_reducible repeat (first|refine blk_drewN ?_ _|refine blk_drew ?_|refine blk_alloc ?_ _));exact BK284.out) hb);have n3_:=Aside0.mk (below_step (by repeat (first|(with_reducible first|exact HB.out|apply below_alloc|apply pw_below_drewN|apply below_drew1|refine below_set ?_ GE284.out)|exact HB.out)) hb);clear HO288;clear HO291;clear BK284;clear HB;have HO288:=n0_;have HO291:=n1_;have BK284:=n2_;have HB:=n3_;clear n0_ n1_ n2_ n3_;(try clear hb);(try clear hb2);(try clear hk);(try clear hi);have hcz23_0 : w22.cell? ⟨gb284,0,none⟩ = some (.slice A0_0 l0_0.length c0_0):=(blk_cell BK284.out 0).trans rfl;have hcz23_1 : w22.cell? ⟨gb284,1,none⟩ = some (.slice A0_1 l0_1.length c0_1):=(blk_cell BK284.out 1).trans rfl;have hfz23_0:=blk_frozen BK284.out 0;have hfz23_1:=blk_frozen BK284.out 1)|((with_reducible refine gate_callee (f:=17) rfl ?_);refine goesL_ (some 22) rfl rfl Tryd.func17 (by kernel_rfl) rfl #[.agg #[.slice A0_0 l0_0.length c0_0,.slice A0_1 l0_1.length c0_1]] rfl (by (try simp only [List.map_toArray,List.map_cons,List.map_nil]);first|done|rfl|(simp only [List.length_drop,List.length_take];rfl)) ?_;(with_reducible refine (laws_toDb.calls k _ _ l0_0 _ _ l0_1 t293 t296 _ ?side1 ?side2 ?side3 ?side4 A12.out).mono ?_);(case side1 => repeat (first|exact (Kd.C_below HR0_0.out HB.out)|(with_reducible refine Kd.C_alloc ?_ _)|(with_reducible refine Kd.C_drewN ?_ _)|(with_reducible refine Kd.C_drew ?_)));(case side2 => exact HC0_0.out);(case side3 => repeat (first|exact (Kd.C_below HR0_1.out HB.out)|(with_reducible refine Kd.C_alloc ?_ _)|(with_reducible refine Kd.C_drewN ?_ _)|(with_reducible refine Kd.C_drew ?_)));(case side4 => exact HC0_1.out);rintro e w24 ⟨v294,v297,rfl,ho0,ho1,hb⟩;refine ⟨_,rfl,?_⟩;have n0_:=Aside0.mk (Kd.R_elder' (by (with_reducible repeat (first|apply Kd.R_alloc|apply Kd.R_drewN|apply Kd.R_drew));exact HO288.out) (Kd.R_base ho0) hb);have n1_:=Aside0.mk (Kd.R_elder' (by (with_reducible repeat (first|apply Kd.R_alloc|apply Kd.R_drewN|apply Kd.R_drew));exact HO291.out) (Kd.R_base ho1) hb);have n2_:=Aside0.mk (Kd.R_lower (Kd.R_new' ho0 (Kd.R_lt (by (with_reducible repeat (first|apply Kd.R_alloc|apply Kd.R_drewN|apply Kd.R_drew));exact HO288.out))) (below_size (by repeat (first|(with_reducible first|exact HB.out|apply below_alloc|apply pw_below_drewN|apply below_drew1|refine below_set ?_ GE284.out)|exact HB.out))));have n3_:=Aside0.mk (Kd.R_lower (Kd.R_new' ho1 (Kd.R_lt (by (with_reducible repeat (first|apply Kd.R_alloc|apply Kd.R_drewN|apply Kd.R_drew));exact HO291.out))) (below_size (by repeat (first|(with_reducible first|exact HB.out|apply below_alloc|apply pw_below_drewN|apply below_drew1|refine below_set ?_ GE284.out)|exact HB.out))));have n4_:=Aside0.mk (blk_below (g:=gb284) (o:=.cells #[.slice A0_0 l0_0.length c0_0,.slice A0_1 l0_1.length c0_1] 36 (0,0)) (by (with_reducible repeat (first|refine blk_drewN ?_ _|refine blk_drew ?_|refine blk_alloc ?_ _));exact BK284.out) hb);have n5_:=Aside0.mk (below_step (by repeat (first|(with_reducible first|exact HB.out|apply below_alloc|apply pw_below_drewN|apply below_drew1|refine below_set ?_ GE284.out)|exact HB.out)) hb);clear HO288;clear HO291;clear BK284;clear HB;have HO288:=n0_;have HO291:=n1_;have HO295:=n2_;have HO298:=n3_;have BK284:=n4_;have HB:=n5_;clear n0_ n1_ n2_ n3_ n4_ n5_;(try clear hb);(try clear hb2);(try clear hk);(try clear hi);(try clear ho0);(try clear ho1))|((with_reducible refine gate_dst (N:=7) rfl ?_);refine box_event ?hg (N:=7) ?hd (cs:=#[.slice none 0 0,.slice none 0 0]) (t:=41) ?hr ?_;(case hd => rfl);(case hg => rfl);(case hr => first|(go_simp;done)|(go_simp;rfl));intro gb299 hg w25 hbox hb;have n0_:=Aside0.mk (Kd.R_below (by (with_reducible repeat (first|apply Kd.R_alloc|apply Kd.R_drewN|apply Kd.R_drew));exact HO288.out) hb);have n1_:=Aside0.mk (Kd.R_below (by (with_reducible repeat (first|apply Kd.R_alloc|apply Kd.R_drewN|apply Kd.R_drew));exact HO291.out) hb);have n2_:=Aside0.mk (Kd.R_below (by (with_reducible repeat (first|apply Kd.R_alloc|apply Kd.R_drewN|apply Kd.R_drew));exact HO295.out) hb);have n3_:=Aside0.mk (Kd.R_below (by (with_reducible repeat (first|apply Kd.R_alloc|apply Kd.R_drewN|apply Kd.R_drew));exact HO298.out) hb);have n4_:=Aside0.mk (blk_below (g:=gb284) (o:=.cells #[.slice A0_0 l0_0.length c0_0,.slice A0_1 l0_1.length c0_1] 36 (0,0)) (by (with_reducible repeat (first|refine blk_drewN ?_ _|refine blk_drew ?_|refine blk_alloc ?_ _));exact BK284.out) hb);have n5_:=Aside0.mk (below_step (by repeat (first|(with_reducible first|exact HB.out|apply below_alloc|apply pw_below_drewN|apply below_drew1|refine below_set ?_ GE284.out)|exact HB.out)) hb);have n6_:=Aside0.mk (hbox);have n7_:=Aside0.mk ((by rw [hg];exact (below_size (by repeat (first|(with_reducible first|exact HB.out|apply below_alloc|apply pw_below_drewN|apply below_drew1|refine below_set ?_ GE284.out)|exact HB.out))) : w.heap.size ≤ gb299));have n8_:=Aside0.mk ((by rw [hg];exact (below_size (by repeat (first|(with_reducible first|exact HB.out|apply below_alloc|apply pw_below_drewN|apply below_drew1|refine below_set ?_ GE284.out)|exact HB.out))) : w.heap.size ≤ gb299));have n9_:=Aside0.mk ((by rw [hg];exact Nat.ne_of_lt (blk_lt (g:=gb284) (o:=.cells #[.slice A0_0 l0_0.length c0_0,.slice A0_1 l0_1.length c0_1] 36 (0,0)) (by (with_reducible repeat (first|refine blk_drewN ?_ _|refine blk_drew ?_|refine blk_alloc ?_ _));exact BK284.out)) : gb284 ≠ gb299));have n10_:=Aside0.mk ((by rw [hg];exact Nat.ne_of_gt (blk_lt (g:=gb284) (o:=.cells #[.slice A0_0 l0_0.length c0_0,.slice A0_1 l0_1.length c0_1] 36 (0,0)) (by (with_reducible repeat (first|refine blk_drewN ?_ _|refine blk_drew ?_|refine blk_alloc ?_ _));exact BK284.out)) : gb299 ≠ gb284));clear HO288;clear HO291;clear HO295;clear HO298;clear BK284;clear HB;have HO288:=n0_;have HO291:=n1_;have HO295:=n2_;have HO298:=n3_;have BK284:=n4_;have HB:=n5_;have BK299:=n6_;have GW299:=n7_;have GE299:=n8_;have NB284_299:=n9_;have NB299_284:=n10_;clear n0_ n1_ n2_ n3_ n4_ n5_ n6_ n7_ n8_ n9_ n10_;clear hb hbox hg;obtain ⟨Ao26,co26,eo26⟩:=Kd.R_slice HO295.out;subst eo26;have hnb27:=NB299_284.out;have hnc27:=NB284_299.out;have hcz28_0 : w25.cell? ⟨gb299,0,none⟩ = some (.slice none 0 0):=(blk_cell BK299.out 0).trans rfl;have hcz28_1 : w25.cell? ⟨gb299,1,none⟩ = some (.slice none 0 0):=(blk_cell BK299.out 1).trans rfl;have hfz28_0:=blk_frozen BK299.out 0;have hfz28_1:=blk_frozen BK299.out 1;obtain ⟨Ao29,co29,eo29⟩:=Kd.R_slice HO298.out;subst eo29)|((with_reducible refine gate_callee (f:=18) rfl ?_);refine goesL_ (some 25) rfl rfl Tryd.func18 (by kernel_rfl) rfl #[.agg #[.slice Ao26 t293.length co26,.slice Ao29 t296.length co29],.string a1] rfl (by (try simp only [List.map_toArray,List.map_cons,List.map_nil]);first|done|rfl|(simp only [List.length_drop,List.length_take];rfl)) ?_;(with_reducible refine (fk_impl_Known.calls k _ _ t293 _ _ t296 a1 t300 _ (tab_at HTAB.out (by repeat (first|(with_reducible first|exact HB.out|apply below_alloc|apply pw_below_drewN|apply below_drew1|refine below_set ?_ GE284.out|refine below_set ?_ GE299.out)|exact HB.out))) ?side1 ?side2 ?side3 ?side4 A13.out).mono ?_);(case side1 => refine (Kd.R_reads' (e:=48) (base:=w.heap.size) (ok:=fun k_ => (True ∧ some k_ ≠ (.slice Ao20 t286.length co20 : Value).ownBlock)) (n:=t293.length) (c:=co26) ?_).2.2;exact (by (with_reducible repeat (first|apply Kd.R_alloc|apply Kd.R_drewN|apply Kd.R_drew));exact (Kd.R_mono (Kd.R_far (p:=⟨gb299,1,none⟩) (Kd.R_far (p:=⟨gb299,0,none⟩) (Kd.R_types HO295.out BK299.out (by decide)) (fun _ hk => hk.2) (.slice Ao26 t293.length co26)) (fun _ hk => hk.2) (.slice Ao29 t296.length co29)) (fun _ h_ => h_.1))));(case side2 => exact (Kd.R_reads' HO295.out).2.1);(case side3 => refine (Kd.R_reads' (e:=9) (base:=w.heap.size) (ok:=fun k_ => (True ∧ some k_ ≠ (.slice Ao21 t289.length co21 : Value).ownBlock)) (n:=t296.length) (c:=co29) ?_).2.2;exact (by (with_reducible repeat (first|apply Kd.R_alloc|apply Kd.R_drewN|apply Kd.R_drew));exact (Kd.R_mono (Kd.R_far (p:=⟨gb299,1,none⟩) (Kd.R_far (p:=⟨gb299,0,none⟩) (Kd.R_types HO298.out BK299.out (by decide)) (fun _ hk => hk.2) (.slice Ao26 t293.length co26)) (fun _ hk => hk.2) (.slice Ao29 t296.length co29)) (fun _ h_ => h_.1))));(case side4 => exact (Kd.R_reads' HO298.out).2.1);rintro e w30 ⟨rfl,hb⟩;refine ⟨_,rfl,?_⟩;have n0_:=Aside0.mk (Kd.R_below (by (with_reducible repeat (first|apply Kd.R_alloc|apply Kd.R_drewN|apply Kd.R_drew));exact (Kd.R_mono (Kd.R_far (p:=⟨gb299,1,none⟩) (Kd.R_far (p:=⟨gb299,0,none⟩) (Kd.R_types HO288.out BK299.out (by decide)) (fun _ hk => hk.2) (.slice Ao26 t293.length co26)) (fun _ hk => hk.2) (.slice Ao29 t296.length co29)) (fun _ h_ => h_.1))) hb);have n1_:=Aside0.mk (Kd.R_below (by (with_reducible repeat (first|apply Kd.R_alloc|apply Kd.R_drewN|apply Kd.R_drew));exact (Kd.R_mono (Kd.R_far (p:=⟨gb299,1,none⟩) (Kd.R_far (p:=⟨gb299,0,none⟩) (Kd.R_types HO291.out BK299.out (by decide)) (fun _ hk => hk.2) (.slice Ao26 t293.length co26)) (fun _ hk => hk.2) (.slice Ao29 t296.length co29)) (fun _ h_ => h_.1))) hb);have n2_:=Aside0.mk (Kd.R_below (by (with_reducible repeat (first|apply Kd.R_alloc|apply Kd.R_drewN|apply Kd.R_drew));exact (Kd.R_mono (Kd.R_far (p:=⟨gb299,1,none⟩) (Kd.R_far (p:=⟨gb299,0,none⟩) (Kd.R_types HO295.out BK299.out (by decide)) (fun _ hk => hk.2) (.slice Ao26 t293.length co26)) (fun _ hk => hk.2) (.slice Ao29 t296.length co29)) (fun _ h_ => h_.1))) hb);have n3_:=Aside0.mk (Kd.R_below (by (with_reducible repeat (first|apply Kd.R_alloc|apply Kd.R_drewN|apply Kd.R_drew));exact (Kd.R_mono (Kd.R_far (p:=⟨gb299,1,none⟩) (Kd.R_far (p:=⟨gb299,0,none⟩) (Kd.R_types HO298.out BK299.out (by decide)) (fun _ hk => hk.2) (.slice Ao26 t293.length co26)) (fun _ hk => hk.2) (.slice Ao29 t296.length co29)) (fun _ h_ => h_.1))) hb);have n4_:=Aside0.mk (blk_below (g:=gb284) (o:=.cells #[.slice A0_0 l0_0.length c0_0,.slice A0_1 l0_1.length c0_1] 36 (0,0)) (by (with_reducible repeat (first|refine blk_drewN ?_ _|refine blk_drew ?_|refine blk_alloc ?_ _));refine blk_far ?_ NB284_299.out _;(with_reducible repeat (first|refine blk_drewN ?_ _|refine blk_drew ?_|refine blk_alloc ?_ _));refine blk_far ?_ NB284_299.out _;(with_reducible repeat (first|refine blk_drewN ?_ _|refine blk_drew ?_|refine blk_alloc ?_ _));exact BK284.out) hb);have n5_:=Aside0.mk (blk_below (g:=gb299) (o:=.cells #[.slice Ao26 t293.length co26,.slice Ao29 t296.length co29] 41 (0,0)) (by (with_reducible repeat (first|refine blk_drewN ?_ _|refine blk_drew ?_|refine blk_alloc ?_ _));refine blk_put (cs:=#[.slice Ao26 t293.length co26,.slice none 0 0]) ?_ 1 _ rfl;(with_reducible repeat (first|refine blk_drewN ?_ _|refine blk_drew ?_|refine blk_alloc ?_ _));refine blk_put (cs:=#[.slice none 0 0,.slice none 0 0]) ?_ 0 _ rfl;(with_reducible repeat (first|refine blk_drewN ?_ _|refine blk_drew ?_|refine blk_alloc ?_ _));exact BK299.out) hb);have n6_:=Aside0.mk (below_step (by repeat (first|(with_reducible first|exact HB.out|apply below_alloc|apply pw_below_drewN|apply below_drew1|refine below_set ?_ GE284.out|refine below_set ?_ GE299.out)|exact HB.out)) hb);clear HO288;clear HO291;clear HO295;clear HO298;clear BK284;clear BK299;clear HB;have HO288:=n0_;have HO291:=n1_;have HO295:=n2_;have HO298:=n3_;have BK284:=n4_;have BK299:=n5_;have HB:=n6_;clear n0_ n1_ n2_ n3_ n4_ n5_ n6_;(try clear hb)))
    go_ret
    exact ⟨by first|rfl|(simp [errW_none,errW_some] <;> rfl)|(simp [*,errW_none,errW_some] <;> rfl),by repeat (first|(with_reducible first|exact HB.out|apply below_alloc|apply pw_below_drewN|apply below_drew1|refine below_set ?_ GE284.out|refine below_set ?_ GE299.out)|exact HB.out)⟩
   ·rw [if_neg c14] at H
    have c14b0 : (t300 != t292) = false:=by simpa using c14
    (try (have c14b1 : decide (t300 = t292) = true:=by simpa using c14))
    (try (have c14b2 : (t300 == t292) = true:=by simpa using c14))
    clear c14
    replace H:=Option.bind_eq_some_iff.mp H
    obtain ⟨⟨t301,t304⟩,A310,H⟩:=H
    replace H : ((laws_eqDb.f k t293 t296 t301 t304).bind fun t307 => (if t307 = true then (some true) else (some false))) = some r:=H
    have A31:=Aside0.mk A310
    clear A310
    replace H:=Option.bind_eq_some_iff.mp H
    obtain ⟨t307,A320,H⟩:=H
    replace H : (if t307 = true then (some true) else (some false)) = some r:=H
    have A32:=Aside0.mk A320
    clear A320
    by_cases c33 : t307 = true
    ·subst c33
     have H1 : (some true) = some r:=by rw [if_pos rfl] at H;exact H
     clear H
     have H:=H1
     clear H1
     obtain rfl:=Option.some.inj H
     go_enter Tryd.func4,Tryd.ntmps4
     try go_wp2_with (first|((with_reducible refine gate_dst (N:=2) rfl ?_);refine box_event ?hg (N:=2) ?hd (cs:=#[.slice A0_0 l0_0.length c0_0,.slice A0_1 l0_1.length c0_1]) (t:=36) ?hr ?_;(case hd => rfl);(case hg => rfl);(case hr => first|(go_simp;done)|(go_simp;rfl));intro gb284 hg w34 hbox hb;have n0_:=Aside0.mk (below_step (by repeat (first|(with_reducible first|exact HB.out|apply below_alloc|apply pw_below_drewN|apply below_drew1)|exact HB.out)) hb);have n1_:=Aside0.mk (hbox);have n2_:=Aside0.mk ((by rw [hg];exact (below_size (by repeat (first|(with_reducible first|exact HB.out|apply below_alloc|apply pw_below_drewN|apply below_drew1)|exact HB.out))) : w.heap.size ≤ gb284));have n3_:=Aside0.mk ((by rw [hg];exact (below_size (by repeat (first|(with_reducible first|exact HB.out|apply below_alloc|apply pw_below_drewN|apply below_drew1)|exact HB.out))) : w.heap.size ≤ gb284));clear HB;have HB:=n0_;have BK284:=n1_;have GW284:=n2_;have GE284:=n3_;clear n0_ n1_ n2_ n3_;clear hb hbox hg;have hcz35_0 : w34.cell? ⟨gb284,0,none⟩ = some (.slice A0_0 l0_0.length c0_0):=(blk_cell BK284.out 0).trans rfl;have hcz35_1 : w34.cell? ⟨gb284,1,none⟩ = some (.slice A0_1 l0_1.length c0_1):=(blk_cell BK284.out 1).trans rfl;have hfz35_0:=blk_frozen BK284.out 0;have hfz35_1:=blk_frozen BK284.out 1)|((with_reducible refine gate_callee (f:=15) rfl ?_);refine goesL_ (some 14) rfl rfl Tryd.func15 (by kernel_rfl) rfl #[.agg #[.slice A0_0 l0_0.length c0_0,.slice A0_1 l0_1.length c0_1],.int .i64 1048576] rfl (by (try simp only [List.map_toArray,List.map_cons,List.map_nil]);first|done|rfl|(simp only [List.length_drop,List.length_take];rfl)) ?_;(with_reducible refine (laws_szDb.calls k _ _ l0_0 _ _ l0_1 1048576 t285 _ ?side1 ?side2 ?side3 ?side4 A5.out).mono ?_);(case side1 => repeat (first|exact (Kd.C_below HR0_0.out HB.out)|(with_reducible refine Kd.C_alloc ?_ _)|(with_reducible refine Kd.C_drewN ?_ _)|(with_reducible refine Kd.C_drew ?_)));(case side2 => exact HC0_0.out);(case side3 => repeat (first|exact (Kd.C_below HR0_1.out HB.out)|(with_reducible refine Kd.C_alloc ?_ _)|(with_reducible refine Kd.C_drewN ?_ _)|(with_reducible refine Kd.C_drew ?_)));(case side4 => exact HC0_1.out);rintro e w36 ⟨rfl,hb⟩;refine ⟨_,rfl,?_⟩;have n0_:=Aside0.mk (blk_below (g:=gb284) (o:=.cells #[.slice A0_0 l0_0.length c0_0,.slice A0_1 l0_1.length c0_1] 36 (0,0)) (by (with_reducible repeat (first|refine blk_drewN ?_ _|refine blk_drew ?_|refine blk_alloc ?_ _));exact BK284.out) hb);have n1_:=Aside0.mk (below_step (by repeat (first|(with_reducible first|exact HB.out|apply below_alloc|apply pw_below_drewN|apply below_drew1|refine below_set ?_ GE284.out)|exact HB.out)) hb);clear BK284;clear HB;have BK284:=n0_;have HB:=n1_;clear n0_ n1_;(try clear hb);(try clear hb2);(try clear hk);(try clear hi);have hcz37_0 : w36.cell? ⟨gb284,0,none⟩ = some (.slice A0_0 l0_0.length c0_0):=(blk_cell BK284.out 0).trans rfl;have hcz37_1 : w36.cell? ⟨gb284,1,none⟩ = some (.slice A0_1 l0_1.length c0_1):=(blk_cell BK284.out 1).trans rfl;have hfz37_0:=blk_frozen BK284.out 0;have hfz37_1:=blk_frozen BK284.out 1)|((with_reducible refine gate_callee (f:=17) rfl ?_);refine goesL_ (some 18) rfl rfl Tryd.func17 (by kernel_rfl) rfl #[.agg #[.slice A0_0 l0_0.length c0_0,.slice A0_1 l0_1.length c0_1]] rfl (by (try simp only [List.map_toArray,List.map_cons,List.map_nil]);first|done|rfl|(simp only [List.length_drop,List.length_take];rfl)) ?_;(with_reducible refine (laws_toDb.calls k _ _ l0_0 _ _ l0_1 t286 t289 _ ?side1 ?side2 ?side3 ?side4 A10.out).mono ?_);(case side1 => repeat (first|exact (Kd.C_below HR0_0.out HB.out)|(with_reducible refine Kd.C_alloc ?_ _)|(with_reducible refine Kd.C_drewN ?_ _)|(with_reducible refine Kd.C_drew ?_)));(case side2 => exact HC0_0.out);(case side3 => repeat (first|exact (Kd.C_below HR0_1.out HB.out)|(with_reducible refine Kd.C_alloc ?_ _)|(with_reducible refine Kd.C_drewN ?_ _)|(with_reducible refine Kd.C_drew ?_)));(case side4 => exact HC0_1.out);rintro e w38 ⟨v287,v290,rfl,ho0,ho1,hb⟩;refine ⟨_,rfl,?_⟩;have n0_:=Aside0.mk (Kd.R_lower ho0 (below_size (by repeat (first|(with_reducible first|exact HB.out|apply below_alloc|apply pw_below_drewN|apply below_drew1|refine below_set ?_ GE284.out)|exact HB.out))));have n1_:=Aside0.mk (Kd.R_lower ho1 (below_size (by repeat (first|(with_reducible first|exact HB.out|apply below_alloc|apply pw_below_drewN|apply below_drew1|refine below_set ?_ GE284.out)|exact HB.out))));have n2_:=Aside0.mk (blk_below (g:=gb284) (o:=.cells #[.slice A0_0 l0_0.length c0_0,.slice A0_1 l0_1.length c0_1] 36 (0,0)) (by (with_reducible repeat (first|refine blk_drewN ?_ _|refine blk_drew ?_|refine blk_alloc ?_ _));exact BK284.out) hb);have n3_:=Aside0.mk (below_step (by repeat (first|(with_reducible first|exact HB.out|apply below_alloc|apply pw_below_drewN|apply below_drew1|refine below_set ?_ GE284.out)|exact HB.out)) hb);clear BK284;clear HB;have HO288:=n0_;have HO291:=n1_;have BK284:=n2_;have HB:=n3_;clear n0_ n1_ n2_ n3_;(try clear hb);(try clear hb2);(try clear hk);(try clear hi);(try clear ho0);(try clear ho1);obtain ⟨Ao39,co39,eo39⟩:=Kd.R_slice HO288.out;subst eo39;obtain ⟨Ao40,co40,eo40⟩:=Kd.R_slice HO291.out;subst eo40)|((with_reducible refine gate_callee (f:=16) rfl ?_);refine goesL_ (some 20) rfl rfl Tryd.func16 (by kernel_rfl) rfl #[.agg #[.slice Ao39 t286.length co39,.slice Ao40 t289.length co40],.string a1] rfl (by (try simp only [List.map_toArray,List.map_cons,List.map_nil]);first|done|rfl|(simp only [List.length_drop,List.length_take];rfl)) ?_;(with_reducible refine (spec_Known.calls k _ _ t286 _ _ t289 a1 t292 _ ?side1 ?side2 ?side3 ?side4 A11.out).mono ?_);(case side1 => repeat (first|exact (Kd.R_reads' HO288.out).2.2|(with_reducible refine Kd.C_alloc ?_ _)|(with_reducible refine Kd.C_drewN ?_ _)|(with_reducible refine Kd.C_drew ?_)));(case side2 => exact (Kd.R_reads' HO288.out).2.1);(case side3 => repeat (first|exact (Kd.R_reads' HO291.out).2.2|(with_reducible refine Kd.C_alloc ?_ _)|(with_reducible refine Kd.C_drewN ?_ _)|(with_reducible refine Kd.C_drew ?_)));(case side4 => exact (Kd.R_reads' HO291.out).2.1);rintro e w41 ⟨rfl,hb⟩;refine ⟨_,rfl,?_⟩;have n0_:=Aside0.mk (Kd.R_below (by (with_reducible repeat (first|apply Kd.R_alloc|apply Kd.R_drewN|apply Kd.R_drew));exact HO288.out) hb);have n1_:=Aside0.mk (Kd.R_below (by (with_reducible repeat (first|apply Kd.R_alloc|apply Kd.R_drewN|apply Kd.R_drew));exact HO291.out) hb);have n2_:=Aside0.mk (blk_below (g:=gb284) (o:=.cells #[.slice A0_0 l0_0.length c0_0,.slice A0_1 l0_1.length c0_1] 36 (0,0)) (by (with_reducible repeat (first|refine blk_drewN ?_ _|refine blk_drew ?_|refine blk_alloc ?_ _));exact BK284.out) hb);have n3_:=Aside0.mk (below_step (by repeat (first|(with_reducible first|exact HB.out|apply below_alloc|apply pw_below_drewN|apply below_drew1|refine below_set ?_ GE284.out)|exact HB.out)) hb);clear HO288;clear HO291;clear BK284;clear HB;have HO288:=n0_;have HO291:=n1_;have BK284:=n2_;have HB:=n3_;clear n0_ n1_ n2_ n3_;(try clear hb);(try clear hb2);(try clear hk);(try clear hi);have hcz42_0 : w41.cell? ⟨gb284,0,none⟩ = some (.slice A0_0 l0_0.length c0_0):=(blk_cell BK284.out 0).trans rfl;have hcz42_1 : w41.cell? ⟨gb284,1,none⟩ = some (.slice A0_1 l0_1.length c0_1):=(blk_cell BK284.out 1).trans rfl;have hfz42_0:=blk_frozen BK284.out 0;have hfz42_1:=blk_frozen BK284.out 1)|((with_reducible refine gate_callee (f:=17) rfl ?_);refine goesL_ (some 22) rfl rfl Tryd.func17 (by kernel_rfl) rfl #[.agg #[.slice A0_0 l0_0.length c0_0,.slice A0_1 l0_1.length c0_1]] rfl (by (try simp only [List.map_toArray,List.map_cons,List.map_nil]);first|done|rfl|(simp only [List.length_drop,List.length_take];rfl)) ?_;(with_reducible refine (laws_toDb.calls k _ _ l0_0 _ _ l0_1 t293 t296 _ ?side1 ?side2 ?side3 ?side4 A12.out).mono ?_);(case side1 => repeat (first|exact (Kd.C_below HR0_0.out HB.out)|(with_reducible refine Kd.C_alloc ?_ _)|(with_reducible refine Kd.C_drewN ?_ _)|(with_reducible refine Kd.C_drew ?_)));(case side2 => exact HC0_0.out);(case side3 => repeat (first|exact (Kd.C_below HR0_1.out HB.out)|(with_reducible refine Kd.C_alloc ?_ _)|(with_reducible refine Kd.C_drewN ?_ _)|(with_reducible refine Kd.C_drew ?_)));(case side4 => exact HC0_1.out);rintro e w43 ⟨v294,v297,rfl,ho0,ho1,hb⟩;refine ⟨_,rfl,?_⟩;have n0_:=Aside0.mk (Kd.R_elder' (by (with_reducible repeat (first|apply Kd.R_alloc|apply Kd.R_drewN|apply Kd.R_drew));exact HO288.out) (Kd.R_base ho0) hb);have n1_:=Aside0.mk (Kd.R_elder' (by (with_reducible repeat (first|apply Kd.R_alloc|apply Kd.R_drewN|apply Kd.R_drew));exact HO291.out) (Kd.R_base ho1) hb);have n2_:=Aside0.mk (Kd.R_lower (Kd.R_new' ho0 (Kd.R_lt (by (with_reducible repeat (first|apply Kd.R_alloc|apply Kd.R_drewN|apply Kd.R_drew));exact HO288.out))) (below_size (by repeat (first|(with_reducible first|exact HB.out|apply below_alloc|apply pw_below_drewN|apply below_drew1|refine below_set ?_ GE284.out)|exact HB.out))));have n3_:=Aside0.mk (Kd.R_lower (Kd.R_new' ho1 (Kd.R_lt (by (with_reducible repeat (first|apply Kd.R_alloc|apply Kd.R_drewN|apply Kd.R_drew));exact HO291.out))) (below_size (by repeat (first|(with_reducible first|exact HB.out|apply below_alloc|apply pw_below_drewN|apply below_drew1|refine below_set ?_ GE284.out)|exact HB.out))));have n4_:=Aside0.mk (blk_below (g:=gb284) (o:=.cells #[.slice A0_0 l0_0.length c0_0,.slice A0_1 l0_1.length c0_1] 36 (0,0)) (by (with_reducible repeat (first|refine blk_drewN ?_ _|refine blk_drew ?_|refine blk_alloc ?_ _));exact BK284.out) hb);have n5_:=Aside0.mk (below_step (by repeat (first|(with_reducible first|exact HB.out|apply below_alloc|apply pw_below_drewN|apply below_drew1|refine below_set ?_ GE284.out)|exact HB.out)) hb);clear HO288;clear HO291;clear BK284;clear HB;have HO288:=n0_;have HO291:=n1_;have HO295:=n2_;have HO298:=n3_;have BK284:=n4_;have HB:=n5_;clear n0_ n1_ n2_ n3_ n4_ n5_;(try clear hb);(try clear hb2);(try clear hk);(try clear hi);(try clear ho0);(try clear ho1))|((with_reducible refine gate_dst (N:=7) rfl ?_);refine box_event ?hg (N:=7) ?hd (cs:=#[.slice none 0 0,.slice none 0 0]) (t:=41) ?hr ?_;(case hd => rfl);(case hg => rfl);(case hr => first|(go_simp;done)|(go_simp;rfl));intro gb299 hg w44 hbox hb;have n0_:=Aside0.mk (Kd.R_below (by (with_reducible repeat (first|apply Kd.R_alloc|apply Kd.R_drewN|apply Kd.R_drew));exact HO288.out) hb);have n1_:=Aside0.mk (Kd.R_below (by (with_reducible repeat (first|apply Kd.R_alloc|apply Kd.R_drewN|apply Kd.R_drew));exact HO291.out) hb);have n2_:=Aside0.mk (Kd.R_below (by (with_reducible repeat (first|apply Kd.R_alloc|apply Kd.R_drewN|apply Kd.R_drew));exact HO295.out) hb);have n3_:=Aside0.mk (Kd.R_below (by (with_reducible repeat (first|apply Kd.R_alloc|apply Kd.R_drewN|apply Kd.R_drew));exact HO298.out) hb);have n4_:=Aside0.mk (blk_below (g:=gb284) (o:=.cells #[.slice A0_0 l0_0.length c0_0,.slice A0_1 l0_1.length c0_1] 36 (0,0)) (by (with_reducible repeat (first|refine blk_drewN ?_ _|refine blk_drew ?_|refine blk_alloc ?_ _));exact BK284.out) hb);have n5_:=Aside0.mk (below_step (by repeat (first|(with_reducible first|exact HB.out|apply below_alloc|apply pw_below_drewN|apply below_drew1|refine below_set ?_ GE284.out)|exact HB.out)) hb);have n6_:=Aside0.mk (hbox);have n7_:=Aside0.mk ((by rw [hg];exact (below_size (by repeat (first|(with_reducible first|exact HB.out|apply below_alloc|apply pw_below_drewN|apply below_drew1|refine below_set ?_ GE284.out)|exact HB.out))) : w.heap.size ≤ gb299));have n8_:=Aside0.mk ((by rw [hg];exact (below_size (by repeat (first|(with_reducible first|exact HB.out|apply below_alloc|apply pw_below_drewN|apply below_drew1|refine below_set ?_ GE284.out)|exact HB.out))) : w.heap.size ≤ gb299));have n9_:=Aside0.mk ((by rw [hg];exact Nat.ne_of_lt (blk_lt (g:=gb284) (o:=.cells #[.slice A0_0 l0_0.length c0_0,.slice A0_1 l0_1.length c0_1] 36 (0,0)) (by (with_reducible repeat (first|refine blk_drewN ?_ _|refine blk_drew ?_|refine blk_alloc ?_ _));exact BK284.out)) : gb284 ≠ gb299));have n10_:=Aside0.mk ((by rw [hg];exact Nat.ne_of_gt (blk_lt (g:=gb284) (o:=.cells #[.slice A0_0 l0_0.length c0_0,.slice A0_1 l0_1.length c0_1] 36 (0,0)) (by (with_reducible repeat (first|refine blk_drewN ?_ _|refine blk_drew ?_|refine blk_alloc ?_ _));exact BK284.out)) : gb299 ≠ gb284));clear HO288;clear HO291;clear HO295;clear HO298;clear BK284;clear HB;have HO288:=n0_;have HO291:=n1_;have HO295:=n2_;have HO298:=n3_;have BK284:=n4_;have HB:=n5_;have BK299:=n6_;have GW299:=n7_;have GE299:=n8_;have NB284_299:=n9_;have NB299_284:=n10_;clear n0_ n1_ n2_ n3_ n4_ n5_ n6_ n7_ n8_ n9_ n10_;clear hb hbox hg;obtain ⟨Ao45,co45,eo45⟩:=Kd.R_slice HO295.out;subst eo45;have hnb46:=NB299_284.out;have hnc46:=NB284_299.out;have hcz47_0 : w44.cell? ⟨gb299,0,none⟩ = some (.slice none 0 0):=(blk_cell BK299.out 0).trans rfl;have hcz47_1 : w44.cell? ⟨gb299,1,none⟩ = some (.slice none 0 0):=(blk_cell BK299.out 1).trans rfl;have hfz47_0:=blk_frozen BK299.out 0;have hfz47_1:=blk_frozen BK299.out 1;obtain ⟨Ao48,co48,eo48⟩:=Kd.R_slice HO298.out;subst eo48)|((with_reducible refine gate_callee (f:=18) rfl ?_);refine goesL_ (some 25) rfl rfl Tryd.func18 (by kernel_rfl) rfl #[.agg #[.slice Ao45 t293.length co45,.slice Ao48 t296.length co48],.string a1] rfl (by (try simp only [List.map_toArray,List.map_cons,List.map_nil]);first|done|rfl|(simp only [List.length_drop,List.length_take];rfl)) ?_;(with_reducible refine (fk_impl_Known.calls k _ _ t293 _ _ t296 a1 t300 _ (tab_at HTAB.out (by repeat (first|(with_reducible first|exact HB.out|apply below_alloc|apply pw_below_drewN|apply below_drew1|refine below_set ?_ GE284.out|refine below_set ?_ GE299.out)|exact HB.out))) ?side1 ?side2 ?side3 ?side4 A13.out).mono ?_);(case side1 => refine (Kd.R_reads' (e:=48) (base:=w.heap.size) (ok:=fun k_ => (True ∧ some k_ ≠ (.slice Ao39 t286.length co39 : Value).ownBlock)) (n:=t293.length) (c:=co45) ?_).2.2;exact (by (with_reducible repeat (first|apply Kd.R_alloc|apply Kd.R_drewN|apply Kd.R_drew));exact (Kd.R_mono (Kd.R_far (p:=⟨gb299,1,none⟩) (Kd.R_far (p:=⟨gb299,0,none⟩) (Kd.R_types HO295.out BK299.out (by decide)) (fun _ hk => hk.2) (.slice Ao45 t293.length co45)) (fun _ hk => hk.2) (.slice Ao48 t296.length co48)) (fun _ h_ => h_.1))));(case side2 => exact (Kd.R_reads' HO295.out).2.1);(case side3 => refine (Kd.R_reads' (e:=9) (base:=w.heap.size) (ok:=fun k_ => (True ∧ some k_ ≠ (.slice Ao40 t289.length co40 : Value).ownBlock)) (n:=t296.length) (c:=co48) ?_).2.2;exact (by (with_reducible repeat (first|apply Kd.R_alloc|apply Kd.R_drewN|apply Kd.R_drew));exact (Kd.R_mono (Kd.R_far (p:=⟨gb299,1,none⟩) (Kd.R_far (p:=⟨gb299,0,none⟩) (Kd.R_types HO298.out BK299.out (by decide)) (fun _ hk => hk.2) (.slice Ao45 t293.length co45)) (fun _ hk => hk.2) (.slice Ao48 t296.length co48)) (fun _ h_ => h_.1))));(case side4 => exact (Kd.R_reads' HO298.out).2.1);rintro e w49 ⟨rfl,hb⟩;refine ⟨_,rfl,?_⟩;have n0_:=Aside0.mk (Kd.R_below (by (with_reducible repeat (first|apply Kd.R_alloc|apply Kd.R_drewN|apply Kd.R_drew));exact (Kd.R_mono (Kd.R_far (p:=⟨gb299,1,none⟩) (Kd.R_far (p:=⟨gb299,0,none⟩) (Kd.R_types HO288.out BK299.out (by decide)) (fun _ hk => hk.2) (.slice Ao45 t293.length co45)) (fun _ hk => hk.2) (.slice Ao48 t296.length co48)) (fun _ h_ => h_.1))) hb);have n1_:=Aside0.mk (Kd.R_below (by (with_reducible repeat (first|apply Kd.R_alloc|apply Kd.R_drewN|apply Kd.R_drew));exact (Kd.R_mono (Kd.R_far (p:=⟨gb299,1,none⟩) (Kd.R_far (p:=⟨gb299,0,none⟩) (Kd.R_types HO291.out BK299.out (by decide)) (fun _ hk => hk.2) (.slice Ao45 t293.length co45)) (fun _ hk => hk.2) (.slice Ao48 t296.length co48)) (fun _ h_ => h_.1))) hb);have n2_:=Aside0.mk (Kd.R_below (by (with_reducible repeat (first|apply Kd.R_alloc|apply Kd.R_drewN|apply Kd.R_drew));exact (Kd.R_mono (Kd.R_far (p:=⟨gb299,1,none⟩) (Kd.R_far (p:=⟨gb299,0,none⟩) (Kd.R_types HO295.out BK299.out (by decide)) (fun _ hk => hk.2) (.slice Ao45 t293.length co45)) (fun _ hk => hk.2) (.slice Ao48 t296.length co48)) (fun _ h_ => h_.1))) hb);have n3_:=Aside0.mk (Kd.R_below (by (with_reducible repeat (first|apply Kd.R_alloc|apply Kd.R_drewN|apply Kd.R_drew));exact (Kd.R_mono (Kd.R_far (p:=⟨gb299,1,none⟩) (Kd.R_far (p:=⟨gb299,0,none⟩) (Kd.R_types HO298.out BK299.out (by decide)) (fun _ hk => hk.2) (.slice Ao45 t293.length co45)) (fun _ hk => hk.2) (.slice Ao48 t296.length co48)) (fun _ h_ => h_.1))) hb);have n4_:=Aside0.mk (blk_below (g:=gb284) (o:=.cells #[.slice A0_0 l0_0.length c0_0,.slice A0_1 l0_1.length c0_1] 36 (0,0)) (by (with_reducible repeat (first|refine blk_drewN ?_ _|refine blk_drew ?_|refine blk_alloc ?_ _));refine blk_far ?_ NB284_299.out _;(with_reducible repeat (first|refine blk_drewN ?_ _|refine blk_drew ?_|refine blk_alloc ?_ _));refine blk_far ?_ NB284_299.out _;(with_reducible repeat (first|refine blk_drewN ?_ _|refine blk_drew ?_|refine blk_alloc ?_ _));exact BK284.out) hb);have n5_:=Aside0.mk (blk_below (g:=gb299) (o:=.cells #[.slice Ao45 t293.length co45,.slice Ao48 t296.length co48] 41 (0,0)) (by (with_reducible repeat (first|refine blk_drewN ?_ _|refine blk_drew ?_|refine blk_alloc ?_ _));refine blk_put (cs:=#[.slice Ao45 t293.length co45,.slice none 0 0]) ?_ 1 _ rfl;(with_reducible repeat (first|refine blk_drewN ?_ _|refine blk_drew ?_|refine blk_alloc ?_ _));refine blk_put (cs:=#[.slice none 0 0,.slice none 0 0]) ?_ 0 _ rfl;(with_reducible repeat (first|refine blk_drewN ?_ _|refine blk_drew ?_|refine blk_alloc ?_ _));exact BK299.out) hb);have n6_:=Aside0.mk (below_step (by repeat (first|(with_reducible first|exact HB.out|apply below_alloc|apply pw_below_drewN|apply below_drew1|refine below_set ?_ GE284.out|refine below_set ?_ GE299.out)|exact HB.out)) hb);clear HO288;clear HO291;clear HO295;clear HO298;clear BK284;clear BK299;clear HB;have HO288:=n0_;have HO291:=n1_;have HO295:=n2_;have HO298:=n3_;have BK284:=n4_;have BK299:=n5_;have HB:=n6_;clear n0_ n1_ n2_ n3_ n4_ n5_ n6_;(try clear hb)))
     have n0_:=Aside0.mk (Kd.R_drew HO288.out)
     have n1_:=Aside0.mk (Kd.R_drew HO291.out)
     have n2_:=Aside0.mk (Kd.R_drew HO295.out)
     have n3_:=Aside0.mk (Kd.R_drew HO298.out)
     have n4_:=Aside0.mk (blk_drew BK284.out)
     have n5_:=Aside0.mk (blk_drew BK299.out)
     have n6_:=Aside0.mk (below_drew1 HB.out)
     clear HO288
     clear HO291
     clear HO295
     clear HO298
     clear BK284
     clear BK299
     clear HB
     have HO288:=n0_
     have HO291:=n1_
     have HO295:=n2_
     have HO298:=n3_
     have BK284:=n4_
     have BK299:=n5_
     have HB:=n6_
     clear n0_ n1_ n2_ n3_ n4_ n5_ n6_
     refine start_ (n:=5) (S:=fun w' => w'.cell? ⟨gb299,0,none⟩ = some (.slice Ao45 t293.length co45) ∧ w'.cell? ⟨gb299,1,none⟩ = some (.slice Ao48 t296.length co48) ∧ w'.cell? ⟨gb284,0,none⟩ = some (.slice A0_0 l0_0.length c0_0) ∧ w'.cell? ⟨gb284,1,none⟩ = some (.slice A0_1 l0_1.length c0_1)) (ds:=[]) #[false,false,false,false,false] (by kernel_rfl) rfl rfl ⟨(blk_cell BK299.out 0).trans rfl,(blk_cell BK299.out 1).trans rfl,(blk_cell BK284.out 0).trans rfl,(blk_cell BK284.out 1).trans rfl⟩ (fun hHeld => ?_)
     generalize w49.drew = w50 at HO288 HO291 HO295 HO298 BK284 BK299 HB hHeld ⊢
     refine take_ (i:=0) (N:=some 29) (v:=?_) (a':=?_) #[true,false,false,false,false] rfl rfl (by kernel_rfl) (fun _ _ _ h => h) (Or.inl ⟨by rfl,?_⟩) hHeld ?_ ?_
     rotate_left
     ·rintro w' ⟨s0,s1,s2,s3⟩
      go_simp
      with_reducible rfl
     rotate_left
     ·simp only [Act.put,List.setIfInBounds_toArray,List.set_cons_zero,List.set_cons_succ,i64_w,i32_w]
      rfl
     refine take_ (i:=1) (N:=some 30) (v:=?_) (a':=?_) #[true,true,false,false,false] rfl rfl (by kernel_rfl) (fun _ _ _ h => h) (Or.inl ⟨by rfl,?_⟩) hHeld ?_ ?_
     rotate_left
     ·rintro w' ⟨s0,s1,s2,s3⟩
      go_simp
      with_reducible rfl
     rotate_left
     ·simp only [Act.put,List.setIfInBounds_toArray,List.set_cons_zero,List.set_cons_succ,i64_w,i32_w]
      rfl
     refine one_ (i:=2) (N:=some 31) #[true,true,true,false,false] rfl rfl (by kernel_rfl) (by decide) (fun K hK => ?_)
     refine goes_ Tryd.func17 (by kernel_rfl) rfl #[.agg #[.slice A0_0 l0_0.length c0_0,.slice A0_1 l0_1.length c0_1]] (by rfl) rfl rfl (by (try simp only [List.map_toArray,List.map_cons,List.map_nil]);first|done|rfl|(simp only [List.length_drop,List.length_take];rfl)) ?_
     with_reducible refine (laws_toDb.calls k _ _ l0_0 _ _ l0_1 t301 t304 _ ?side1 ?side2 ?side3 ?side4 A31.out).mono ?_
     (case side1 => repeat (first|exact (Kd.C_below HR0_0.out HB.out)|(with_reducible refine Kd.C_alloc ?_ _)|(with_reducible refine Kd.C_drewN ?_ _)|(with_reducible refine Kd.C_drew ?_)))
     (case side2 => exact HC0_0.out)
     (case side3 => repeat (first|exact (Kd.C_below HR0_1.out HB.out)|(with_reducible refine Kd.C_alloc ?_ _)|(with_reducible refine Kd.C_drewN ?_ _)|(with_reducible refine Kd.C_drew ?_)))
     (case side4 => exact HC0_1.out)
     rintro e w51 ⟨v302,v305,rfl,ho0,ho1,hb⟩
     refine ⟨_,rfl,?_⟩
     have n0_:=Aside0.mk (Kd.R_elder' (by (with_reducible repeat (first|apply Kd.R_alloc|apply Kd.R_drewN|apply Kd.R_drew));exact HO288.out) (Kd.R_base ho0) hb)
     have n1_:=Aside0.mk (Kd.R_elder' (by (with_reducible repeat (first|apply Kd.R_alloc|apply Kd.R_drewN|apply Kd.R_drew));exact HO291.out) (Kd.R_base ho1) hb)
     have n2_:=Aside0.mk (Kd.R_elder' (by (with_reducible repeat (first|apply Kd.R_alloc|apply Kd.R_drewN|apply Kd.R_drew));exact HO295.out) (Kd.R_base ho0) hb)
     have n3_:=Aside0.mk (Kd.R_elder' (by (with_reducible repeat (first|apply Kd.R_alloc|apply Kd.R_drewN|apply Kd.R_drew));exact HO298.out) (Kd.R_base ho1) hb)
     have n4_:=Aside0.mk (Kd.R_lower (Kd.R_new' (Kd.R_new' ho0 (Kd.R_lt (by (with_reducible repeat (first|apply Kd.R_alloc|apply Kd.R_drewN|apply Kd.R_drew));exact HO288.out))) (Kd.R_lt (by (with_reducible repeat (first|apply Kd.R_alloc|apply Kd.R_drewN|apply Kd.R_drew));exact HO295.out))) (below_size (by repeat (first|(with_reducible first|exact HB.out|apply below_alloc|apply pw_below_drewN|apply below_drew1|refine below_set ?_ GE284.out|refine below_set ?_ GE299.out)|exact HB.out))))
     have n5_:=Aside0.mk (Kd.R_lower (Kd.R_new' (Kd.R_new' ho1 (Kd.R_lt (by (with_reducible repeat (first|apply Kd.R_alloc|apply Kd.R_drewN|apply Kd.R_drew));exact HO291.out))) (Kd.R_lt (by (with_reducible repeat (first|apply Kd.R_alloc|apply Kd.R_drewN|apply Kd.R_drew));exact HO298.out))) (below_size (by repeat (first|(with_reducible first|exact HB.out|apply below_alloc|apply pw_below_drewN|apply below_drew1|refine below_set ?_ GE284.out|refine below_set ?_ GE299.out)|exact HB.out))))
     have n6_:=Aside0.mk (blk_below (g:=gb284) (o:=.cells #[.slice A0_0 l0_0.length c0_0,.slice A0_1 l0_1.length c0_1] 36 (0,0)) (by (with_reducible repeat (first|refine blk_drewN ?_ _|refine blk_drew ?_|refine blk_alloc ?_ _));exact BK284.out) hb)
     have n7_:=Aside0.mk (blk_below (g:=gb299) (o:=.cells #[.slice Ao45 t293.length co45,.slice Ao48 t296.length co48] 41 (0,0)) (by (with_reducible repeat (first|refine blk_drewN ?_ _|refine blk_drew ?_|refine blk_alloc ?_ _));exact BK299.out) hb)
     have n8_:=Aside0.mk (below_step (by repeat (first|(with_reducible first|exact HB.out|apply below_alloc|apply pw_below_drewN|apply below_drew1|refine below_set ?_ GE284.out|refine below_set ?_ GE299.out)|exact HB.out)) hb)
     clear HO288
     clear HO291
     clear HO295
     clear HO298
     clear BK284
     clear BK299
     clear HB
     have HO288:=n0_
     have HO291:=n1_
     have HO295:=n2_
     have HO298:=n3_
     have HO303:=n4_
     have HO306:=n5_
     have BK284:=n6_
     have BK299:=n7_
     have HB:=n8_
     clear n0_ n1_ n2_ n3_ n4_ n5_ n6_ n7_ n8_
     (try clear hb)
     (try clear hb2)
     (try clear hk)
     (try clear hi)
     (try clear ho0)
     (try clear ho1)
     obtain ⟨Ao52,co52,eo52⟩:=Kd.R_slice HO303.out
     (first|subst eo52|(injection eo52 with f1_ f2_ f3_;have f4_:=f1_.symm;have f5_:=f3_.symm;clear f1_ f2_ f3_;subst f4_;subst f5_))
     obtain ⟨Ao53,co53,eo53⟩:=Kd.R_slice HO306.out
     (first|subst eo53|(injection eo53 with f1_ f2_ f3_;have f4_:=f1_.symm;have f5_:=f3_.symm;clear f1_ f2_ f3_;subst f4_;subst f5_))
     refine hK.out _ _ ⟨(blk_cell BK299.out 0).trans rfl,(blk_cell BK299.out 1).trans rfl,(blk_cell BK284.out 0).trans rfl,(blk_cell BK284.out 1).trans rfl⟩ (fun hHeld => ?_)
     clear hK K
     refine norm_ (a':=?_) ?_ ?_
     rotate_left
     ·show Act.put _ (some 31) _ = _
      simp only [Act.put,List.setIfInBounds_toArray,List.set_cons_zero,List.set_cons_succ,i64_w,i32_w]
      rfl
     refine one_ (i:=3) (N:=some 32) #[true,true,true,true,false] rfl rfl (by kernel_rfl) (by decide) (fun K hK => ?_)
     refine goes_ Tryd.func19 (by kernel_rfl) rfl #[.agg #[.slice Ao45 t293.length co45,.slice Ao48 t296.length co48],.agg #[.slice Ao52 t301.length co52,.slice Ao53 t304.length co53]] (by rfl) rfl rfl (by (try simp only [List.map_toArray,List.map_cons,List.map_nil]);first|done|rfl|(simp only [List.length_drop,List.length_take];rfl)) ?_
     with_reducible refine (laws_eqDb.calls k _ _ t293 _ _ t296 _ _ t301 _ _ t304 true _ ?side1 ?side2 ?side3 ?side4 ?side5 ?side6 ?side7 ?side8 A32.out).mono ?_
     (case side1 => repeat (first|exact (Kd.R_reads' HO295.out).2.2|(with_reducible refine Kd.C_alloc ?_ _)|(with_reducible refine Kd.C_drewN ?_ _)|(with_reducible refine Kd.C_drew ?_)))
     (case side2 => exact (Kd.R_reads' HO295.out).2.1)
     (case side3 => repeat (first|exact (Kd.R_reads' HO298.out).2.2|(with_reducible refine Kd.C_alloc ?_ _)|(with_reducible refine Kd.C_drewN ?_ _)|(with_reducible refine Kd.C_drew ?_)))
     (case side4 => exact (Kd.R_reads' HO298.out).2.1)
     (case side5 => repeat (first|exact (Kd.R_reads' HO303.out).2.2|(with_reducible refine Kd.C_alloc ?_ _)|(with_reducible refine Kd.C_drewN ?_ _)|(with_reducible refine Kd.C_drew ?_)))
     (case side6 => exact (Kd.R_reads' HO303.out).2.1)
     (case side7 => repeat (first|exact (Kd.R_reads' HO306.out).2.2|(with_reducible refine Kd.C_alloc ?_ _)|(with_reducible refine Kd.C_drewN ?_ _)|(with_reducible refine Kd.C_drew ?_)))
     (case side8 => exact (Kd.R_reads' HO306.out).2.1)
     rintro e w54 ⟨rfl,hb⟩
     refine ⟨_,rfl,?_⟩
     have n0_:=Aside0.mk (Kd.R_below (by (with_reducible repeat (first|apply Kd.R_alloc|apply Kd.R_drewN|apply Kd.R_drew));exact HO288.out) hb)
     have n1_:=Aside0.mk (Kd.R_below (by (with_reducible repeat (first|apply Kd.R_alloc|apply Kd.R_drewN|apply Kd.R_drew));exact HO291.out) hb)
     have n2_:=Aside0.mk (Kd.R_below (by (with_reducible repeat (first|apply Kd.R_alloc|apply Kd.R_drewN|apply Kd.R_drew));exact HO295.out) hb)
     have n3_:=Aside0.mk (Kd.R_below (by (with_reducible repeat (first|apply Kd.R_alloc|apply Kd.R_drewN|apply Kd.R_drew));exact HO298.out) hb)
     have n4_:=Aside0.mk (Kd.R_below (by (with_reducible repeat (first|apply Kd.R_alloc|apply Kd.R_drewN|apply Kd.R_drew));exact HO303.out) hb)
     have n5_:=Aside0.mk (Kd.R_below (by (with_reducible repeat (first|apply Kd.R_alloc|apply Kd.R_drewN|apply Kd.R_drew));exact HO306.out) hb)
     have n6_:=Aside0.mk (blk_below (g:=gb284) (o:=.cells #[.slice A0_0 l0_0.length c0_0,.slice A0_1 l0_1.length c0_1] 36 (0,0)) (by (with_reducible repeat (first|refine blk_drewN ?_ _|refine blk_drew ?_|refine blk_alloc ?_ _));exact BK284.out) hb)
     have n7_:=Aside0.mk (blk_below (g:=gb299) (o:=.cells #[.slice Ao45 t293.length co45,.slice Ao48 t296.length co48] 41 (0,0)) (by (with_reducible repeat (first|refine blk_drewN ?_ _|refine blk_drew ?_|refine blk_alloc ?_ _));exact BK299.out) hb)
     have n8_:=Aside0.mk (below_step (by repeat (first|(with_reducible first|exact HB.out|apply below_alloc|apply pw_below_drewN|apply below_drew1|refine below_set ?_ GE284.out|refine below_set ?_ GE299.out)|exact HB.out)) hb)
     clear HO288
     clear HO291
     clear HO295
     clear HO298
     clear HO303
     clear HO306
     clear BK284
     clear BK299
     clear HB
     have HO288:=n0_
     have HO291:=n1_
     have HO295:=n2_
     have HO298:=n3_
     have HO303:=n4_
     have HO306:=n5_
     have BK284:=n6_
     have BK299:=n7_
     have HB:=n8_
     clear n0_ n1_ n2_ n3_ n4_ n5_ n6_ n7_ n8_
     (try clear hb)
     (try clear hb2)
     (try clear hk)
     (try clear hi)
     refine hK.out _ _ ⟨(blk_cell BK299.out 0).trans rfl,(blk_cell BK299.out 1).trans rfl,(blk_cell BK284.out 0).trans rfl,(blk_cell BK284.out 1).trans rfl⟩ (fun hHeld => ?_)
     clear hK K
     refine norm_ (a':=?_) ?_ ?_
     rotate_left
     ·show Act.put _ (some 32) _ = _
      simp only [Act.put,List.setIfInBounds_toArray,List.set_cons_zero,List.set_cons_succ,i64_w,i32_w]
      rfl
     refine pure_ (i:=4) (N:=some 33) (v:=?_) (a':=?_) #[true,true,true,true,true] rfl rfl (by kernel_rfl) (fun _ _ _ h => h) (Or.inl ⟨by rfl,?_⟩) ?_ ?_
     rotate_left
     ·intro w'
      go_simp
      with_reducible rfl
     rotate_left
     ·simp only [Act.put,List.setIfInBounds_toArray,List.set_cons_zero,List.set_cons_succ,i64_w,i32_w]
      rfl
     refine done_ (by kernel_rfl) ?_
     try go_wp2
     go_ret
     exact ⟨by first|rfl|(simp [errW_none,errW_some] <;> rfl)|(simp [*,errW_none,errW_some] <;> rfl),by repeat (first|(with_reducible first|exact HB.out|apply below_alloc|apply pw_below_drewN|apply below_drew1|refine below_set ?_ GE284.out|refine below_set ?_ GE299.out)|exact HB.out)⟩
    ·replace c33:=Bool.eq_false_iff.mpr c33
     subst c33
     have H1 : (some false) = some r:=by rw [if_neg (show ¬ (false = true) by decide)] at H;exact H
     clear H
     have H:=H1
     clear H1
     obtain rfl:=Option.some.inj H
     go_enter Tryd.func4,Tryd.ntmps4
     try go_wp2_with (first|((with_reducible refine gate_dst (N:=2) rfl ?_);refine box_event ?hg (N:=2) ?hd (cs:=#[.slice A0_0 l0_0.length c0_0,.slice A0_1 l0_1.length c0_1]) (t:=36) ?hr ?_;(case hd => rfl);(case hg => rfl);(case hr => first|(go_simp;done)|(go_simp;rfl));intro gb284 hg w55 hbox hb;have n0_:=Aside0.mk (below_step (by repeat (first|(with_reducible first|exact HB.out|apply below_alloc|apply pw_below_drewN|apply below_drew1)|exact HB.out)) hb);have n1_:=Aside0.mk (hbox);have n2_:=Aside0.mk ((by rw [hg];exact (below_size (by repeat (first|(with_reducible first|exact HB.out|apply below_alloc|apply pw_below_drewN|apply below_drew1)|exact HB.out))) : w.heap.size ≤ gb284));have n3_:=Aside0.mk ((by rw [hg];exact (below_size (by repeat (first|(with_reducible first|exact HB.out|apply below_alloc|apply pw_below_drewN|apply below_drew1)|exact HB.out))) : w.heap.size ≤ gb284));clear HB;have HB:=n0_;have BK284:=n1_;have GW284:=n2_;have GE284:=n3_;clear n0_ n1_ n2_ n3_;clear hb hbox hg;have hcz56_0 : w55.cell? ⟨gb284,0,none⟩ = some (.slice A0_0 l0_0.length c0_0):=(blk_cell BK284.out 0).trans rfl;have hcz56_1 : w55.cell? ⟨gb284,1,none⟩ = some (.slice A0_1 l0_1.length c0_1):=(blk_cell BK284.out 1).trans rfl;have hfz56_0:=blk_frozen BK284.out 0;have hfz56_1:=blk_frozen BK284.out 1)|((with_reducible refine gate_callee (f:=15) rfl ?_);refine goesL_ (some 14) rfl rfl Tryd.func15 (by kernel_rfl) rfl #[.agg #[.slice A0_0 l0_0.length c0_0,.slice A0_1 l0_1.length c0_1],.int .i64 1048576] rfl (by (try simp only [List.map_toArray,List.map_cons,List.map_nil]);first|done|rfl|(simp only [List.length_drop,List.length_take];rfl)) ?_;(with_reducible refine (laws_szDb.calls k _ _ l0_0 _ _ l0_1 1048576 t285 _ ?side1 ?side2 ?side3 ?side4 A5.out).mono ?_);(case side1 => repeat (first|exact (Kd.C_below HR0_0.out HB.out)|(with_reducible refine Kd.C_alloc ?_ _)|(with_reducible refine Kd.C_drewN ?_ _)|(with_reducible refine Kd.C_drew ?_)));(case side2 => exact HC0_0.out);(case side3 => repeat (first|exact (Kd.C_below HR0_1.out HB.out)|(with_reducible refine Kd.C_alloc ?_ _)|(with_reducible refine Kd.C_drewN ?_ _)|(with_reducible refine Kd.C_drew ?_)));(case side4 => exact HC0_1.out);rintro e w57 ⟨rfl,hb⟩;refine ⟨_,rfl,?_⟩;have n0_:=Aside0.mk (blk_below (g:=gb284) (o:=.cells #[.slice A0_0 l0_0.length c0_0,.slice A0_1 l0_1.length c0_1] 36 (0,0)) (by (with_reducible repeat (first|refine blk_drewN ?_ _|refine blk_drew ?_|refine blk_alloc ?_ _));exact BK284.out) hb);have n1_:=Aside0.mk (below_step (by repeat (first|(with_reducible first|exact HB.out|apply below_alloc|apply pw_below_drewN|apply below_drew1|refine below_set ?_ GE284.out)|exact HB.out)) hb);clear BK284;clear HB;have BK284:=n0_;have HB:=n1_;clear n0_ n1_;(try clear hb);(try clear hb2);(try clear hk);(try clear hi);have hcz58_0 : w57.cell? ⟨gb284,0,none⟩ = some (.slice A0_0 l0_0.length c0_0):=(blk_cell BK284.out 0).trans rfl;have hcz58_1 : w57.cell? ⟨gb284,1,none⟩ = some (.slice A0_1 l0_1.length c0_1):=(blk_cell BK284.out 1).trans rfl;have hfz58_0:=blk_frozen BK284.out 0;have hfz58_1:=blk_frozen BK284.out 1)|((with_reducible refine gate_callee (f:=17) rfl ?_);refine goesL_ (some 18) rfl rfl Tryd.func17 (by kernel_rfl) rfl #[.agg #[.slice A0_0 l0_0.length c0_0,.slice A0_1 l0_1.length c0_1]] rfl (by (try simp only [List.map_toArray,List.map_cons,List.map_nil]);first|done|rfl|(simp only [List.length_drop,List.length_take];rfl)) ?_;(with_reducible refine (laws_toDb.calls k _ _ l0_0 _ _ l0_1 t286 t289 _ ?side1 ?side2 ?side3 ?side4 A10.out).mono ?_);(case side1 => repeat (first|exact (Kd.C_below HR0_0.out HB.out)|(with_reducible refine Kd.C_alloc ?_ _)|(with_reducible refine Kd.C_drewN ?_ _)|(with_reducible refine Kd.C_drew ?_)));(case side2 => exact HC0_0.out);(case side3 => repeat (first|exact (Kd.C_below HR0_1.out HB.out)|(with_reducible refine Kd.C_alloc ?_ _)|(with_reducible refine Kd.C_drewN ?_ _)|(with_reducible refine Kd.C_drew ?_)));(case side4 => exact HC0_1.out);rintro e w59 ⟨v287,v290,rfl,ho0,ho1,hb⟩;refine ⟨_,rfl,?_⟩;have n0_:=Aside0.mk (Kd.R_lower ho0 (below_size (by repeat (first|(with_reducible first|exact HB.out|apply below_alloc|apply pw_below_drewN|apply below_drew1|refine below_set ?_ GE284.out)|exact HB.out))));have n1_:=Aside0.mk (Kd.R_lower ho1 (below_size (by repeat (first|(with_reducible first|exact HB.out|apply below_alloc|apply pw_below_drewN|apply below_drew1|refine below_set ?_ GE284.out)|exact HB.out))));have n2_:=Aside0.mk (blk_below (g:=gb284) (o:=.cells #[.slice A0_0 l0_0.length c0_0,.slice A0_1 l0_1.length c0_1] 36 (0,0)) (by (with_reducible repeat (first|refine blk_drewN ?_ _|refine blk_drew ?_|refine blk_alloc ?_ _));exact BK284.out) hb);have n3_:=Aside0.mk (below_step (by repeat (first|(with_reducible first|exact HB.out|apply below_alloc|apply pw_below_drewN|apply below_drew1|refine below_set ?_ GE284.out)|exact HB.out)) hb);clear BK284;clear HB;have HO288:=n0_;have HO291:=n1_;have BK284:=n2_;have HB:=n3_;clear n0_ n1_ n2_ n3_;(try clear hb);(try clear hb2);(try clear hk);(try clear hi);(try clear ho0);(try clear ho1);obtain ⟨Ao60,co60,eo60⟩:=Kd.R_slice HO288.out;subst eo60;obtain ⟨Ao61,co61,eo61⟩:=Kd.R_slice HO291.out;subst eo61)|((with_reducible refine gate_callee (f:=16) rfl ?_);refine goesL_ (some 20) rfl rfl Tryd.func16 (by kernel_rfl) rfl #[.agg #[.slice Ao60 t286.length co60,.slice Ao61 t289.length co61],.string a1] rfl (by (try simp only [List.map_toArray,List.map_cons,List.map_nil]);first|done|rfl|(simp only [List.length_drop,List.length_take];rfl)) ?_;(with_reducible refine (spec_Known.calls k _ _ t286 _ _ t289 a1 t292 _ ?side1 ?side2 ?side3 ?side4 A11.out).mono ?_);(case side1 => repeat (first|exact (Kd.R_reads' HO288.out).2.2|(with_reducible refine Kd.C_alloc ?_ _)|(with_reducible refine Kd.C_drewN ?_ _)|(with_reducible refine Kd.C_drew ?_)));(case side2 => exact (Kd.R_reads' HO288.out).2.1);(case side3 => repeat (first|exact (Kd.R_reads' HO291.out).2.2|(with_reducible refine Kd.C_alloc ?_ _)|(with_reducible refine Kd.C_drewN ?_ _)|(with_reducible refine Kd.C_drew ?_)));(case side4 => exact (Kd.R_reads' HO291.out).2.1);rintro e w62 ⟨rfl,hb⟩;refine ⟨_,rfl,?_⟩;have n0_:=Aside0.mk (Kd.R_below (by (with_reducible repeat (first|apply Kd.R_alloc|apply Kd.R_drewN|apply Kd.R_drew));exact HO288.out) hb);have n1_:=Aside0.mk (Kd.R_below (by (with_reducible repeat (first|apply Kd.R_alloc|apply Kd.R_drewN|apply Kd.R_drew));exact HO291.out) hb);have n2_:=Aside0.mk (blk_below (g:=gb284) (o:=.cells #[.slice A0_0 l0_0.length c0_0,.slice A0_1 l0_1.length c0_1] 36 (0,0)) (by (with_reducible repeat (first|refine blk_drewN ?_ _|refine blk_drew ?_|refine blk_alloc ?_ _));exact BK284.out) hb);have n3_:=Aside0.mk (below_step (by repeat (first|(with_reducible first|exact HB.out|apply below_alloc|apply pw_below_drewN|apply below_drew1|refine below_set ?_ GE284.out)|exact HB.out)) hb);clear HO288;clear HO291;clear BK284;clear HB;have HO288:=n0_;have HO291:=n1_;have BK284:=n2_;have HB:=n3_;clear n0_ n1_ n2_ n3_;(try clear hb);(try clear hb2);(try clear hk);(try clear hi);have hcz63_0 : w62.cell? ⟨gb284,0,none⟩ = some (.slice A0_0 l0_0.length c0_0):=(blk_cell BK284.out 0).trans rfl;have hcz63_1 : w62.cell? ⟨gb284,1,none⟩ = some (.slice A0_1 l0_1.length c0_1):=(blk_cell BK284.out 1).trans rfl;have hfz63_0:=blk_frozen BK284.out 0;have hfz63_1:=blk_frozen BK284.out 1)|((with_reducible refine gate_callee (f:=17) rfl ?_);refine goesL_ (some 22) rfl rfl Tryd.func17 (by kernel_rfl) rfl #[.agg #[.slice A0_0 l0_0.length c0_0,.slice A0_1 l0_1.length c0_1]] rfl (by (try simp only [List.map_toArray,List.map_cons,List.map_nil]);first|done|rfl|(simp only [List.length_drop,List.length_take];rfl)) ?_;(with_reducible refine (laws_toDb.calls k _ _ l0_0 _ _ l0_1 t293 t296 _ ?side1 ?side2 ?side3 ?side4 A12.out).mono ?_);(case side1 => repeat (first|exact (Kd.C_below HR0_0.out HB.out)|(with_reducible refine Kd.C_alloc ?_ _)|(with_reducible refine Kd.C_drewN ?_ _)|(with_reducible refine Kd.C_drew ?_)));(case side2 => exact HC0_0.out);(case side3 => repeat (first|exact (Kd.C_below HR0_1.out HB.out)|(with_reducible refine Kd.C_alloc ?_ _)|(with_reducible refine Kd.C_drewN ?_ _)|(with_reducible refine Kd.C_drew ?_)));(case side4 => exact HC0_1.out);rintro e w64 ⟨v294,v297,rfl,ho0,ho1,hb⟩;refine ⟨_,rfl,?_⟩;have n0_:=Aside0.mk (Kd.R_elder' (by (with_reducible repeat (first|apply Kd.R_alloc|apply Kd.R_drewN|apply Kd.R_drew));exact HO288.out) (Kd.R_base ho0) hb);have n1_:=Aside0.mk (Kd.R_elder' (by (with_reducible repeat (first|apply Kd.R_alloc|apply Kd.R_drewN|apply Kd.R_drew));exact HO291.out) (Kd.R_base ho1) hb);have n2_:=Aside0.mk (Kd.R_lower (Kd.R_new' ho0 (Kd.R_lt (by (with_reducible repeat (first|apply Kd.R_alloc|apply Kd.R_drewN|apply Kd.R_drew));exact HO288.out))) (below_size (by repeat (first|(with_reducible first|exact HB.out|apply below_alloc|apply pw_below_drewN|apply below_drew1|refine below_set ?_ GE284.out)|exact HB.out))));have n3_:=Aside0.mk (Kd.R_lower (Kd.R_new' ho1 (Kd.R_lt (by (with_reducible repeat (first|apply Kd.R_alloc|apply Kd.R_drewN|apply Kd.R_drew));exact HO291.out))) (below_size (by repeat (first|(with_reducible first|exact HB.out|apply below_alloc|apply pw_below_drewN|apply below_drew1|refine below_set ?_ GE284.out)|exact HB.out))));have n4_:=Aside0.mk (blk_below (g:=gb284) (o:=.cells #[.slice A0_0 l0_0.length c0_0,.slice A0_1 l0_1.length c0_1] 36 (0,0)) (by (with_reducible repeat (first|refine blk_drewN ?_ _|refine blk_drew ?_|refine blk_alloc ?_ _));exact BK284.out) hb);have n5_:=Aside0.mk (below_step (by repeat (first|(with_reducible first|exact HB.out|apply below_alloc|apply pw_below_drewN|apply below_drew1|refine below_set ?_ GE284.out)|exact HB.out)) hb);clear HO288;clear HO291;clear BK284;clear HB;have HO288:=n0_;have HO291:=n1_;have HO295:=n2_;have HO298:=n3_;have BK284:=n4_;have HB:=n5_;clear n0_ n1_ n2_ n3_ n4_ n5_;(try clear hb);(try clear hb2);(try clear hk);(try clear hi);(try clear ho0);(try clear ho1))|((with_reducible refine gate_dst (N:=7) rfl ?_);refine box_event ?hg (N:=7) ?hd (cs:=#[.slice none 0 0,.slice none 0 0]) (t:=41) ?hr ?_;(case hd => rfl);(case hg => rfl);(case hr => first|(go_simp;done)|(go_simp;rfl));intro gb299 hg w65 hbox hb;have n0_:=Aside0.mk (Kd.R_below (by (with_reducible repeat (first|apply Kd.R_alloc|apply Kd.R_drewN|apply Kd.R_drew));exact HO288.out) hb);have n1_:=Aside0.mk (Kd.R_below (by (with_reducible repeat (first|apply Kd.R_alloc|apply Kd.R_drewN|apply Kd.R_drew));exact HO291.out) hb);have n2_:=Aside0.mk (Kd.R_below (by (with_reducible repeat (first|apply Kd.R_alloc|apply Kd.R_drewN|apply Kd.R_drew));exact HO295.out) hb);have n3_:=Aside0.mk (Kd.R_below (by (with_reducible repeat (first|apply Kd.R_alloc|apply Kd.R_drewN|apply Kd.R_drew));exact HO298.out) hb);have n4_:=Aside0.mk (blk_below (g:=gb284) (o:=.cells #[.slice A0_0 l0_0.length c0_0,.slice A0_1 l0_1.length c0_1] 36 (0,0)) (by (with_reducible repeat (first|refine blk_drewN ?_ _|refine blk_drew ?_|refine blk_alloc ?_ _));exact BK284.out) hb);have n5_:=Aside0.mk (below_step (by repeat (first|(with_reducible first|exact HB.out|apply below_alloc|apply pw_below_drewN|apply below_drew1|refine below_set ?_ GE284.out)|exact HB.out)) hb);have n6_:=Aside0.mk (hbox);have n7_:=Aside0.mk ((by rw [hg];exact (below_size (by repeat (first|(with_reducible first|exact HB.out|apply below_alloc|apply pw_below_drewN|apply below_drew1|refine below_set ?_ GE284.out)|exact HB.out))) : w.heap.size ≤ gb299));have n8_:=Aside0.mk ((by rw [hg];exact (below_size (by repeat (first|(with_reducible first|exact HB.out|apply below_alloc|apply pw_below_drewN|apply below_drew1|refine below_set ?_ GE284.out)|exact HB.out))) : w.heap.size ≤ gb299));have n9_:=Aside0.mk ((by rw [hg];exact Nat.ne_of_lt (blk_lt (g:=gb284) (o:=.cells #[.slice A0_0 l0_0.length c0_0,.slice A0_1 l0_1.length c0_1] 36 (0,0)) (by (with_reducible repeat (first|refine blk_drewN ?_ _|refine blk_drew ?_|refine blk_alloc ?_ _));exact BK284.out)) : gb284 ≠ gb299));have n10_:=Aside0.mk ((by rw [hg];exact Nat.ne_of_gt (blk_lt (g:=gb284) (o:=.cells #[.slice A0_0 l0_0.length c0_0,.slice A0_1 l0_1.length c0_1] 36 (0,0)) (by (with_reducible repeat (first|refine blk_drewN ?_ _|refine blk_drew ?_|refine blk_alloc ?_ _));exact BK284.out)) : gb299 ≠ gb284));clear HO288;clear HO291;clear HO295;clear HO298;clear BK284;clear HB;have HO288:=n0_;have HO291:=n1_;have HO295:=n2_;have HO298:=n3_;have BK284:=n4_;have HB:=n5_;have BK299:=n6_;have GW299:=n7_;have GE299:=n8_;have NB284_299:=n9_;have NB299_284:=n10_;clear n0_ n1_ n2_ n3_ n4_ n5_ n6_ n7_ n8_ n9_ n10_;clear hb hbox hg;obtain ⟨Ao66,co66,eo66⟩:=Kd.R_slice HO295.out;subst eo66;have hnb67:=NB299_284.out;have hnc67:=NB284_299.out;have hcz68_0 : w65.cell? ⟨gb299,0,none⟩ = some (.slice none 0 0):=(blk_cell BK299.out 0).trans rfl;have hcz68_1 : w65.cell? ⟨gb299,1,none⟩ = some (.slice none 0 0):=(blk_cell BK299.out 1).trans rfl;have hfz68_0:=blk_frozen BK299.out 0;have hfz68_1:=blk_frozen BK299.out 1;obtain ⟨Ao69,co69,eo69⟩:=Kd.R_slice HO298.out;subst eo69)|((with_reducible refine gate_callee (f:=18) rfl ?_);refine goesL_ (some 25) rfl rfl Tryd.func18 (by kernel_rfl) rfl #[.agg #[.slice Ao66 t293.length co66,.slice Ao69 t296.length co69],.string a1] rfl (by (try simp only [List.map_toArray,List.map_cons,List.map_nil]);first|done|rfl|(simp only [List.length_drop,List.length_take];rfl)) ?_;(with_reducible refine (fk_impl_Known.calls k _ _ t293 _ _ t296 a1 t300 _ (tab_at HTAB.out (by repeat (first|(with_reducible first|exact HB.out|apply below_alloc|apply pw_below_drewN|apply below_drew1|refine below_set ?_ GE284.out|refine below_set ?_ GE299.out)|exact HB.out))) ?side1 ?side2 ?side3 ?side4 A13.out).mono ?_);(case side1 => refine (Kd.R_reads' (e:=48) (base:=w.heap.size) (ok:=fun k_ => (True ∧ some k_ ≠ (.slice Ao60 t286.length co60 : Value).ownBlock)) (n:=t293.length) (c:=co66) ?_).2.2;exact (by (with_reducible repeat (first|apply Kd.R_alloc|apply Kd.R_drewN|apply Kd.R_drew));exact (Kd.R_mono (Kd.R_far (p:=⟨gb299,1,none⟩) (Kd.R_far (p:=⟨gb299,0,none⟩) (Kd.R_types HO295.out BK299.out (by decide)) (fun _ hk => hk.2) (.slice Ao66 t293.length co66)) (fun _ hk => hk.2) (.slice Ao69 t296.length co69)) (fun _ h_ => h_.1))));(case side2 => exact (Kd.R_reads' HO295.out).2.1);(case side3 => refine (Kd.R_reads' (e:=9) (base:=w.heap.size) (ok:=fun k_ => (True ∧ some k_ ≠ (.slice Ao61 t289.length co61 : Value).ownBlock)) (n:=t296.length) (c:=co69) ?_).2.2;exact (by (with_reducible repeat (first|apply Kd.R_alloc|apply Kd.R_drewN|apply Kd.R_drew));exact (Kd.R_mono (Kd.R_far (p:=⟨gb299,1,none⟩) (Kd.R_far (p:=⟨gb299,0,none⟩) (Kd.R_types HO298.out BK299.out (by decide)) (fun _ hk => hk.2) (.slice Ao66 t293.length co66)) (fun _ hk => hk.2) (.slice Ao69 t296.length co69)) (fun _ h_ => h_.1))));(case side4 => exact (Kd.R_reads' HO298.out).2.1);rintro e w70 ⟨rfl,hb⟩;refine ⟨_,rfl,?_⟩;have n0_:=Aside0.mk (Kd.R_below (by (with_reducible repeat (first|apply Kd.R_alloc|apply Kd.R_drewN|apply Kd.R_drew));exact (Kd.R_mono (Kd.R_far (p:=⟨gb299,1,none⟩) (Kd.R_far (p:=⟨gb299,0,none⟩) (Kd.R_types HO288.out BK299.out (by decide)) (fun _ hk => hk.2) (.slice Ao66 t293.length co66)) (fun _ hk => hk.2) (.slice Ao69 t296.length co69)) (fun _ h_ => h_.1))) hb);have n1_:=Aside0.mk (Kd.R_below (by (with_reducible repeat (first|apply Kd.R_alloc|apply Kd.R_drewN|apply Kd.R_drew));exact (Kd.R_mono (Kd.R_far (p:=⟨gb299,1,none⟩) (Kd.R_far (p:=⟨gb299,0,none⟩) (Kd.R_types HO291.out BK299.out (by decide)) (fun _ hk => hk.2) (.slice Ao66 t293.length co66)) (fun _ hk => hk.2) (.slice Ao69 t296.length co69)) (fun _ h_ => h_.1))) hb);have n2_:=Aside0.mk (Kd.R_below (by (with_reducible repeat (first|apply Kd.R_alloc|apply Kd.R_drewN|apply Kd.R_drew));exact (Kd.R_mono (Kd.R_far (p:=⟨gb299,1,none⟩) (Kd.R_far (p:=⟨gb299,0,none⟩) (Kd.R_types HO295.out BK299.out (by decide)) (fun _ hk => hk.2) (.slice Ao66 t293.length co66)) (fun _ hk => hk.2) (.slice Ao69 t296.length co69)) (fun _ h_ => h_.1))) hb);have n3_:=Aside0.mk (Kd.R_below (by (with_reducible repeat (first|apply Kd.R_alloc|apply Kd.R_drewN|apply Kd.R_drew));exact (Kd.R_mono (Kd.R_far (p:=⟨gb299,1,none⟩) (Kd.R_far (p:=⟨gb299,0,none⟩) (Kd.R_types HO298.out BK299.out (by decide)) (fun _ hk => hk.2) (.slice Ao66 t293.length co66)) (fun _ hk => hk.2) (.slice Ao69 t296.length co69)) (fun _ h_ => h_.1))) hb);have n4_:=Aside0.mk (blk_below (g:=gb284) (o:=.cells #[.slice A0_0 l0_0.length c0_0,.slice A0_1 l0_1.length c0_1] 36 (0,0)) (by (with_reducible repeat (first|refine blk_drewN ?_ _|refine blk_drew ?_|refine blk_alloc ?_ _));refine blk_far ?_ NB284_299.out _;(with_reducible repeat (first|refine blk_drewN ?_ _|refine blk_drew ?_|refine blk_alloc ?_ _));refine blk_far ?_ NB284_299.out _;(with_reducible repeat (first|refine blk_drewN ?_ _|refine blk_drew ?_|refine blk_alloc ?_ _));exact BK284.out) hb);have n5_:=Aside0.mk (blk_below (g:=gb299) (o:=.cells #[.slice Ao66 t293.length co66,.slice Ao69 t296.length co69] 41 (0,0)) (by (with_reducible repeat (first|refine blk_drewN ?_ _|refine blk_drew ?_|refine blk_alloc ?_ _));refine blk_put (cs:=#[.slice Ao66 t293.length co66,.slice none 0 0]) ?_ 1 _ rfl;(with_reducible repeat (first|refine blk_drewN ?_ _|refine blk_drew ?_|refine blk_alloc ?_ _));refine blk_put (cs:=#[.slice none 0 0,.slice none 0 0]) ?_ 0 _ rfl;(with_reducible repeat (first|refine blk_drewN ?_ _|refine blk_drew ?_|refine blk_alloc ?_ _));exact BK299.out) hb);have n6_:=Aside0.mk (below_step (by repeat (first|(with_reducible first|exact HB.out|apply below_alloc|apply pw_below_drewN|apply below_drew1|refine below_set ?_ GE284.out|refine below_set ?_ GE299.out)|exact HB.out)) hb);clear HO288;clear HO291;clear HO295;clear HO298;clear BK284;clear BK299;clear HB;have HO288:=n0_;have HO291:=n1_;have HO295:=n2_;have HO298:=n3_;have BK284:=n4_;have BK299:=n5_;have HB:=n6_;clear n0_ n1_ n2_ n3_ n4_ n5_ n6_;(try clear hb)))
     have n0_:=Aside0.mk (Kd.R_drew HO288.out)
     have n1_:=Aside0.mk (Kd.R_drew HO291.out)
     have n2_:=Aside0.mk (Kd.R_drew HO295.out)
     have n3_:=Aside0.mk (Kd.R_drew HO298.out)
     have n4_:=Aside0.mk (blk_drew BK284.out)
     have n5_:=Aside0.mk (blk_drew BK299.out)
     have n6_:=Aside0.mk (below_drew1 HB.out)
     clear HO288
     clear HO291
     clear HO295
     clear HO298
     clear BK284
     clear BK299
     clear HB
     have HO288:=n0_
     have HO291:=n1_
     have HO295:=n2_
     have HO298:=n3_
     have BK284:=n4_
     have BK299:=n5_
     have HB:=n6_
     clear n0_ n1_ n2_ n3_ n4_ n5_ n6_
     refine start_ (n:=5) (S:=fun w' => w'.cell? ⟨gb299,0,none⟩ = some (.slice Ao66 t293.length co66) ∧ w'.cell? ⟨gb299,1,none⟩ = some (.slice Ao69 t296.length co69) ∧ w'.cell? ⟨gb284,0,none⟩ = some (.slice A0_0 l0_0.length c0_0) ∧ w'.cell? ⟨gb284,1,none⟩ = some (.slice A0_1 l0_1.length c0_1)) (ds:=[]) #[false,false,false,false,false] (by kernel_rfl) rfl rfl ⟨(blk_cell BK299.out 0).trans rfl,(blk_cell BK299.out 1).trans rfl,(blk_cell BK284.out 0).trans rfl,(blk_cell BK284.out 1).trans rfl⟩ (fun hHeld => ?_)
     generalize w70.drew = w71 at HO288 HO291 HO295 HO298 BK284 BK299 HB hHeld ⊢
     refine take_ (i:=0) (N:=some 29) (v:=?_) (a':=?_) #[true,false,false,false,false] rfl rfl (by kernel_rfl) (fun _ _ _ h => h) (Or.inl ⟨by rfl,?_⟩) hHeld ?_ ?_
     rotate_left
     ·rintro w' ⟨s0,s1,s2,s3⟩
      go_simp
      with_reducible rfl
     rotate_left
     ·simp only [Act.put,List.setIfInBounds_toArray,List.set_cons_zero,List.set_cons_succ,i64_w,i32_w]
      rfl
     refine take_ (i:=1) (N:=some 30) (v:=?_) (a':=?_) #[true,true,false,false,false] rfl rfl (by kernel_rfl) (fun _ _ _ h => h) (Or.inl ⟨by rfl,?_⟩) hHeld ?_ ?_
     rotate_left
     ·rintro w' ⟨s0,s1,s2,s3⟩
      go_simp
      with_reducible rfl
     rotate_left
     ·simp only [Act.put,List.setIfInBounds_toArray,List.set_cons_zero,List.set_cons_succ,i64_w,i32_w]
      rfl
     refine one_ (i:=2) (N:=some 31) #[true,true,true,false,false] rfl rfl (by kernel_rfl) (by decide) (fun K hK => ?_)
     refine goes_ Tryd.func17 (by kernel_rfl) rfl #[.agg #[.slice A0_0 l0_0.length c0_0,.slice A0_1 l0_1.length c0_1]] (by rfl) rfl rfl (by (try simp only [List.map_toArray,List.map_cons,List.map_nil]);first|done|rfl|(simp only [List.length_drop,List.length_take];rfl)) ?_
     with_reducible refine (laws_toDb.calls k _ _ l0_0 _ _ l0_1 t301 t304 _ ?side1 ?side2 ?side3 ?side4 A31.out).mono ?_
     (case side1 => repeat (first|exact (Kd.C_below HR0_0.out HB.out)|(with_reducible refine Kd.C_alloc ?_ _)|(with_reducible refine Kd.C_drewN ?_ _)|(with_reducible refine Kd.C_drew ?_)))
     (case side2 => exact HC0_0.out)
     (case side3 => repeat (first|exact (Kd.C_below HR0_1.out HB.out)|(with_reducible refine Kd.C_alloc ?_ _)|(with_reducible refine Kd.C_drewN ?_ _)|(with_reducible refine Kd.C_drew ?_)))
     (case side4 => exact HC0_1.out)
     rintro e w72 ⟨v302,v305,rfl,ho0,ho1,hb⟩
     refine ⟨_,rfl,?_⟩
     have n0_:=Aside0.mk (Kd.R_elder' (by (with_reducible repeat (first|apply Kd.R_alloc|apply Kd.R_drewN|apply Kd.R_drew));exact HO288.out) (Kd.R_base ho0) hb)
     have n1_:=Aside0.mk (Kd.R_elder' (by (with_reducible repeat (first|apply Kd.R_alloc|apply Kd.R_drewN|apply Kd.R_drew));exact HO291.out) (Kd.R_base ho1) hb)
     have n2_:=Aside0.mk (Kd.R_elder' (by (with_reducible repeat (first|apply Kd.R_alloc|apply Kd.R_drewN|apply Kd.R_drew));exact HO295.out) (Kd.R_base ho0) hb)
     have n3_:=Aside0.mk (Kd.R_elder' (by (with_reducible repeat (first|apply Kd.R_alloc|apply Kd.R_drewN|apply Kd.R_drew));exact HO298.out) (Kd.R_base ho1) hb)
     have n4_:=Aside0.mk (Kd.R_lower (Kd.R_new' (Kd.R_new' ho0 (Kd.R_lt (by (with_reducible repeat (first|apply Kd.R_alloc|apply Kd.R_drewN|apply Kd.R_drew));exact HO288.out))) (Kd.R_lt (by (with_reducible repeat (first|apply Kd.R_alloc|apply Kd.R_drewN|apply Kd.R_drew));exact HO295.out))) (below_size (by repeat (first|(with_reducible first|exact HB.out|apply below_alloc|apply pw_below_drewN|apply below_drew1|refine below_set ?_ GE284.out|refine below_set ?_ GE299.out)|exact HB.out))))
     have n5_:=Aside0.mk (Kd.R_lower (Kd.R_new' (Kd.R_new' ho1 (Kd.R_lt (by (with_reducible repeat (first|apply Kd.R_alloc|apply Kd.R_drewN|apply Kd.R_drew));exact HO291.out))) (Kd.R_lt (by (with_reducible repeat (first|apply Kd.R_alloc|apply Kd.R_drewN|apply Kd.R_drew));exact HO298.out))) (below_size (by repeat (first|(with_reducible first|exact HB.out|apply below_alloc|apply pw_below_drewN|apply below_drew1|refine below_set ?_ GE284.out|refine below_set ?_ GE299.out)|exact HB.out))))
     have n6_:=Aside0.mk (blk_below (g:=gb284) (o:=.cells #[.slice A0_0 l0_0.length c0_0,.slice A0_1 l0_1.length c0_1] 36 (0,0)) (by (with_reducible repeat (first|refine blk_drewN ?_ _|refine blk_drew ?_|refine blk_alloc ?_ _));exact BK284.out) hb)
     have n7_:=Aside0.mk (blk_below (g:=gb299) (o:=.cells #[.slice Ao66 t293.length co66,.slice Ao69 t296.length co69] 41 (0,0)) (by (with_reducible repeat (first|refine blk_drewN ?_ _|refine blk_drew ?_|refine blk_alloc ?_ _));exact BK299.out) hb)
     have n8_:=Aside0.mk (below_step (by repeat (first|(with_reducible first|exact HB.out|apply below_alloc|apply pw_below_drewN|apply below_drew1|refine below_set ?_ GE284.out|refine below_set ?_ GE299.out)|exact HB.out)) hb)
     clear HO288
     clear HO291
     clear HO295
     clear HO298
     clear BK284
     clear BK299
     clear HB
     have HO288:=n0_
     have HO291:=n1_
     have HO295:=n2_
     have HO298:=n3_
     have HO303:=n4_
     have HO306:=n5_
     have BK284:=n6_
     have BK299:=n7_
     have HB:=n8_
     clear n0_ n1_ n2_ n3_ n4_ n5_ n6_ n7_ n8_
     (try clear hb)
     (try clear hb2)
     (try clear hk)
     (try clear hi)
     (try clear ho0)
     (try clear ho1)
     obtain ⟨Ao73,co73,eo73⟩:=Kd.R_slice HO303.out
     (first|subst eo73|(injection eo73 with f1_ f2_ f3_;have f4_:=f1_.symm;have f5_:=f3_.symm;clear f1_ f2_ f3_;subst f4_;subst f5_))
     obtain ⟨Ao74,co74,eo74⟩:=Kd.R_slice HO306.out
     (first|subst eo74|(injection eo74 with f1_ f2_ f3_;have f4_:=f1_.symm;have f5_:=f3_.symm;clear f1_ f2_ f3_;subst f4_;subst f5_))
     refine hK.out _ _ ⟨(blk_cell BK299.out 0).trans rfl,(blk_cell BK299.out 1).trans rfl,(blk_cell BK284.out 0).trans rfl,(blk_cell BK284.out 1).trans rfl⟩ (fun hHeld => ?_)
     clear hK K
     refine norm_ (a':=?_) ?_ ?_
     rotate_left
     ·show Act.put _ (some 31) _ = _
      simp only [Act.put,List.setIfInBounds_toArray,List.set_cons_zero,List.set_cons_succ,i64_w,i32_w]
      rfl
     refine one_ (i:=3) (N:=some 32) #[true,true,true,true,false] rfl rfl (by kernel_rfl) (by decide) (fun K hK => ?_)
     refine goes_ Tryd.func19 (by kernel_rfl) rfl #[.agg #[.slice Ao66 t293.length co66,.slice Ao69 t296.length co69],.agg #[.slice Ao73 t301.length co73,.slice Ao74 t304.length co74]] (by rfl) rfl rfl (by (try simp only [List.map_toArray,List.map_cons,List.map_nil]);first|done|rfl|(simp only [List.length_drop,List.length_take];rfl)) ?_
     with_reducible refine (laws_eqDb.calls k _ _ t293 _ _ t296 _ _ t301 _ _ t304 false _ ?side1 ?side2 ?side3 ?side4 ?side5 ?side6 ?side7 ?side8 A32.out).mono ?_
     (case side1 => repeat (first|exact (Kd.R_reads' HO295.out).2.2|(with_reducible refine Kd.C_alloc ?_ _)|(with_reducible refine Kd.C_drewN ?_ _)|(with_reducible refine Kd.C_drew ?_)))
     (case side2 => exact (Kd.R_reads' HO295.out).2.1)
     (case side3 => repeat (first|exact (Kd.R_reads' HO298.out).2.2|(with_reducible refine Kd.C_alloc ?_ _)|(with_reducible refine Kd.C_drewN ?_ _)|(with_reducible refine Kd.C_drew ?_)))
     (case side4 => exact (Kd.R_reads' HO298.out).2.1)
     (case side5 => repeat (first|exact (Kd.R_reads' HO303.out).2.2|(with_reducible refine Kd.C_alloc ?_ _)|(with_reducible refine Kd.C_drewN ?_ _)|(with_reducible refine Kd.C_drew ?_)))
     (case side6 => exact (Kd.R_reads' HO303.out).2.1)
     (case side7 => repeat (first|exact (Kd.R_reads' HO306.out).2.2|(with_reducible refine Kd.C_alloc ?_ _)|(with_reducible refine Kd.C_drewN ?_ _)|(with_reducible refine Kd.C_drew ?_)))
     (case side8 => exact (Kd.R_reads' HO306.out).2.1)
     rintro e w75 ⟨rfl,hb⟩
     refine ⟨_,rfl,?_⟩
     have n0_:=Aside0.mk (Kd.R_below (by (with_reducible repeat (first|apply Kd.R_alloc|apply Kd.R_drewN|apply Kd.R_drew));exact HO288.out) hb)
     have n1_:=Aside0.mk (Kd.R_below (by (with_reducible repeat (first|apply Kd.R_alloc|apply Kd.R_drewN|apply Kd.R_drew));exact HO291.out) hb)
     have n2_:=Aside0.mk (Kd.R_below (by (with_reducible repeat (first|apply Kd.R_alloc|apply Kd.R_drewN|apply Kd.R_drew));exact HO295.out) hb)
     have n3_:=Aside0.mk (Kd.R_below (by (with_reducible repeat (first|apply Kd.R_alloc|apply Kd.R_drewN|apply Kd.R_drew));exact HO298.out) hb)
     have n4_:=Aside0.mk (Kd.R_below (by (with_reducible repeat (first|apply Kd.R_alloc|apply Kd.R_drewN|apply Kd.R_drew));exact HO303.out) hb)
     have n5_:=Aside0.mk (Kd.R_below (by (with_reducible repeat (first|apply Kd.R_alloc|apply Kd.R_drewN|apply Kd.R_drew));exact HO306.out) hb)
     have n6_:=Aside0.mk (blk_below (g:=gb284) (o:=.cells #[.slice A0_0 l0_0.length c0_0,.slice A0_1 l0_1.length c0_1] 36 (0,0)) (by (with_reducible repeat (first|refine blk_drewN ?_ _|refine blk_drew ?_|refine blk_alloc ?_ _));exact BK284.out) hb)
     have n7_:=Aside0.mk (blk_below (g:=gb299) (o:=.cells #[.slice Ao66 t293.length co66,.slice Ao69 t296.length co69] 41 (0,0)) (by (with_reducible repeat (first|refine blk_drewN ?_ _|refine blk_drew ?_|refine blk_alloc ?_ _));exact BK299.out) hb)
     have n8_:=Aside0.mk (below_step (by repeat (first|(with_reducible first|exact HB.out|apply below_alloc|apply pw_below_drewN|apply below_drew1|refine below_set ?_ GE284.out|refine below_set ?_ GE299.out)|exact HB.out)) hb)
     clear HO288
     clear HO291
     clear HO295
     clear HO298
     clear HO303
     clear HO306
     clear BK284
     clear BK299
     clear HB
     have HO288:=n0_
     have HO291:=n1_
     have HO295:=n2_
     have HO298:=n3_
     have HO303:=n4_
     have HO306:=n5_
     have BK284:=n6_
     have BK299:=n7_
     have HB:=n8_
     clear n0_ n1_ n2_ n3_ n4_ n5_ n6_ n7_ n8_
     (try clear hb)
     (try clear hb2)
     (try clear hk)
     (try clear hi)
     refine hK.out _ _ ⟨(blk_cell BK299.out 0).trans rfl,(blk_cell BK299.out 1).trans rfl,(blk_cell BK284.out 0).trans rfl,(blk_cell BK284.out 1).trans rfl⟩ (fun hHeld => ?_)
     clear hK K
     refine norm_ (a':=?_) ?_ ?_
     rotate_left
     ·show Act.put _ (some 32) _ = _
      simp only [Act.put,List.setIfInBounds_toArray,List.set_cons_zero,List.set_cons_succ,i64_w,i32_w]
      rfl
     refine pure_ (i:=4) (N:=some 33) (v:=?_) (a':=?_) #[true,true,true,true,true] rfl rfl (by kernel_rfl) (fun _ _ _ h => h) (Or.inl ⟨by rfl,?_⟩) ?_ ?_
     rotate_left
     ·intro w'
      go_simp
      with_reducible rfl
     rotate_left
     ·simp only [Act.put,List.setIfInBounds_toArray,List.set_cons_zero,List.set_cons_succ,i64_w,i32_w]
      rfl
     refine done_ (by kernel_rfl) ?_
     try go_wp2
     go_ret
     exact ⟨by first|rfl|(simp [errW_none,errW_some] <;> rfl)|(simp [*,errW_none,errW_some] <;> rfl),by repeat (first|(with_reducible first|exact HB.out|apply below_alloc|apply pw_below_drewN|apply below_drew1|refine below_set ?_ GE284.out|refine below_set ?_ GE299.out)|exact HB.out)⟩

-- NOT PRINTED: function 120 (strconv_small)

-- NOT PRINTED: function 126 (strconv_log10Pow2)

-- NOT PRINTED: function 127 (bits_Len64)

-- NOT PRINTED: function 128 (strconv_bool2_int)

-- NOT PRINTED: function 121 (strconv_numDigits)

-- NOT PRINTED: function 122 (strconv_formatBase10)

-- NOT PRINTED: function 129 (strconv_isPowerOfTwo)

-- NOT PRINTED: function 131 (bits_TrailingZeros32)

-- NOT PRINTED: function 132 (bits_TrailingZeros64)

-- NOT PRINTED: function 130 (bits_TrailingZeros)

-- NOT PRINTED: function 123 (strconv_formatBits)

-- NOT PRINTED: function 117 (strconv_FormatInt)

-- NOT PRINTED: function 106 (strconv_Itoa_106)

-- NOT PRINTED: function 83 (strconv_Itoa_83)

/-! ### impl_Decimal: function 45 -/
def impl_Decimal.f (k : Nat) (a0 : Int) : Option (ByteArray):=(fk_strconv_Itoa.f k a0).bind fun t308 => (some t308)
theorem impl_Decimal.mono : ∀ a0 k,LeO (impl_Decimal.f k a0) (impl_Decimal.f (k + 1) a0):=by
 intro a0 k
 unfold impl_Decimal.f
 repeat' first
   | (with_reducible exact fk_strconv_Itoa.mono _ _)
   | (with_reducible exact LeO.refl _)
   | (with_reducible exact LeO.none _)
   | (with_reducible refine LeO.ite ?_ ?_)
   | (with_reducible refine LeO.bind ?_ (fun _ => ?_))
   | exact fk_strconv_Itoa.mono _ _
   | exact LeO.none _
   | refine LeO.ite ?_ ?_
   | refine LeO.bind ?_ (fun _ => ?_)
set_option maxHeartbeats 8000000 in
set_option maxRecDepth 100000 in
theorem impl_Decimal.calls (k : Nat) (a0 : Int) (r : ByteArray) (w : World) (hTAB : Lib.TabBelow Tryd.prog w.heap.size w "internal/strconv.uint64pow10" .u64 Lib.pow10Tab) (h : impl_Decimal.f k a0 = some r) :
  Calls Tryd.prog 45 #[.int .i64 a0] w fun e w' => e = .returned (.string r) ∧ Below w.heap.size w w':=by
 have HB:=Aside0.mk (Below.refl w.heap.size w)
 have HTAB:=Aside0.mk hTAB
 clear hTAB
 have H : ((fk_strconv_Itoa.f k a0).bind fun t308 => (some t308)) = some r:=h
 clear h
 replace H:=Option.bind_eq_some_iff.mp H
 obtain ⟨t308,A20,H⟩:=H
 replace H : (some t308) = some r:=H
 have A2:=Aside0.mk A20
 clear A20
 obtain rfl:=Option.some.inj H
 go_enter Tryd.func45,Tryd.ntmps45
 go_wp2_with (first|((with_reducible refine gate_callee (f:=83) rfl ?_);refine goesL_ (some 4) rfl rfl Tryd.func83 (by kernel_rfl) rfl #[.int .i64 a0] rfl (by (try simp only [List.map_toArray,List.map_cons,List.map_nil]);first|done|rfl|(simp only [List.length_drop,List.length_take];rfl)) ?_;(with_reducible refine (fk_strconv_Itoa.calls k a0 t308 _ (tab_at HTAB.out (by repeat (first|(with_reducible first|exact HB.out|apply below_alloc|apply pw_below_drewN|apply below_drew1)|exact HB.out))) A2.out).mono ?_);rintro e w3 ⟨rfl,hb⟩;refine ⟨_,rfl,?_⟩;have n0_:=Aside0.mk (below_step (by repeat (first|(with_reducible first|exact HB.out|apply below_alloc|apply pw_below_drewN|apply below_drew1)|exact HB.out)) hb);clear HB;have HB:=n0_;clear n0_;(try clear hb)))
 go_ret
 exact ⟨by first|rfl|(simp [errW_none,errW_some] <;> rfl)|(simp [*,errW_none,errW_some] <;> rfl),by repeat (first|(with_reducible first|exact HB.out|apply below_alloc|apply pw_below_drewN|apply below_drew1)|exact HB.out)⟩

/-! ### impl_PredOf: function 13 -/
def impl_PredOf.f (k : Nat) (a0_0 : Int) (a0_1 : ByteArray) (a0_2 : Int) (l0_3 : List (S29)) : Option (ByteArray):=if a0_0 = 2 then (if a0_1.size + 1 ≤ 9223372036854775807 then ((impl_Decimal.f k (l0_3.length : Int)).bind fun t310 => (if (a0_1 ++ (⟨#[47]⟩ : ByteArray)).size + t310.size ≤ 9223372036854775807 then (some ((a0_1 ++ (⟨#[47]⟩ : ByteArray)) ++ t310)) else (none))) else (none)) else (if a0_0 = 4 then (if a0_1.size + 1 ≤ 9223372036854775807 then ((impl_Decimal.f k (l0_3.length : Int)).bind fun t311 => (if (a0_1 ++ (⟨#[47]⟩ : ByteArray)).size + t311.size ≤ 9223372036854775807 then (some ((a0_1 ++ (⟨#[47]⟩ : ByteArray)) ++ t311)) else (none))) else (none)) else (some (⟨#[]⟩ : ByteArray)))
theorem impl_PredOf.mono : ∀ a0 a1 a2 a3 k,LeO (impl_PredOf.f k a0 a1 a2 a3) (impl_PredOf.f (k + 1) a0 a1 a2 a3):=by
 intro a0 a1 a2 a3 k
 unfold impl_PredOf.f
 repeat' first
   | (with_reducible exact impl_Decimal.mono _ _)
   | (with_reducible exact LeO.refl _)
   | (with_reducible exact LeO.none _)
   | (with_reducible refine LeO.ite ?_ ?_)
   | (with_reducible refine LeO.bind ?_ (fun _ => ?_))
   | exact impl_Decimal.mono _ _
   | exact LeO.none _
   | refine LeO.ite ?_ ?_
   | refine LeO.bind ?_ (fun _ => ?_)
def impl_PredOf.T3 : Bool × List (List Nat × List Nat):=(true,[([],[]),([0],[0]),([1],[1]),([],[]),([3],[3]),([4],[4]),([5],[5]),([2,6],[2,6]),([7,6,0,1,2,3,4,5,6,7],[7])])
def impl_PredOf.B3 : List Nat:=[0,1,3,0,8,24,56,127,255]
theorem impl_PredOf.tab3 : rtab .any (opsOf Tryd.f13 3) = impl_PredOf.T3:=by kernel_rfl
theorem impl_PredOf.bits3 : waitsOk impl_PredOf.T3.2 impl_PredOf.B3 = true:=by kernel_rfl
set_option maxHeartbeats 8000000 in
set_option maxRecDepth 100000 in
theorem impl_PredOf.calls (k : Nat) (a0_0 : Int) (a0_1 : ByteArray) (a0_2 : Int) (A0_3 : Option Addr) (c0_3 : Nat) (l0_3 : List (S29)) (r : ByteArray) (w : World) (hTAB : Lib.TabBelow Tryd.prog w.heap.size w "internal/strconv.uint64pow10" .u64 Lib.pow10Tab) (hr0_3 : Kd.C k29 w A0_3 l0_3.length l0_3) (hc0_3 : l0_3.length ≤ c0_3) (h : impl_PredOf.f k a0_0 a0_1 a0_2 l0_3 = some r) :
  Calls Tryd.prog 13 #[.agg #[.int .i64 a0_0,.string a0_1,.int .i64 a0_2,.slice A0_3 l0_3.length c0_3]] w fun e w' => e = .returned (.string r) ∧ Below w.heap.size w w':=by
 have hu29:=Tryd.underlying29
 have HR0_3:=Aside0.mk hr0_3
 have HC0_3:=Aside0.mk hc0_3
 clear hr0_3 hc0_3
 have HB:=Aside0.mk (Below.refl w.heap.size w)
 have HTAB:=Aside0.mk hTAB
 clear hTAB
 have H : (if a0_0 = 2 then (if a0_1.size + 1 ≤ 9223372036854775807 then ((impl_Decimal.f k (l0_3.length : Int)).bind fun t310 => (if (a0_1 ++ (⟨#[47]⟩ : ByteArray)).size + t310.size ≤ 9223372036854775807 then (some ((a0_1 ++ (⟨#[47]⟩ : ByteArray)) ++ t310)) else (none))) else (none)) else (if a0_0 = 4 then (if a0_1.size + 1 ≤ 9223372036854775807 then ((impl_Decimal.f k (l0_3.length : Int)).bind fun t311 => (if (a0_1 ++ (⟨#[47]⟩ : ByteArray)).size + t311.size ≤ 9223372036854775807 then (some ((a0_1 ++ (⟨#[47]⟩ : ByteArray)) ++ t311)) else (none))) else (none)) else (some (⟨#[]⟩ : ByteArray)))) = some r:=h
 clear h
 by_cases c2 : a0_0 = 2
 ·rw [if_pos c2] at H
  have c2b0 : (a0_0 == 2) = true:=beq_iff_eq.mpr c2
  have c2b1 : (a0_0 != 2) = false:=bne_eq_false_iff_eq.mpr c2
  clear c2
  by_cases c3 : a0_1.size + 1 ≤ 9223372036854775807
  rotate_left
  ·rw [if_neg c3] at H
   exact absurd H (by simp)
  rw [if_pos c3] at H
  have c3b0:=eq_true c3
  have c3b1 : decide (a0_1.size + 1 ≤ 9223372036854775807) = true:=decide_eq_true c3
  try have c3b2 : (9223372036854775807 < a0_1.size + 1) = False:=eq_false (Nat.not_lt.2 c3)
  replace H:=Option.bind_eq_some_iff.mp H
  obtain ⟨t310,A40,H⟩:=H
  replace H : (if (a0_1 ++ (⟨#[47]⟩ : ByteArray)).size + t310.size ≤ 9223372036854775807 then (some ((a0_1 ++ (⟨#[47]⟩ : ByteArray)) ++ t310)) else (none)) = some r:=H
  have A4:=Aside0.mk A40
  clear A40
  by_cases c5 : (a0_1 ++ (⟨#[47]⟩ : ByteArray)).size + t310.size ≤ 9223372036854775807
  rotate_left
  ·rw [if_neg c5] at H
   exact absurd H (by simp)
  rw [if_pos c5] at H
  have c5b0:=eq_true c5
  have c5b1 : decide ((a0_1 ++ (⟨#[47]⟩ : ByteArray)).size + t310.size ≤ 9223372036854775807) = true:=decide_eq_true c5
  try have c5b2 : (9223372036854775807 < (a0_1 ++ (⟨#[47]⟩ : ByteArray)).size + t310.size) = False:=eq_false (Nat.not_lt.2 c5)
  try have c5b3 : (9223372036854775807 < a0_1.size + 1 + t310.size) = False:=by rw [ByteArray.size_append] at c5b2;exact c5b2
  obtain rfl:=Option.some.inj H
  go_enter Tryd.func13,Tryd.ntmps13
  try go_wp2_with (first|((with_reducible refine gate_dst (N:=1) rfl ?_);refine box_event ?hg (N:=1) ?hd (cs:=#[.int .i64 a0_0,.string a0_1,.int .i64 a0_2,.slice A0_3 l0_3.length c0_3]) (t:=29) ?hr ?_;(case hd => rfl);(case hg => rfl);(case hr => first|(go_simp;done)|(go_simp;rfl));intro gb309 hg w6 hbox hb;have n0_:=Aside0.mk (below_step (by repeat (first|(with_reducible first|exact HB.out|apply below_alloc|apply pw_below_drewN|apply below_drew1)|exact HB.out)) hb);have n1_:=Aside0.mk (hbox);have n2_:=Aside0.mk ((by rw [hg];exact (below_size (by repeat (first|(with_reducible first|exact HB.out|apply below_alloc|apply pw_below_drewN|apply below_drew1)|exact HB.out))) : w.heap.size ≤ gb309));have n3_:=Aside0.mk ((by rw [hg];exact (below_size (by repeat (first|(with_reducible first|exact HB.out|apply below_alloc|apply pw_below_drewN|apply below_drew1)|exact HB.out))) : w.heap.size ≤ gb309));clear HB;have HB:=n0_;have BK309:=n1_;have GW309:=n2_;have GE309:=n3_;clear n0_ n1_ n2_ n3_;clear hb hbox hg;have hcz7_0 : w6.cell? ⟨gb309,0,none⟩ = some (.int .i64 a0_0):=(blk_cell BK309.out 0).trans rfl;have hcz7_1 : w6.cell? ⟨gb309,1,none⟩ = some (.string a0_1):=(blk_cell BK309.out 1).trans rfl;have hcz7_2 : w6.cell? ⟨gb309,2,none⟩ = some (.int .i64 a0_2):=(blk_cell BK309.out 2).trans rfl;have hcz7_3 : w6.cell? ⟨gb309,3,none⟩ = some (.slice A0_3 l0_3.length c0_3):=(blk_cell BK309.out 3).trans rfl;have hfz7_0:=blk_frozen BK309.out 0;have hfz7_1:=blk_frozen BK309.out 1;have hfz7_2:=blk_frozen BK309.out 2;have hfz7_3:=blk_frozen BK309.out 3))
  have n0_:=Aside0.mk (blk_drew BK309.out)
  have n1_:=Aside0.mk (below_drew1 HB.out)
  clear BK309
  clear HB
  have BK309:=n0_
  have HB:=n1_
  clear n0_ n1_
  refine start_ (n:=9) (S:=fun w' => w'.cell? ⟨gb309,0,none⟩ = some (.int .i64 a0_0) ∧ w'.cell? ⟨gb309,1,none⟩ = some (.string a0_1) ∧ w'.cell? ⟨gb309,2,none⟩ = some (.int .i64 a0_2) ∧ w'.cell? ⟨gb309,3,none⟩ = some (.slice A0_3 l0_3.length c0_3)) (ds:=[]) #[false,false,false,false,false,false,false,false,false] (by kernel_rfl) rfl rfl ⟨(blk_cell BK309.out 0).trans rfl,(blk_cell BK309.out 1).trans rfl,(blk_cell BK309.out 2).trans rfl,(blk_cell BK309.out 3).trans rfl⟩ (fun hHeld => ?_);refine with_tabW impl_PredOf.tab3 impl_PredOf.bits3 (fun HT_ HW_ => ?_)
  generalize w6.drew = w8 at BK309 HB hHeld ⊢
  refine pure_ (i:=0) (N:=some 11) (v:=?_) (a':=?_) #[true,false,false,false,false,false,false,false,false] rfl rfl (any_of HT_.out (by kernel_rfl)) (fun _ _ _ h => h) (Or.inl ⟨by rfl,?_⟩) ?_ ?_
  rotate_left
  ·intro w'
   go_simp
   with_reducible rfl
  rotate_left
  ·simp only [Act.put,List.setIfInBounds_toArray,List.set_cons_zero,List.set_cons_succ,i64_w,i32_w]
   rfl
  refine pure_ (i:=3) (N:=some 14) (v:=?_) (a':=?_) #[true,false,false,true,false,false,false,false,false] rfl rfl (any_of HT_.out (by kernel_rfl)) (fun _ _ _ h => h) (Or.inl ⟨by rfl,?_⟩) ?_ ?_
  rotate_left
  ·intro w'
   go_simp
   with_reducible rfl
  rotate_left
  ·simp only [Act.put,List.setIfInBounds_toArray,List.set_cons_zero,List.set_cons_succ,i64_w,i32_w]
   rfl
  refine take_ (i:=1) (N:=some 12) (v:=?_) (a':=?_) #[true,true,false,true,false,false,false,false,false] rfl rfl (take_ofW HT_.out HW_.out (by kernel_rfl)) (fun _ _ _ h => h) (Or.inl ⟨by rfl,?_⟩) hHeld ?_ ?_
  rotate_left
  ·rintro w' ⟨s0,s1,s2,s3⟩
   go_simp
   with_reducible rfl
  rotate_left
  ·simp only [Act.put,List.setIfInBounds_toArray,List.set_cons_zero,List.set_cons_succ,i64_w,i32_w]
   rfl
  refine pure_ (i:=2) (N:=some 13) (v:=?_) (a':=?_) #[true,true,true,true,false,false,false,false,false] rfl rfl (any_of HT_.out (by kernel_rfl)) (fun _ _ _ h => h) (Or.inl ⟨by rfl,?_⟩) ?_ ?_
  rotate_left
  ·intro w'
   go_simp
   with_reducible rfl
  rotate_left
  ·simp only [Act.put,List.setIfInBounds_toArray,List.set_cons_zero,List.set_cons_succ,i64_w,i32_w]
   rfl
  refine take_ (i:=4) (N:=some 15) (v:=?_) (a':=?_) #[true,true,true,true,true,false,false,false,false] rfl rfl (take_ofW HT_.out HW_.out (by kernel_rfl)) (fun _ _ _ h => h) (Or.inl ⟨by rfl,?_⟩) hHeld ?_ ?_
  rotate_left
  ·rintro w' ⟨s0,s1,s2,s3⟩
   go_simp
   with_reducible rfl
  rotate_left
  ·simp only [Act.put,List.setIfInBounds_toArray,List.set_cons_zero,List.set_cons_succ,i64_w,i32_w]
   rfl
  refine pure_ (i:=5) (N:=some 16) (v:=?_) (a':=?_) #[true,true,true,true,true,true,false,false,false] rfl rfl (any_of HT_.out (by kernel_rfl)) (fun _ _ _ h => h) (Or.inl ⟨by rfl,?_⟩) ?_ ?_
  rotate_left
  ·intro w'
   go_simp
   with_reducible rfl
  rotate_left
  ·simp only [Act.put,List.setIfInBounds_toArray,List.set_cons_zero,List.set_cons_succ,i64_w,i32_w]
   rfl
  refine one_ (i:=6) (N:=some 17) #[true,true,true,true,true,true,true,false,false] rfl rfl (one_of HT_.out (by kernel_rfl)) (by decide) (fun K hK => ?_)
  refine goes_ Tryd.func45 (by kernel_rfl) rfl #[.int .i64 (l0_3.length : Int)] (by rfl) rfl rfl (by (try simp only [List.map_toArray,List.map_cons,List.map_nil]);first|done|rfl|(simp only [List.length_drop,List.length_take];rfl)) ?_
  with_reducible refine (impl_Decimal.calls k (l0_3.length : Int) t310 _ (tab_at HTAB.out (by repeat (first|(with_reducible first|exact HB.out|apply below_alloc|apply pw_below_drewN|apply below_drew1|refine below_set ?_ GE309.out)|exact HB.out))) A4.out).mono ?_
  rintro e w9 ⟨rfl,hb⟩
  refine ⟨_,rfl,?_⟩
  have n0_:=Aside0.mk (blk_below (g:=gb309) (o:=.cells #[.int .i64 a0_0,.string a0_1,.int .i64 a0_2,.slice A0_3 l0_3.length c0_3] 29 (0,0)) (by (with_reducible repeat (first|refine blk_drewN ?_ _|refine blk_drew ?_|refine blk_alloc ?_ _));exact BK309.out) hb)
  have n1_:=Aside0.mk (below_step (by repeat (first|(with_reducible first|exact HB.out|apply below_alloc|apply pw_below_drewN|apply below_drew1|refine below_set ?_ GE309.out)|exact HB.out)) hb)
  clear BK309
  clear HB
  have BK309:=n0_
  have HB:=n1_
  clear n0_ n1_
  (try clear hb)
  refine hK.out _ _ ⟨(blk_cell BK309.out 0).trans rfl,(blk_cell BK309.out 1).trans rfl,(blk_cell BK309.out 2).trans rfl,(blk_cell BK309.out 3).trans rfl⟩ (fun hHeld => ?_)
  clear hK K
  refine norm_ (a':=?_) ?_ ?_
  rotate_left
  ·show Act.put _ (some 17) _ = _
   simp only [Act.put,List.setIfInBounds_toArray,List.set_cons_zero,List.set_cons_succ,i64_w,i32_w]
   rfl
  refine pure_ (i:=7) (N:=some 18) (v:=?_) (a':=?_) #[true,true,true,true,true,true,true,true,false] rfl rfl (any_of HT_.out (by kernel_rfl)) (fun _ _ _ h => h) (Or.inl ⟨by rfl,?_⟩) ?_ ?_
  rotate_left
  ·intro w'
   go_simp
   with_reducible rfl
  rotate_left
  ·simp only [Act.put,List.setIfInBounds_toArray,List.set_cons_zero,List.set_cons_succ,i64_w,i32_w]
   rfl
  refine pure_ (i:=8) (N:=some 2) (v:=?_) (a':=?_) #[true,true,true,true,true,true,true,true,true] rfl rfl (any_of HT_.out (by kernel_rfl)) (fun _ _ _ h => h) (Or.inl ⟨by rfl,?_⟩) ?_ ?_
  rotate_left
  ·intro w'
   go_simp
   with_reducible rfl
  rotate_left
  ·simp only [Act.put,List.setIfInBounds_toArray,List.set_cons_zero,List.set_cons_succ,i64_w,i32_w]
   rfl
  refine done_ (done_of HT_.out (by kernel_rfl)) ?_
  try go_wp2
  go_ret
  exact ⟨by first|rfl|(simp [errW_none,errW_some] <;> rfl)|(simp [*,errW_none,errW_some] <;> rfl),by repeat (first|(with_reducible first|exact HB.out|apply below_alloc|apply pw_below_drewN|apply below_drew1|refine below_set ?_ GE309.out)|exact HB.out)⟩
 ·rw [if_neg c2] at H
  have c2b0 : (a0_0 == 2) = false:=beq_eq_false_iff_ne.mpr c2
  have c2b1 : (a0_0 != 2) = true:=bne_iff_ne.mpr c2
  by_cases c10 : a0_0 = 4
  ·rw [if_pos c10] at H
   have c10b0 : (a0_0 == 4) = true:=beq_iff_eq.mpr c10
   have c10b1 : (a0_0 != 4) = false:=bne_eq_false_iff_eq.mpr c10
   clear c10
   by_cases c11 : a0_1.size + 1 ≤ 9223372036854775807
   rotate_left
   ·rw [if_neg c11] at H
    exact absurd H (by simp)
   rw [if_pos c11] at H
   have c11b0:=eq_true c11
   have c11b1 : decide (a0_1.size + 1 ≤ 9223372036854775807) = true:=decide_eq_true c11
   try have c11b2 : (9223372036854775807 < a0_1.size + 1) = False:=eq_false (Nat.not_lt.2 c11)
   replace H:=Option.bind_eq_some_iff.mp H
   obtain ⟨t311,A120,H⟩:=H
   replace H : (if (a0_1 ++ (⟨#[47]⟩ : ByteArray)).size + t311.size ≤ 9223372036854775807 then (some ((a0_1 ++ (⟨#[47]⟩ : ByteArray)) ++ t311)) else (none)) = some r:=H
   have A12:=Aside0.mk A120
   clear A120
   by_cases c13 : (a0_1 ++ (⟨#[47]⟩ : ByteArray)).size + t311.size ≤ 9223372036854775807
   rotate_left
   ·rw [if_neg c13] at H
    exact absurd H (by simp)
   rw [if_pos c13] at H
   have c13b0:=eq_true c13
   have c13b1 : decide ((a0_1 ++ (⟨#[47]⟩ : ByteArray)).size + t311.size ≤ 9223372036854775807) = true:=decide_eq_true c13
   try have c13b2 : (9223372036854775807 < (a0_1 ++ (⟨#[47]⟩ : ByteArray)).size + t311.size) = False:=eq_false (Nat.not_lt.2 c13)
   try have c13b3 : (9223372036854775807 < a0_1.size + 1 + t311.size) = False:=by rw [ByteArray.size_append] at c13b2;exact c13b2
   obtain rfl:=Option.some.inj H
   go_enter Tryd.func13,Tryd.ntmps13
   try go_wp2_with (first|((with_reducible refine gate_dst (N:=1) rfl ?_);refine box_event ?hg (N:=1) ?hd (cs:=#[.int .i64 a0_0,.string a0_1,.int .i64 a0_2,.slice A0_3 l0_3.length c0_3]) (t:=29) ?hr ?_;(case hd => rfl);(case hg => rfl);(case hr => first|(go_simp;done)|(go_simp;rfl));intro gb309 hg w14 hbox hb;have n0_:=Aside0.mk (below_step (by repeat (first|(with_reducible first|exact HB.out|apply below_alloc|apply pw_below_drewN|apply below_drew1)|exact HB.out)) hb);have n1_:=Aside0.mk (hbox);have n2_:=Aside0.mk ((by rw [hg];exact (below_size (by repeat (first|(with_reducible first|exact HB.out|apply below_alloc|apply pw_below_drewN|apply below_drew1)|exact HB.out))) : w.heap.size ≤ gb309));have n3_:=Aside0.mk ((by rw [hg];exact (below_size (by repeat (first|(with_reducible first|exact HB.out|apply below_alloc|apply pw_below_drewN|apply below_drew1)|exact HB.out))) : w.heap.size ≤ gb309));clear HB;have HB:=n0_;have BK309:=n1_;have GW309:=n2_;have GE309:=n3_;clear n0_ n1_ n2_ n3_;clear hb hbox hg;have hcz15_0 : w14.cell? ⟨gb309,0,none⟩ = some (.int .i64 a0_0):=(blk_cell BK309.out 0).trans rfl;have hcz15_1 : w14.cell? ⟨gb309,1,none⟩ = some (.string a0_1):=(blk_cell BK309.out 1).trans rfl;have hcz15_2 : w14.cell? ⟨gb309,2,none⟩ = some (.int .i64 a0_2):=(blk_cell BK309.out 2).trans rfl;have hcz15_3 : w14.cell? ⟨gb309,3,none⟩ = some (.slice A0_3 l0_3.length c0_3):=(blk_cell BK309.out 3).trans rfl;have hfz15_0:=blk_frozen BK309.out 0;have hfz15_1:=blk_frozen BK309.out 1;have hfz15_2:=blk_frozen BK309.out 2;have hfz15_3:=blk_frozen BK309.out 3))
   have n0_:=Aside0.mk (blk_drew BK309.out)
   have n1_:=Aside0.mk (below_drew1 HB.out)
   clear BK309
   clear HB
   have BK309:=n0_
   have HB:=n1_
   clear n0_ n1_
   refine start_ (n:=9) (S:=fun w' => w'.cell? ⟨gb309,0,none⟩ = some (.int .i64 a0_0) ∧ w'.cell? ⟨gb309,1,none⟩ = some (.string a0_1) ∧ w'.cell? ⟨gb309,2,none⟩ = some (.int .i64 a0_2) ∧ w'.cell? ⟨gb309,3,none⟩ = some (.slice A0_3 l0_3.length c0_3)) (ds:=[]) #[false,false,false,false,false,false,false,false,false] (by kernel_rfl) rfl rfl ⟨(blk_cell BK309.out 0).trans rfl,(blk_cell BK309.out 1).trans rfl,(blk_cell BK309.out 2).trans rfl,(blk_cell BK309.out 3).trans rfl⟩ (fun hHeld => ?_);refine with_tabW impl_PredOf.tab3 impl_PredOf.bits3 (fun HT_ HW_ => ?_)
   generalize w14.drew = w16 at BK309 HB hHeld ⊢
   refine pure_ (i:=0) (N:=some 11) (v:=?_) (a':=?_) #[true,false,false,false,false,false,false,false,false] rfl rfl (any_of HT_.out (by kernel_rfl)) (fun _ _ _ h => h) (Or.inl ⟨by rfl,?_⟩) ?_ ?_
   rotate_left
   ·intro w'
    go_simp
    with_reducible rfl
   rotate_left
   ·simp only [Act.put,List.setIfInBounds_toArray,List.set_cons_zero,List.set_cons_succ,i64_w,i32_w]
    rfl
   refine pure_ (i:=3) (N:=some 14) (v:=?_) (a':=?_) #[true,false,false,true,false,false,false,false,false] rfl rfl (any_of HT_.out (by kernel_rfl)) (fun _ _ _ h => h) (Or.inl ⟨by rfl,?_⟩) ?_ ?_
   rotate_left
   ·intro w'
    go_simp
    with_reducible rfl
   rotate_left
   ·simp only [Act.put,List.setIfInBounds_toArray,List.set_cons_zero,List.set_cons_succ,i64_w,i32_w]
    rfl
   refine take_ (i:=1) (N:=some 12) (v:=?_) (a':=?_) #[true,true,false,true,false,false,false,false,false] rfl rfl (take_ofW HT_.out HW_.out (by kernel_rfl)) (fun _ _ _ h => h) (Or.inl ⟨by rfl,?_⟩) hHeld ?_ ?_
   rotate_left
   ·rintro w' ⟨s0,s1,s2,s3⟩
    go_simp
    with_reducible rfl
   rotate_left
   ·simp only [Act.put,List.setIfInBounds_toArray,List.set_cons_zero,List.set_cons_succ,i64_w,i32_w]
    rfl
   refine pure_ (i:=2) (N:=some 13) (v:=?_) (a':=?_) #[true,true,true,true,false,false,false,false,false] rfl rfl (any_of HT_.out (by kernel_rfl)) (fun _ _ _ h => h) (Or.inl ⟨by rfl,?_⟩) ?_ ?_
   rotate_left
   ·intro w'
    go_simp
    with_reducible rfl
   rotate_left
   ·simp only [Act.put,List.setIfInBounds_toArray,List.set_cons_zero,List.set_cons_succ,i64_w,i32_w]
    rfl
   refine take_ (i:=4) (N:=some 15) (v:=?_) (a':=?_) #[true,true,true,true,true,false,false,false,false] rfl rfl (take_ofW HT_.out HW_.out (by kernel_rfl)) (fun _ _ _ h => h) (Or.inl ⟨by rfl,?_⟩) hHeld ?_ ?_
   rotate_left
   ·rintro w' ⟨s0,s1,s2,s3⟩
    go_simp
    with_reducible rfl
   rotate_left
   ·simp only [Act.put,List.setIfInBounds_toArray,List.set_cons_zero,List.set_cons_succ,i64_w,i32_w]
    rfl
   refine pure_ (i:=5) (N:=some 16) (v:=?_) (a':=?_) #[true,true,true,true,true,true,false,false,false] rfl rfl (any_of HT_.out (by kernel_rfl)) (fun _ _ _ h => h) (Or.inl ⟨by rfl,?_⟩) ?_ ?_
   rotate_left
   ·intro w'
    go_simp
    with_reducible rfl
   rotate_left
   ·simp only [Act.put,List.setIfInBounds_toArray,List.set_cons_zero,List.set_cons_succ,i64_w,i32_w]
    rfl
   refine one_ (i:=6) (N:=some 17) #[true,true,true,true,true,true,true,false,false] rfl rfl (one_of HT_.out (by kernel_rfl)) (by decide) (fun K hK => ?_)
   refine goes_ Tryd.func45 (by kernel_rfl) rfl #[.int .i64 (l0_3.length : Int)] (by rfl) rfl rfl (by (try simp only [List.map_toArray,List.map_cons,List.map_nil]);first|done|rfl|(simp only [List.length_drop,List.length_take];rfl)) ?_
   with_reducible refine (impl_Decimal.calls k (l0_3.length : Int) t311 _ (tab_at HTAB.out (by repeat (first|(with_reducible first|exact HB.out|apply below_alloc|apply pw_below_drewN|apply below_drew1|refine below_set ?_ GE309.out)|exact HB.out))) A12.out).mono ?_
   rintro e w17 ⟨rfl,hb⟩
   refine ⟨_,rfl,?_⟩
   have n0_:=Aside0.mk (blk_below (g:=gb309) (o:=.cells #[.int .i64 a0_0,.string a0_1,.int .i64 a0_2,.slice A0_3 l0_3.length c0_3] 29 (0,0)) (by (with_reducible repeat (first|refine blk_drewN ?_ _|refine blk_drew ?_|refine blk_alloc ?_ _));exact BK309.out) hb)
   have n1_:=Aside0.mk (below_step (by repeat (first|(with_reducible first|exact HB.out|apply below_alloc|apply pw_below_drewN|apply below_drew1|refine below_set ?_ GE309.out)|exact HB.out)) hb)
   clear BK309
   clear HB
   have BK309:=n0_
   have HB:=n1_
   clear n0_ n1_
   (try clear hb)
   refine hK.out _ _ ⟨(blk_cell BK309.out 0).trans rfl,(blk_cell BK309.out 1).trans rfl,(blk_cell BK309.out 2).trans rfl,(blk_cell BK309.out 3).trans rfl⟩ (fun hHeld => ?_)
   clear hK K
   refine norm_ (a':=?_) ?_ ?_
   rotate_left
   ·show Act.put _ (some 17) _ = _
    simp only [Act.put,List.setIfInBounds_toArray,List.set_cons_zero,List.set_cons_succ,i64_w,i32_w]
    rfl
   refine pure_ (i:=7) (N:=some 18) (v:=?_) (a':=?_) #[true,true,true,true,true,true,true,true,false] rfl rfl (any_of HT_.out (by kernel_rfl)) (fun _ _ _ h => h) (Or.inl ⟨by rfl,?_⟩) ?_ ?_
   rotate_left
   ·intro w'
    go_simp
    with_reducible rfl
   rotate_left
   ·simp only [Act.put,List.setIfInBounds_toArray,List.set_cons_zero,List.set_cons_succ,i64_w,i32_w]
    rfl
   refine pure_ (i:=8) (N:=some 2) (v:=?_) (a':=?_) #[true,true,true,true,true,true,true,true,true] rfl rfl (any_of HT_.out (by kernel_rfl)) (fun _ _ _ h => h) (Or.inl ⟨by rfl,?_⟩) ?_ ?_
   rotate_left
   ·intro w'
    go_simp
    with_reducible rfl
   rotate_left
   ·simp only [Act.put,List.setIfInBounds_toArray,List.set_cons_zero,List.set_cons_succ,i64_w,i32_w]
    rfl
   refine done_ (done_of HT_.out (by kernel_rfl)) ?_
   try go_wp2
   go_ret
   exact ⟨by first|rfl|(simp [errW_none,errW_some] <;> rfl)|(simp [*,errW_none,errW_some] <;> rfl),by repeat (first|(with_reducible first|exact HB.out|apply below_alloc|apply pw_below_drewN|apply below_drew1|refine below_set ?_ GE309.out)|exact HB.out)⟩
  ·rw [if_neg c10] at H
   have c10b0 : (a0_0 == 4) = false:=beq_eq_false_iff_ne.mpr c10
   have c10b1 : (a0_0 != 4) = true:=bne_iff_ne.mpr c10
   obtain rfl:=Option.some.inj H
   go_enter Tryd.func13,Tryd.ntmps13
   go_wp2_with (first|((with_reducible refine gate_dst (N:=1) rfl ?_);refine box_event ?hg (N:=1) ?hd (cs:=#[.int .i64 a0_0,.string a0_1,.int .i64 a0_2,.slice A0_3 l0_3.length c0_3]) (t:=29) ?hr ?_;(case hd => rfl);(case hg => rfl);(case hr => first|(go_simp;done)|(go_simp;rfl));intro gb309 hg w18 hbox hb;have n0_:=Aside0.mk (below_step (by repeat (first|(with_reducible first|exact HB.out|apply below_alloc|apply pw_below_drewN|apply below_drew1)|exact HB.out)) hb);have n1_:=Aside0.mk (hbox);have n2_:=Aside0.mk ((by rw [hg];exact (below_size (by repeat (first|(with_reducible first|exact HB.out|apply below_alloc|apply pw_below_drewN|apply below_drew1)|exact HB.out))) : w.heap.size ≤ gb309));have n3_:=Aside0.mk ((by rw [hg];exact (below_size (by repeat (first|(with_reducible first|exact HB.out|apply below_alloc|apply pw_below_drewN|apply below_drew1)|exact HB.out))) : w.heap.size ≤ gb309));clear HB;have HB:=n0_;have BK309:=n1_;have GW309:=n2_;have GE309:=n3_;clear n0_ n1_ n2_ n3_;clear hb hbox hg;have hcz19_0 : w18.cell? ⟨gb309,0,none⟩ = some (.int .i64 a0_0):=(blk_cell BK309.out 0).trans rfl;have hcz19_1 : w18.cell? ⟨gb309,1,none⟩ = some (.string a0_1):=(blk_cell BK309.out 1).trans rfl;have hcz19_2 : w18.cell? ⟨gb309,2,none⟩ = some (.int .i64 a0_2):=(blk_cell BK309.out 2).trans rfl;have hcz19_3 : w18.cell? ⟨gb309,3,none⟩ = some (.slice A0_3 l0_3.length c0_3):=(blk_cell BK309.out 3).trans rfl;have hfz19_0:=blk_frozen BK309.out 0;have hfz19_1:=blk_frozen BK309.out 1;have hfz19_2:=blk_frozen BK309.out 2;have hfz19_3:=blk_frozen BK309.out 3))
   go_ret
   exact ⟨by first|rfl|(simp [errW_none,errW_some] <;> rfl)|(simp [*,errW_none,errW_some] <;> rfl),by repeat (first|(with_reducible first|exact HB.out|apply below_alloc|apply pw_below_drewN|apply below_drew1|refine below_set ?_ GE309.out)|exact HB.out)⟩

end Go.Proofs.YtojedbogbodkiaaDoor.KKn
