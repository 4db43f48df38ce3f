/- Contracts of functions of the program and of the reference, each a Lean function and the proof that Go comes to its answer. Written by wip/pp/pp.py out of the kit's print, for this claim; nothing of it is trusted: Lean checks it. -/
import Derived.Test.YtojedbogbodkiaaDoorKDbx0
import Derived.Test.YtojedbogbodkiaaDoorKDbx2
namespace Go.Proofs.YtojedbogbodkiaaDoor.KDb
open Go.RowKit Go.Proofs.YtojedbogbodkiaaDoorW.PrintWords Go.Proofs.YtojedbogbodkiaaDoorW.PrintLast Go.Proofs.YtojedbogbodkiaaDoorW.PrintMore
set_option linter.unusedVariables false
set_option linter.unusedSimpArgs false

set_option linter.unusedSectionVars false
variable [fk_laws_szTerm] [fk_laws_toTerm] [fk_laws_eqTerm] [fk_strconv_Itoa]
/-! ### laws_eqClause: function 24 -/
def laws_eqClause.f (k : Nat) (a0_0 : Int) (a0_1 : ByteArray) (a0_2 : Int) (l0_3 : List (S29)) (a0_4 : Int) (a0_5 : ByteArray) (a0_6 : Int) (l0_7 : List (S29)) (a0_8 : ByteArray) (a1_0 : Int) (a1_1 : ByteArray) (a1_2 : Int) (l1_3 : List (S29)) (a1_4 : Int) (a1_5 : ByteArray) (a1_6 : Int) (l1_7 : List (S29)) (a1_8 : ByteArray) : Option (Bool):=(laws_eqTerm.f k a0_0 a0_1 a0_2 l0_3 a1_0 a1_1 a1_2 l1_3).bind fun t186 => (if t186 = true then ((laws_eqTerm.f k a0_4 a0_5 a0_6 l0_7 a1_4 a1_5 a1_6 l1_7).bind fun t187 => (if t187 = true then (if a0_8.toList = a1_8.toList then (some true) else (some false)) else (some false))) else (some false))
theorem laws_eqClause.mono : ∀ a0 a1 a2 a3 a4 a5 a6 a7 a8 a9 a10 a11 a12 a13 a14 a15 a16 a17 k,LeO (laws_eqClause.f k a0 a1 a2 a3 a4 a5 a6 a7 a8 a9 a10 a11 a12 a13 a14 a15 a16 a17) (laws_eqClause.f (k + 1) a0 a1 a2 a3 a4 a5 a6 a7 a8 a9 a10 a11 a12 a13 a14 a15 a16 a17):=by
 intro a0 a1 a2 a3 a4 a5 a6 a7 a8 a9 a10 a11 a12 a13 a14 a15 a16 a17 k
 unfold laws_eqClause.f
 repeat' first
   | (with_reducible exact laws_eqTerm.mono _ _ _ _ _ _ _ _ _)
   | (with_reducible exact LeO.refl _)
   | (with_reducible exact LeO.none _)
   | (with_reducible refine LeO.ite ?_ ?_)
   | (with_reducible refine LeO.bind ?_ (fun _ => ?_))
   | exact laws_eqTerm.mono _ _ _ _ _ _ _ _ _
   | exact LeO.none _
   | refine LeO.ite ?_ ?_
   | refine LeO.bind ?_ (fun _ => ?_)
set_option maxHeartbeats 8000000 in
set_option maxRecDepth 100000 in
theorem laws_eqClause.calls (k : Nat) (a0_0 : Int) (a0_1 : ByteArray) (a0_2 : Int) (A0_3 : Option Addr) (c0_3 : Nat) (l0_3 : List (S29)) (a0_4 : Int) (a0_5 : ByteArray) (a0_6 : Int) (A0_7 : Option Addr) (c0_7 : Nat) (l0_7 : List (S29)) (a0_8 : ByteArray) (a1_0 : Int) (a1_1 : ByteArray) (a1_2 : Int) (A1_3 : Option Addr) (c1_3 : Nat) (l1_3 : List (S29)) (a1_4 : Int) (a1_5 : ByteArray) (a1_6 : Int) (A1_7 : Option Addr) (c1_7 : Nat) (l1_7 : List (S29)) (a1_8 : ByteArray) (r : Bool) (w : World) (hr0_3 : Kd.C k29 w A0_3 l0_3.length l0_3) (hc0_3 : l0_3.length ≤ c0_3) (hr0_7 : Kd.C k29 w A0_7 l0_7.length l0_7) (hc0_7 : l0_7.length ≤ c0_7) (hr1_3 : Kd.C k29 w A1_3 l1_3.length l1_3) (hc1_3 : l1_3.length ≤ c1_3) (hr1_7 : Kd.C k29 w A1_7 l1_7.length l1_7) (hc1_7 : l1_7.length ≤ c1_7) (h : laws_eqClause.f k a0_0 a0_1 a0_2 l0_3 a0_4 a0_5 a0_6 l0_7 a0_8 a1_0 a1_1 a1_2 l1_3 a1_4 a1_5 a1_6 l1_7 a1_8 = some r) :
  Calls Tryd.prog 24 #[.agg #[.int .i64 a0_0,.string a0_1,.int .i64 a0_2,.slice A0_3 l0_3.length c0_3,.int .i64 a0_4,.string a0_5,.int .i64 a0_6,.slice A0_7 l0_7.length c0_7,.string a0_8],.agg #[.int .i64 a1_0,.string a1_1,.int .i64 a1_2,.slice A1_3 l1_3.length c1_3,.int .i64 a1_4,.string a1_5,.int .i64 a1_6,.slice A1_7 l1_7.length c1_7,.string a1_8]] w fun e w' => e = .returned (.bool r) ∧ Below w.heap.size w w':=by
 have hu48:=Tryd.underlying48
 have hu29:=Tryd.underlying29
 have HR0_3:=Aside0.mk hr0_3
 have HC0_3:=Aside0.mk hc0_3
 clear hr0_3 hc0_3
 have HR0_7:=Aside0.mk hr0_7
 have HC0_7:=Aside0.mk hc0_7
 clear hr0_7 hc0_7
 have HR1_3:=Aside0.mk hr1_3
 have HC1_3:=Aside0.mk hc1_3
 clear hr1_3 hc1_3
 have HR1_7:=Aside0.mk hr1_7
 have HC1_7:=Aside0.mk hc1_7
 clear hr1_7 hc1_7
 have HB:=Aside0.mk (Below.refl w.heap.size w)
 have H : ((laws_eqTerm.f k a0_0 a0_1 a0_2 l0_3 a1_0 a1_1 a1_2 l1_3).bind fun t186 => (if t186 = true then ((laws_eqTerm.f k a0_4 a0_5 a0_6 l0_7 a1_4 a1_5 a1_6 l1_7).bind fun t187 => (if t187 = true then (if a0_8.toList = a1_8.toList then (some true) else (some false)) else (some false))) else (some false))) = some r:=h
 clear h
 replace H:=Option.bind_eq_some_iff.mp H
 obtain ⟨t186,A30,H⟩:=H
 replace H : (if t186 = true then ((laws_eqTerm.f k a0_4 a0_5 a0_6 l0_7 a1_4 a1_5 a1_6 l1_7).bind fun t187 => (if t187 = true then (if a0_8.toList = a1_8.toList then (some true) else (some false)) else (some false))) else (some false)) = some r:=H
 have A3:=Aside0.mk A30
 clear A30
 by_cases c4 : t186 = true
 ·subst c4
  have H1 : ((laws_eqTerm.f k a0_4 a0_5 a0_6 l0_7 a1_4 a1_5 a1_6 l1_7).bind fun t187 => (if t187 = true then (if a0_8.toList = a1_8.toList then (some true) else (some false)) else (some false))) = some r:=by rw [if_pos rfl] at H;exact H
  clear H
  have H:=H1
  clear H1
  replace H:=Option.bind_eq_some_iff.mp H
  obtain ⟨t187,A50,H⟩:=H
  replace H : (if t187 = true then (if a0_8.toList = a1_8.toList then (some true) else (some false)) else (some false)) = some r:=H
  have A5:=Aside0.mk A50
  clear A50
  by_cases c6 : t187 = true
  ·subst c6
   have H1 : (if a0_8.toList = a1_8.toList then (some true) else (some false)) = some r:=by rw [if_pos rfl] at H;exact H
   clear H
   have H:=H1
   clear H1
   by_cases c7 : a0_8.toList = a1_8.toList
   ·rw [if_pos c7] at H
    have c7b0 : (a0_8.toList == a1_8.toList) = true:=beq_iff_eq.mpr c7
    have c7b1 : (a0_8.toList != a1_8.toList) = false:=bne_eq_false_iff_eq.mpr c7
    clear c7
    obtain rfl:=Option.some.inj H
    go_enter Tryd.func24,Tryd.ntmps24
    go_wp2_with (first|((with_reducible refine gate_dst (N:=2) rfl ?_);refine box_event ?hg (N:=2) ?hd (cs:=#[.int .i64 a0_0,.string a0_1,.int .i64 a0_2,.slice A0_3 l0_3.length c0_3,.int .i64 a0_4,.string a0_5,.int .i64 a0_6,.slice A0_7 l0_7.length c0_7,.string a0_8]) (t:=48) ?hr ?_;(case hd => rfl);(case hg => rfl);(case hr => first|(go_simp;done)|(go_simp;rfl));intro gb184 hg w8 hbox hb;have n0_:=Aside0.mk (below_step (by repeat (first|(with_reducible first|exact HB.out|apply below_alloc|apply pw_below_drewN|apply below_drew1)|exact HB.out)) hb);have n1_:=Aside0.mk (hbox);have n2_:=Aside0.mk ((by rw [hg];exact (below_size (by repeat (first|(with_reducible first|exact HB.out|apply below_alloc|apply pw_below_drewN|apply below_drew1)|exact HB.out))) : w.heap.size ≤ gb184));have n3_:=Aside0.mk ((by rw [hg];exact (below_size (by repeat (first|(with_reducible first|exact HB.out|apply below_alloc|apply pw_below_drewN|apply below_drew1)|exact HB.out))) : w.heap.size ≤ gb184));clear HB;have HB:=n0_;have BK184:=n1_;have GW184:=n2_;have GE184:=n3_;clear n0_ n1_ n2_ n3_;clear hb hbox hg)|((with_reducible refine gate_dst (N:=3) rfl ?_);refine box_event ?hg (N:=3) ?hd (cs:=#[.int .i64 a1_0,.string a1_1,.int .i64 a1_2,.slice A1_3 l1_3.length c1_3,.int .i64 a1_4,.string a1_5,.int .i64 a1_6,.slice A1_7 l1_7.length c1_7,.string a1_8]) (t:=48) ?hr ?_;(case hd => rfl);(case hg => rfl);(case hr => first|(go_simp;done)|(go_simp;rfl));intro gb185 hg w9 hbox hb;have n0_:=Aside0.mk (blk_below (g:=gb184) (o:=.cells #[.int .i64 a0_0,.string a0_1,.int .i64 a0_2,.slice A0_3 l0_3.length c0_3,.int .i64 a0_4,.string a0_5,.int .i64 a0_6,.slice A0_7 l0_7.length c0_7,.string a0_8] 48 (0,0)) (by (with_reducible repeat (first|refine blk_drewN ?_ _|refine blk_drew ?_|refine blk_alloc ?_ _));exact BK184.out) hb);have n1_:=Aside0.mk (below_step (by repeat (first|(with_reducible first|exact HB.out|apply below_alloc|apply pw_below_drewN|apply below_drew1|refine below_set ?_ GE184.out)|exact HB.out)) hb);have n2_:=Aside0.mk (hbox);have n3_:=Aside0.mk ((by rw [hg];exact (below_size (by repeat (first|(with_reducible first|exact HB.out|apply below_alloc|apply pw_below_drewN|apply below_drew1|refine below_set ?_ GE184.out)|exact HB.out))) : w.heap.size ≤ gb185));have n4_:=Aside0.mk ((by rw [hg];exact (below_size (by repeat (first|(with_reducible first|exact HB.out|apply below_alloc|apply pw_below_drewN|apply below_drew1|refine below_set ?_ GE184.out)|exact HB.out))) : w.heap.size ≤ gb185));have n5_:=Aside0.mk ((by rw [hg];exact Nat.ne_of_lt (blk_lt (g:=gb184) (o:=.cells #[.int .i64 a0_0,.string a0_1,.int .i64 a0_2,.slice A0_3 l0_3.length c0_3,.int .i64 a0_4,.string a0_5,.int .i64 a0_6,.slice A0_7 l0_7.length c0_7,.string a0_8] 48 (0,0)) (by (with_reducible repeat (first|refine blk_drewN ?_ _|refine blk_drew ?_|refine blk_alloc ?_ _));exact BK184.out)) : gb184 ≠ gb185));have n6_:=Aside0.mk ((by rw [hg];exact Nat.ne_of_gt (blk_lt (g:=gb184) (o:=.cells #[.int .i64 a0_0,.string a0_1,.int .i64 a0_2,.slice A0_3 l0_3.length c0_3,.int .i64 a0_4,.string a0_5,.int .i64 a0_6,.slice A0_7 l0_7.length c0_7,.string a0_8] 48 (0,0)) (by (with_reducible repeat (first|refine blk_drewN ?_ _|refine blk_drew ?_|refine blk_alloc ?_ _));exact BK184.out)) : gb185 ≠ gb184));clear BK184;clear HB;have BK184:=n0_;have HB:=n1_;have BK185:=n2_;have GW185:=n3_;have GE185:=n4_;have NB184_185:=n5_;have NB185_184:=n6_;clear n0_ n1_ n2_ n3_ n4_ n5_ n6_;clear hb hbox hg;have hnb10:=NB184_185.out;have hnc10:=NB185_184.out;have hcz11_0 : w9.cell? ⟨gb184,0,none⟩ = some (.int .i64 a0_0):=(blk_cell BK184.out 0).trans rfl;have hcz11_1 : w9.cell? ⟨gb184,1,none⟩ = some (.string a0_1):=(blk_cell BK184.out 1).trans rfl;have hcz11_2 : w9.cell? ⟨gb184,2,none⟩ = some (.int .i64 a0_2):=(blk_cell BK184.out 2).trans rfl;have hcz11_3 : w9.cell? ⟨gb184,3,none⟩ = some (.slice A0_3 l0_3.length c0_3):=(blk_cell BK184.out 3).trans rfl;have hcz11_4 : w9.cell? ⟨gb184,4,none⟩ = some (.int .i64 a0_4):=(blk_cell BK184.out 4).trans rfl;have hcz11_5 : w9.cell? ⟨gb184,5,none⟩ = some (.string a0_5):=(blk_cell BK184.out 5).trans rfl;have hcz11_6 : w9.cell? ⟨gb184,6,none⟩ = some (.int .i64 a0_6):=(blk_cell BK184.out 6).trans rfl;have hcz11_7 : w9.cell? ⟨gb184,7,none⟩ = some (.slice A0_7 l0_7.length c0_7):=(blk_cell BK184.out 7).trans rfl;have hcz11_8 : w9.cell? ⟨gb184,8,none⟩ = some (.string a0_8):=(blk_cell BK184.out 8).trans rfl;have hfz11_0:=blk_frozen BK184.out 0;have hfz11_1:=blk_frozen BK184.out 1;have hfz11_2:=blk_frozen BK184.out 2;have hfz11_3:=blk_frozen BK184.out 3;have hfz11_4:=blk_frozen BK184.out 4;have hfz11_5:=blk_frozen BK184.out 5;have hfz11_6:=blk_frozen BK184.out 6;have hfz11_7:=blk_frozen BK184.out 7;have hfz11_8:=blk_frozen BK184.out 8;have hcz12_0 : w9.cell? ⟨gb185,0,none⟩ = some (.int .i64 a1_0):=(blk_cell BK185.out 0).trans rfl;have hcz12_1 : w9.cell? ⟨gb185,1,none⟩ = some (.string a1_1):=(blk_cell BK185.out 1).trans rfl;have hcz12_2 : w9.cell? ⟨gb185,2,none⟩ = some (.int .i64 a1_2):=(blk_cell BK185.out 2).trans rfl;have hcz12_3 : w9.cell? ⟨gb185,3,none⟩ = some (.slice A1_3 l1_3.length c1_3):=(blk_cell BK185.out 3).trans rfl;have hcz12_4 : w9.cell? ⟨gb185,4,none⟩ = some (.int .i64 a1_4):=(blk_cell BK185.out 4).trans rfl;have hcz12_5 : w9.cell? ⟨gb185,5,none⟩ = some (.string a1_5):=(blk_cell BK185.out 5).trans rfl;have hcz12_6 : w9.cell? ⟨gb185,6,none⟩ = some (.int .i64 a1_6):=(blk_cell BK185.out 6).trans rfl;have hcz12_7 : w9.cell? ⟨gb185,7,none⟩ = some (.slice A1_7 l1_7.length c1_7):=(blk_cell BK185.out 7).trans rfl;have hcz12_8 : w9.cell? ⟨gb185,8,none⟩ = some (.string a1_8):=(blk_cell BK185.out 8).trans rfl;have hfz12_0:=blk_frozen BK185.out 0;have hfz12_1:=blk_frozen BK185.out 1;have hfz12_2:=blk_frozen BK185.out 2;have hfz12_3:=blk_frozen BK185.out 3;have hfz12_4:=blk_frozen BK185.out 4;have hfz12_5:=blk_frozen BK185.out 5;have hfz12_6:=blk_frozen BK185.out 6;have hfz12_7:=blk_frozen BK185.out 7;have hfz12_8:=blk_frozen BK185.out 8)|((with_reducible refine gate_callee (f:=14) rfl ?_);refine goesL_ (some 9) rfl rfl Tryd.func14 (by kernel_rfl) rfl #[.agg #[.int .i64 a0_0,.string a0_1,.int .i64 a0_2,.slice A0_3 l0_3.length c0_3],.agg #[.int .i64 a1_0,.string a1_1,.int .i64 a1_2,.slice A1_3 l1_3.length c1_3]] rfl (by (try simp only [List.map_toArray,List.map_cons,List.map_nil]);first|done|rfl|(simp only [List.length_drop,List.length_take];rfl)) ?_;(with_reducible refine (laws_eqTerm.calls k a0_0 a0_1 a0_2 _ _ l0_3 a1_0 a1_1 a1_2 _ _ l1_3 true _ ?side1 ?side2 ?side3 ?side4 A3.out).mono ?_);(case side1 => repeat (first|exact (Kd.C_below HR0_3.out HB.out)|(with_reducible refine Kd.C_alloc ?_ _)|(with_reducible refine Kd.C_drewN ?_ _)|(with_reducible refine Kd.C_drew ?_)));(case side2 => exact HC0_3.out);(case side3 => repeat (first|exact (Kd.C_below HR1_3.out HB.out)|(with_reducible refine Kd.C_alloc ?_ _)|(with_reducible refine Kd.C_drewN ?_ _)|(with_reducible refine Kd.C_drew ?_)));(case side4 => exact HC1_3.out);rintro e w13 ⟨rfl,hb⟩;refine ⟨_,rfl,?_⟩;have n0_:=Aside0.mk (blk_below (g:=gb184) (o:=.cells #[.int .i64 a0_0,.string a0_1,.int .i64 a0_2,.slice A0_3 l0_3.length c0_3,.int .i64 a0_4,.string a0_5,.int .i64 a0_6,.slice A0_7 l0_7.length c0_7,.string a0_8] 48 (0,0)) (by (with_reducible repeat (first|refine blk_drewN ?_ _|refine blk_drew ?_|refine blk_alloc ?_ _));exact BK184.out) hb);have n1_:=Aside0.mk (blk_below (g:=gb185) (o:=.cells #[.int .i64 a1_0,.string a1_1,.int .i64 a1_2,.slice A1_3 l1_3.length c1_3,.int .i64 a1_4,.string a1_5,.int .i64 a1_6,.slice A1_7 l1_7.length c1_7,.string a1_8] 48 (0,0)) (by (with_reducible repeat (first|refine blk_drewN ?_ _|refine blk_drew ?_|refine blk_alloc ?_ _));exact BK185.out) hb);have n2_:=Aside0.mk (below_step (by repeat (first|(with_reducible first|exact HB.out|apply below_alloc|apply pw_below_drewN|apply below_drew1|refine below_set ?_ GE184.out|refine below_set ?_ GE185.out)|exact HB.out)) hb);clear BK184;clear BK185;clear HB;have BK184:=n0_;have BK185:=n1_;have HB:=n2_;clear n0_ n1_ n2_;(try clear hb);(try clear hb2);(try clear hk);(try clear hi);have hcz14_0 : w13.cell? ⟨gb184,0,none⟩ = some (.int .i64 a0_0):=(blk_cell BK184.out 0).trans rfl;have hcz14_1 : w13.cell? ⟨gb184,1,none⟩ = some (.string a0_1):=(blk_cell BK184.out 1).trans rfl;have hcz14_2 : w13.cell? ⟨gb184,2,none⟩ = some (.int .i64 a0_2):=(blk_cell BK184.out 2).trans rfl;have hcz14_3 : w13.cell? ⟨gb184,3,none⟩ = some (.slice A0_3 l0_3.length c0_3):=(blk_cell BK184.out 3).trans rfl;have hcz14_4 : w13.cell? ⟨gb184,4,none⟩ = some (.int .i64 a0_4):=(blk_cell BK184.out 4).trans rfl;have hcz14_5 : w13.cell? ⟨gb184,5,none⟩ = some (.string a0_5):=(blk_cell BK184.out 5).trans rfl;have hcz14_6 : w13.cell? ⟨gb184,6,none⟩ = some (.int .i64 a0_6):=(blk_cell BK184.out 6).trans rfl;have hcz14_7 : w13.cell? ⟨gb184,7,none⟩ = some (.slice A0_7 l0_7.length c0_7):=(blk_cell BK184.out 7).trans rfl;have hcz14_8 : w13.cell? ⟨gb184,8,none⟩ = some (.string a0_8):=(blk_cell BK184.out 8).trans rfl;have hfz14_0:=blk_frozen BK184.out 0;have hfz14_1:=blk_frozen BK184.out 1;have hfz14_2:=blk_frozen BK184.out 2;have hfz14_3:=blk_frozen BK184.out 3;have hfz14_4:=blk_frozen BK184.out 4;have hfz14_5:=blk_frozen BK184.out 5;have hfz14_6:=blk_frozen BK184.out 6;have hfz14_7:=blk_frozen BK184.out 7;have hfz14_8:=blk_frozen BK184.out 8;have hcz15_0 : w13.cell? ⟨gb185,0,none⟩ = some (.int .i64 a1_0):=(blk_cell BK185.out 0).trans rfl;have hcz15_1 : w13.cell? ⟨gb185,1,none⟩ = some (.string a1_1):=(blk_cell BK185.out 1).trans rfl;have hcz15_2 : w13.cell? ⟨gb185,2,none⟩ = some (.int .i64 a1_2):=(blk_cell BK185.out 2).trans rfl;have hcz15_3 : w13.cell? ⟨gb185,3,none⟩ = some (.slice A1_3 l1_3.length c1_3):=(blk_cell BK185.out 3).trans rfl;have hcz15_4 : w13.cell? ⟨gb185,4,none⟩ = some (.int .i64 a1_4):=(blk_cell BK185.out 4).trans rfl;have hcz15_5 : w13.cell? ⟨gb185,5,none⟩ = some (.string a1_5):=(blk_cell BK185.out 5).trans rfl;have hcz15_6 : w13.cell? ⟨gb185,6,none⟩ = some (.int .i64 a1_6):=(blk_cell BK185.out 6).trans rfl;have hcz15_7 : w13.cell? ⟨gb185,7,none⟩ = some (.slice A1_7 l1_7.length c1_7):=(blk_cell BK185.out 7).trans rfl;have hcz15_8 : w13.cell? ⟨gb185,8,none⟩ = some (.string a1_8):=(blk_cell BK185.out 8).trans rfl;have hfz15_0:=blk_frozen BK185.out 0;have hfz15_1:=blk_frozen BK185.out 1;have hfz15_2:=blk_frozen BK185.out 2;have hfz15_3:=blk_frozen BK185.out 3;have hfz15_4:=blk_frozen BK185.out 4;have hfz15_5:=blk_frozen BK185.out 5;have hfz15_6:=blk_frozen BK185.out 6;have hfz15_7:=blk_frozen BK185.out 7;have hfz15_8:=blk_frozen BK185.out 8)|((with_reducible refine gate_callee (f:=14) rfl ?_);refine goesL_ (some 15) rfl rfl Tryd.func14 (by kernel_rfl) rfl #[.agg #[.int .i64 a0_4,.string a0_5,.int .i64 a0_6,.slice A0_7 l0_7.length c0_7],.agg #[.int .i64 a1_4,.string a1_5,.int .i64 a1_6,.slice A1_7 l1_7.length c1_7]] rfl (by (try simp only [List.map_toArray,List.map_cons,List.map_nil]);first|done|rfl|(simp only [List.length_drop,List.length_take];rfl)) ?_;(with_reducible refine (laws_eqTerm.calls k a0_4 a0_5 a0_6 _ _ l0_7 a1_4 a1_5 a1_6 _ _ l1_7 true _ ?side1 ?side2 ?side3 ?side4 A5.out).mono ?_);(case side1 => repeat (first|exact (Kd.C_below HR0_7.out HB.out)|(with_reducible refine Kd.C_alloc ?_ _)|(with_reducible refine Kd.C_drewN ?_ _)|(with_reducible refine Kd.C_drew ?_)));(case side2 => exact HC0_7.out);(case side3 => repeat (first|exact (Kd.C_below HR1_7.out HB.out)|(with_reducible refine Kd.C_alloc ?_ _)|(with_reducible refine Kd.C_drewN ?_ _)|(with_reducible refine Kd.C_drew ?_)));(case side4 => exact HC1_7.out);rintro e w16 ⟨rfl,hb⟩;refine ⟨_,rfl,?_⟩;have n0_:=Aside0.mk (blk_below (g:=gb184) (o:=.cells #[.int .i64 a0_0,.string a0_1,.int .i64 a0_2,.slice A0_3 l0_3.length c0_3,.int .i64 a0_4,.string a0_5,.int .i64 a0_6,.slice A0_7 l0_7.length c0_7,.string a0_8] 48 (0,0)) (by (with_reducible repeat (first|refine blk_drewN ?_ _|refine blk_drew ?_|refine blk_alloc ?_ _));exact BK184.out) hb);have n1_:=Aside0.mk (blk_below (g:=gb185) (o:=.cells #[.int .i64 a1_0,.string a1_1,.int .i64 a1_2,.slice A1_3 l1_3.length c1_3,.int .i64 a1_4,.string a1_5,.int .i64 a1_6,.slice A1_7 l1_7.length c1_7,.string a1_8] 48 (0,0)) (by (with_reducible repeat (first|refine blk_drewN ?_ _|refine blk_drew ?_|refine blk_alloc ?_ _));exact BK185.out) hb);have n2_:=Aside0.mk (below_step (by repeat (first|(with_reducible first|exact HB.out|apply below_alloc|apply pw_below_drewN|apply below_drew1|refine below_set ?_ GE184.out|refine below_set ?_ GE185.out)|exact HB.out)) hb);clear BK184;clear BK185;clear HB;have BK184:=n0_;have BK185:=n1_;have HB:=n2_;clear n0_ n1_ n2_;(try clear hb);(try clear hb2);(try clear hk);(try clear hi);have hcz17_0 : w16.cell? ⟨gb184,0,none⟩ = some (.int .i64 a0_0):=(blk_cell BK184.out 0).trans rfl;have hcz17_1 : w16.cell? ⟨gb184,1,none⟩ = some (.string a0_1):=(blk_cell BK184.out 1).trans rfl;have hcz17_2 : w16.cell? ⟨gb184,2,none⟩ = some (.int .i64 a0_2):=(blk_cell BK184.out 2).trans rfl;have hcz17_3 : w16.cell? ⟨gb184,3,none⟩ = some (.slice A0_3 l0_3.length c0_3):=(blk_cell BK184.out 3).trans rfl;have hcz17_4 : w16.cell? ⟨gb184,4,none⟩ = some (.int .i64 a0_4):=(blk_cell BK184.out 4).trans rfl;have hcz17_5 : w16.cell? ⟨gb184,5,none⟩ = some (.string a0_5):=(blk_cell BK184.out 5).trans rfl;have hcz17_6 : w16.cell? ⟨gb184,6,none⟩ = some (.int .i64 a0_6):=(blk_cell BK184.out 6).trans rfl;have hcz17_7 : w16.cell? ⟨gb184,7,none⟩ = some (.slice A0_7 l0_7.length c0_7):=(blk_cell BK184.out 7).trans rfl;have hcz17_8 : w16.cell? ⟨gb184,8,none⟩ = some (.string a0_8):=(blk_cell BK184.out 8).trans rfl;have hfz17_0:=blk_frozen BK184.out 0;have hfz17_1:=blk_frozen BK184.out 1;have hfz17_2:=blk_frozen BK184.out 2;have hfz17_3:=blk_frozen BK184.out 3;have hfz17_4:=blk_frozen BK184.out 4;have hfz17_5:=blk_frozen BK184.out 5;have hfz17_6:=blk_frozen BK184.out 6;have hfz17_7:=blk_frozen BK184.out 7;have hfz17_8:=blk_frozen BK184.out 8;have hcz18_0 : w16.cell? ⟨gb185,0,none⟩ = some (.int .i64 a1_0):=(blk_cell BK185.out 0).trans rfl;have hcz18_1 : w16.cell? ⟨gb185,1,none⟩ = some (.string a1_1):=(blk_cell BK185.out 1).trans rfl;have hcz18_2 : w16.cell? ⟨gb185,2,none⟩ = some (.int .i64 a1_2):=(blk_cell BK185.out 2).trans rfl;have hcz18_3 : w16.cell? ⟨gb185,3,none⟩ = some (.slice A1_3 l1_3.length c1_3):=(blk_cell BK185.out 3).trans rfl;have hcz18_4 : w16.cell? ⟨gb185,4,none⟩ = some (.int .i64 a1_4):=(blk_cell BK185.out 4).trans rfl;have hcz18_5 : w16.cell? ⟨gb185,5,none⟩ = some (.string a1_5):=(blk_cell BK185.out 5).trans rfl;have hcz18_6 : w16.cell? ⟨gb185,6,none⟩ = some (.int .i64 a1_6):=(blk_cell BK185.out 6).trans rfl;have hcz18_7 : w16.cell? ⟨gb185,7,none⟩ = some (.slice A1_7 l1_7.length c1_7):=(blk_cell BK185.out 7).trans rfl;have hcz18_8 : w16.cell? ⟨gb185,8,none⟩ = some (.string a1_8):=(blk_cell BK185.out 8).trans rfl;have hfz18_0:=blk_frozen BK185.out 0;have hfz18_1:=blk_frozen BK185.out 1;have hfz18_2:=blk_frozen BK185.out 2;have hfz18_3:=blk_frozen BK185.out 3;have hfz18_4:=blk_frozen BK185.out 4;have hfz18_5:=blk_frozen BK185.out 5;have hfz18_6:=blk_frozen BK185.out 6;have hfz18_7:=blk_frozen BK185.out 7;have hfz18_8:=blk_frozen BK185.out 8))
    go_ret
    exact ⟨by first|rfl|(simp [errW_none,errW_some] <;> rfl)|(simp [*,errW_none,errW_some] <;> rfl),by repeat (first|(with_reducible first|exact HB.out|apply below_alloc|apply pw_below_drewN|apply below_drew1|refine below_set ?_ GE184.out|refine below_set ?_ GE185.out)|exact HB.out)⟩
   ·rw [if_neg c7] at H
    have c7b0 : (a0_8.toList == a1_8.toList) = false:=beq_eq_false_iff_ne.mpr c7
    have c7b1 : (a0_8.toList != a1_8.toList) = true:=bne_iff_ne.mpr c7
    obtain rfl:=Option.some.inj H
    go_enter Tryd.func24,Tryd.ntmps24
    go_wp2_with (first|((with_reducible refine gate_dst (N:=2) rfl ?_);refine box_event ?hg (N:=2) ?hd (cs:=#[.int .i64 a0_0,.string a0_1,.int .i64 a0_2,.slice A0_3 l0_3.length c0_3,.int .i64 a0_4,.string a0_5,.int .i64 a0_6,.slice A0_7 l0_7.length c0_7,.string a0_8]) (t:=48) ?hr ?_;(case hd => rfl);(case hg => rfl);(case hr => first|(go_simp;done)|(go_simp;rfl));intro gb184 hg w19 hbox hb;have n0_:=Aside0.mk (below_step (by repeat (first|(with_reducible first|exact HB.out|apply below_alloc|apply pw_below_drewN|apply below_drew1)|exact HB.out)) hb);have n1_:=Aside0.mk (hbox);have n2_:=Aside0.mk ((by rw [hg];exact (below_size (by repeat (first|(with_reducible first|exact HB.out|apply below_alloc|apply pw_below_drewN|apply below_drew1)|exact HB.out))) : w.heap.size ≤ gb184));have n3_:=Aside0.mk ((by rw [hg];exact (below_size (by repeat (first|(with_reducible first|exact HB.out|apply below_alloc|apply pw_below_drewN|apply below_drew1)|exact HB.out))) : w.heap.size ≤ gb184));clear HB;have HB:=n0_;have BK184:=n1_;have GW184:=n2_;have GE184:=n3_;clear n0_ n1_ n2_ n3_;clear hb hbox hg)|((with_reducible refine gate_dst (N:=3) rfl ?_);refine box_event ?hg (N:=3) ?hd (cs:=#[.int .i64 a1_0,.string a1_1,.int .i64 a1_2,.slice A1_3 l1_3.length c1_3,.int .i64 a1_4,.string a1_5,.int .i64 a1_6,.slice A1_7 l1_7.length c1_7,.string a1_8]) (t:=48) ?hr ?_;(case hd => rfl);(case hg => rfl);(case hr => first|(go_simp;done)|(go_simp;rfl));intro gb185 hg w20 hbox hb;have n0_:=Aside0.mk (blk_below (g:=gb184) (o:=.cells #[.int .i64 a0_0,.string a0_1,.int .i64 a0_2,.slice A0_3 l0_3.length c0_3,.int .i64 a0_4,.string a0_5,.int .i64 a0_6,.slice A0_7 l0_7.length c0_7,.string a0_8] 48 (0,0)) (by (with_reducible repeat (first|refine blk_drewN ?_ _|refine blk_drew ?_|refine blk_alloc ?_ _));exact BK184.out) hb);have n1_:=Aside0.mk (below_step (by repeat (first|(with_reducible first|exact HB.out|apply below_alloc|apply pw_below_drewN|apply below_drew1|refine below_set ?_ GE184.out)|exact HB.out)) hb);have n2_:=Aside0.mk (hbox);have n3_:=Aside0.mk ((by rw [hg];exact (below_size (by repeat (first|(with_reducible first|exact HB.out|apply below_alloc|apply pw_below_drewN|apply below_drew1|refine below_set ?_ GE184.out)|exact HB.out))) : w.heap.size ≤ gb185));have n4_:=Aside0.mk ((by rw [hg];exact (below_size (by repeat (first|(with_reducible first|exact HB.out|apply below_alloc|apply pw_below_drewN|apply below_drew1|refine below_set ?_ GE184.out)|exact HB.out))) : w.heap.size ≤ gb185));have n5_:=Aside0.mk ((by rw [hg];exact Nat.ne_of_lt (blk_lt (g:=gb184) (o:=.cells #[.int .i64 a0_0,.string a0_1,.int .i64 a0_2,.slice A0_3 l0_3.length c0_3,.int .i64 a0_4,.string a0_5,.int .i64 a0_6,.slice A0_7 l0_7.length c0_7,.string a0_8] 48 (0,0)) (by (with_reducible repeat (first|refine blk_drewN ?_ _|refine blk_drew ?_|refine blk_alloc ?_ _));exact BK184.out)) : gb184 ≠ gb185));have n6_:=Aside0.mk ((by rw [hg];exact Nat.ne_of_gt (blk_lt (g:=gb184) (o:=.cells #[.int .i64 a0_0,.string a0_1,.int .i64 a0_2,.slice A0_3 l0_3.length c0_3,.int .i64 a0_4,.string a0_5,.int .i64 a0_6,.slice A0_7 l0_7.length c0_7,.string a0_8] 48 (0,0)) (by (with_reducible repeat (first|refine blk_drewN ?_ _|refine blk_drew ?_|refine blk_alloc ?_ _));exact BK184.out)) : gb185 ≠ gb184));clear BK184;clear HB;have BK184:=n0_;have HB:=n1_;have BK185:=n2_;have GW185:=n3_;have GE185:=n4_;have NB184_185:=n5_;have NB185_184:=n6_;clear n0_ n1_ n2_ n3_ n4_ n5_ n6_;clear hb hbox hg;have hnb21:=NB184_185.out;have hnc21:=NB185_184.out;have hcz22_0 : w20.cell? ⟨gb184,0,none⟩ = some (.int .i64 a0_0):=(blk_cell BK184.out 0).trans rfl;have hcz22_1 : w20.cell? ⟨gb184,1,none⟩ = some (.string a0_1):=(blk_cell BK184.out 1).trans rfl;have hcz22_2 : w20.cell? ⟨gb184,2,none⟩ = some (.int .i64 a0_2):=(blk_cell BK184.out 2).trans rfl;have hcz22_3 : w20.cell? ⟨gb184,3,none⟩ = some (.slice A0_3 l0_3.length c0_3):=(blk_cell BK184.out 3).trans rfl;have hcz22_4 : w20.cell? ⟨gb184,4,none⟩ = some (.int .i64 a0_4):=(blk_cell BK184.out 4).trans rfl;have hcz22_5 : w20.cell? ⟨gb184,5,none⟩ = some (.string a0_5):=(blk_cell BK184.out 5).trans rfl;have hcz22_6 : w20.cell? ⟨gb184,6,none⟩ = some (.int .i64 a0_6):=(blk_cell BK184.out 6).trans rfl;have hcz22_7 : w20.cell? ⟨gb184,7,none⟩ = some (.slice A0_7 l0_7.length c0_7):=(blk_cell BK184.out 7).trans rfl;have hcz22_8 : w20.cell? ⟨gb184,8,none⟩ = some (.string a0_8):=(blk_cell BK184.out 8).trans rfl;have hfz22_0:=blk_frozen BK184.out 0;have hfz22_1:=blk_frozen BK184.out 1;have hfz22_2:=blk_frozen BK184.out 2;have hfz22_3:=blk_frozen BK184.out 3;have hfz22_4:=blk_frozen BK184.out 4;have hfz22_5:=blk_frozen BK184.out 5;have hfz22_6:=blk_frozen BK184.out 6;have hfz22_7:=blk_frozen BK184.out 7;have hfz22_8:=blk_frozen BK184.out 8;have hcz23_0 : w20.cell? ⟨gb185,0,none⟩ = some (.int .i64 a1_0):=(blk_cell BK185.out 0).trans rfl;have hcz23_1 : w20.cell? ⟨gb185,1,none⟩ = some (.string a1_1):=(blk_cell BK185.out 1).trans rfl;have hcz23_2 : w20.cell? ⟨gb185,2,none⟩ = some (.int .i64 a1_2):=(blk_cell BK185.out 2).trans rfl;have hcz23_3 : w20.cell? ⟨gb185,3,none⟩ = some (.slice A1_3 l1_3.length c1_3):=(blk_cell BK185.out 3).trans rfl;have hcz23_4 : w20.cell? ⟨gb185,4,none⟩ = some (.int .i64 a1_4):=(blk_cell BK185.out 4).trans rfl;have hcz23_5 : w20.cell? ⟨gb185,5,none⟩ = some (.string a1_5):=(blk_cell BK185.out 5).trans rfl;have hcz23_6 : w20.cell? ⟨gb185,6,none⟩ = some (.int .i64 a1_6):=(blk_cell BK185.out 6).trans rfl;have hcz23_7 : w20.cell? ⟨gb185,7,none⟩ = some (.slice A1_7 l1_7.length c1_7):=(blk_cell BK185.out 7).trans rfl;have hcz23_8 : w20.cell? ⟨gb185,8,none⟩ = some (.string a1_8):=(blk_cell BK185.out 8).trans rfl;have hfz23_0:=blk_frozen BK185.out 0;have hfz23_1:=blk_frozen BK185.out 1;have hfz23_2:=blk_frozen BK185.out 2;have hfz23_3:=blk_frozen BK185.out 3;have hfz23_4:=blk_frozen BK185.out 4;have hfz23_5:=blk_frozen BK185.out 5;have hfz23_6:=blk_frozen BK185.out 6;have hfz23_7:=blk_frozen BK185.out 7;have hfz23_8:=blk_frozen BK185.out 8)|((with_reducible refine gate_callee (f:=14) rfl ?_);refine goesL_ (some 9) rfl rfl Tryd.func14 (by kernel_rfl) rfl #[.agg #[.int .i64 a0_0,.string a0_1,.int .i64 a0_2,.slice A0_3 l0_3.length c0_3],.agg #[.int .i64 a1_0,.string a1_1,.int .i64 a1_2,.slice A1_3 l1_3.length c1_3]] rfl (by (try simp only [List.map_toArray,List.map_cons,List.map_nil]);first|done|rfl|(simp only [List.length_drop,List.length_take];rfl)) ?_;(with_reducible refine (laws_eqTerm.calls k a0_0 a0_1 a0_2 _ _ l0_3 a1_0 a1_1 a1_2 _ _ l1_3 true _ ?side1 ?side2 ?side3 ?side4 A3.out).mono ?_);(case side1 => repeat (first|exact (Kd.C_below HR0_3.out HB.out)|(with_reducible refine Kd.C_alloc ?_ _)|(with_reducible refine Kd.C_drewN ?_ _)|(with_reducible refine Kd.C_drew ?_)));(case side2 => exact HC0_3.out);(case side3 => repeat (first|exact (Kd.C_below HR1_3.out HB.out)|(with_reducible refine Kd.C_alloc ?_ _)|(with_reducible refine Kd.C_drewN ?_ _)|(with_reducible refine Kd.C_drew ?_)));(case side4 => exact HC1_3.out);rintro e w24 ⟨rfl,hb⟩;refine ⟨_,rfl,?_⟩;have n0_:=Aside0.mk (blk_below (g:=gb184) (o:=.cells #[.int .i64 a0_0,.string a0_1,.int .i64 a0_2,.slice A0_3 l0_3.length c0_3,.int .i64 a0_4,.string a0_5,.int .i64 a0_6,.slice A0_7 l0_7.length c0_7,.string a0_8] 48 (0,0)) (by (with_reducible repeat (first|refine blk_drewN ?_ _|refine blk_drew ?_|refine blk_alloc ?_ _));exact BK184.out) hb);have n1_:=Aside0.mk (blk_below (g:=gb185) (o:=.cells #[.int .i64 a1_0,.string a1_1,.int .i64 a1_2,.slice A1_3 l1_3.length c1_3,.int .i64 a1_4,.string a1_5,.int .i64 a1_6,.slice A1_7 l1_7.length c1_7,.string a1_8] 48 (0,0)) (by (with_reducible repeat (first|refine blk_drewN ?_ _|refine blk_drew ?_|refine blk_alloc ?_ _));exact BK185.out) hb);have n2_:=Aside0.mk (below_step (by repeat (first|(with_reducible first|exact HB.out|apply below_alloc|apply pw_below_drewN|apply below_drew1|refine below_set ?_ GE184.out|refine below_set ?_ GE185.out)|exact HB.out)) hb);clear BK184;clear BK185;clear HB;have BK184:=n0_;have BK185:=n1_;have HB:=n2_;clear n0_ n1_ n2_;(try clear hb);(try clear hb2);(try clear hk);(try clear hi);have hcz25_0 : w24.cell? ⟨gb184,0,none⟩ = some (.int .i64 a0_0):=(blk_cell BK184.out 0).trans rfl;have hcz25_1 : w24.cell? ⟨gb184,1,none⟩ = some (.string a0_1):=(blk_cell BK184.out 1).trans rfl;have hcz25_2 : w24.cell? ⟨gb184,2,none⟩ = some (.int .i64 a0_2):=(blk_cell BK184.out 2).trans rfl;have hcz25_3 : w24.cell? ⟨gb184,3,none⟩ = some (.slice A0_3 l0_3.length c0_3):=(blk_cell BK184.out 3).trans rfl;have hcz25_4 : w24.cell? ⟨gb184,4,none⟩ = some (.int .i64 a0_4):=(blk_cell BK184.out 4).trans rfl;have hcz25_5 : w24.cell? ⟨gb184,5,none⟩ = some (.string a0_5):=(blk_cell BK184.out 5).trans rfl;have hcz25_6 : w24.cell? ⟨gb184,6,none⟩ = some (.int .i64 a0_6):=(blk_cell BK184.out 6).trans rfl;have hcz25_7 : w24.cell? ⟨gb184,7,none⟩ = some (.slice A0_7 l0_7.length c0_7):=(blk_cell BK184.out 7).trans rfl;have hcz25_8 : w24.cell? ⟨gb184,8,none⟩ = some (.string a0_8):=(blk_cell BK184.out 8).trans rfl;have hfz25_0:=blk_frozen BK184.out 0;have hfz25_1:=blk_frozen BK184.out 1;have hfz25_2:=blk_frozen BK184.out 2;have hfz25_3:=blk_frozen BK184.out 3;have hfz25_4:=blk_frozen BK184.out 4;have hfz25_5:=blk_frozen BK184.out 5;have hfz25_6:=blk_frozen BK184.out 6;have hfz25_7:=blk_frozen BK184.out 7;have hfz25_8:=blk_frozen BK184.out 8;have hcz26_0 : w24.cell? ⟨gb185,0,none⟩ = some (.int .i64 a1_0):=(blk_cell BK185.out 0).trans rfl;have hcz26_1 : w24.cell? ⟨gb185,1,none⟩ = some (.string a1_1):=(blk_cell BK185.out 1).trans rfl;have hcz26_2 : w24.cell? ⟨gb185,2,none⟩ = some (.int .i64 a1_2):=(blk_cell BK185.out 2).trans rfl;have hcz26_3 : w24.cell? ⟨gb185,3,none⟩ = some (.slice A1_3 l1_3.length c1_3):=(blk_cell BK185.out 3).trans rfl;have hcz26_4 : w24.cell? ⟨gb185,4,none⟩ = some (.int .i64 a1_4):=(blk_cell BK185.out 4).trans rfl;have hcz26_5 : w24.cell? ⟨gb185,5,none⟩ = some (.string a1_5):=(blk_cell BK185.out 5).trans rfl;have hcz26_6 : w24.cell? ⟨gb185,6,none⟩ = some (.int .i64 a1_6):=(blk_cell BK185.out 6).trans rfl;have hcz26_7 : w24.cell? ⟨gb185,7,none⟩ = some (.slice A1_7 l1_7.length c1_7):=(blk_cell BK185.out 7).trans rfl;have hcz26_8 : w24.cell? ⟨gb185,8,none⟩ = some (.string a1_8):=(blk_cell BK185.out 8).trans rfl;have hfz26_0:=blk_frozen BK185.out 0;have hfz26_1:=blk_frozen BK185.out 1;have hfz26_2:=blk_frozen BK185.out 2;have hfz26_3:=blk_frozen BK185.out 3;have hfz26_4:=blk_frozen BK185.out 4;have hfz26_5:=blk_frozen BK185.out 5;have hfz26_6:=blk_frozen BK185.out 6;have hfz26_7:=blk_frozen BK185.out 7;have hfz26_8:=blk_frozen BK185.out 8)|((with_reducible refine gate_callee (f:=14) rfl ?_);refine goesL_ (some 15) rfl rfl Tryd.func14 (by kernel_rfl) rfl #[.agg #[.int .i64 a0_4,.string a0_5,.int .i64 a0_6,.slice A0_7 l0_7.length c0_7],.agg #[.int .i64 a1_4,.string a1_5,.int .i64 a1_6,.slice A1_7 l1_7.length c1_7]] rfl (by (try simp only [List.map_toArray,List.map_cons,List.map_nil]);first|done|rfl|(simp only [List.length_drop,List.length_take];rfl)) ?_;(with_reducible refine (laws_eqTerm.calls k a0_4 a0_5 a0_6 _ _ l0_7 a1_4 a1_5 a1_6 _ _ l1_7 true _ ?side1 ?side2 ?side3 ?side4 A5.out).mono ?_);(case side1 => repeat (first|exact (Kd.C_below HR0_7.out HB.out)|(with_reducible refine Kd.C_alloc ?_ _)|(with_reducible refine Kd.C_drewN ?_ _)|(with_reducible refine Kd.C_drew ?_)));(case side2 => exact HC0_7.out);(case side3 => repeat (first|exact (Kd.C_below HR1_7.out HB.out)|(with_reducible refine Kd.C_alloc ?_ _)|(with_reducible refine Kd.C_drewN ?_ _)|(with_reducible refine Kd.C_drew ?_)));(case side4 => exact HC1_7.out);rintro e w27 ⟨rfl,hb⟩;refine ⟨_,rfl,?_⟩;have n0_:=Aside0.mk (blk_below (g:=gb184) (o:=.cells #[.int .i64 a0_0,.string a0_1,.int .i64 a0_2,.slice A0_3 l0_3.length c0_3,.int .i64 a0_4,.string a0_5,.int .i64 a0_6,.slice A0_7 l0_7.length c0_7,.string a0_8] 48 (0,0)) (by (with_reducible repeat (first|refine blk_drewN ?_ _|refine blk_drew ?_|refine blk_alloc ?_ _));exact BK184.out) hb);have n1_:=Aside0.mk (blk_below (g:=gb185) (o:=.cells #[.int .i64 a1_0,.string a1_1,.int .i64 a1_2,.slice A1_3 l1_3.length c1_3,.int .i64 a1_4,.string a1_5,.int .i64 a1_6,.slice A1_7 l1_7.length c1_7,.string a1_8] 48 (0,0)) (by (with_reducible repeat (first|refine blk_drewN ?_ _|refine blk_drew ?_|refine blk_alloc ?_ _));exact BK185.out) hb);have n2_:=Aside0.mk (below_step (by repeat (first|(with_reducible first|exact HB.out|apply below_alloc|apply pw_below_drewN|apply below_drew1|refine below_set ?_ GE184.out|refine below_set ?_ GE185.out)|exact HB.out)) hb);clear BK184;clear BK185;clear HB;have BK184:=n0_;have BK185:=n1_;have HB:=n2_;clear n0_ n1_ n2_;(try clear hb);(try clear hb2);(try clear hk);(try clear hi);have hcz28_0 : w27.cell? ⟨gb184,0,none⟩ = some (.int .i64 a0_0):=(blk_cell BK184.out 0).trans rfl;have hcz28_1 : w27.cell? ⟨gb184,1,none⟩ = some (.string a0_1):=(blk_cell BK184.out 1).trans rfl;have hcz28_2 : w27.cell? ⟨gb184,2,none⟩ = some (.int .i64 a0_2):=(blk_cell BK184.out 2).trans rfl;have hcz28_3 : w27.cell? ⟨gb184,3,none⟩ = some (.slice A0_3 l0_3.length c0_3):=(blk_cell BK184.out 3).trans rfl;have hcz28_4 : w27.cell? ⟨gb184,4,none⟩ = some (.int .i64 a0_4):=(blk_cell BK184.out 4).trans rfl;have hcz28_5 : w27.cell? ⟨gb184,5,none⟩ = some (.string a0_5):=(blk_cell BK184.out 5).trans rfl;have hcz28_6 : w27.cell? ⟨gb184,6,none⟩ = some (.int .i64 a0_6):=(blk_cell BK184.out 6).trans rfl;have hcz28_7 : w27.cell? ⟨gb184,7,none⟩ = some (.slice A0_7 l0_7.length c0_7):=(blk_cell BK184.out 7).trans rfl;have hcz28_8 : w27.cell? ⟨gb184,8,none⟩ = some (.string a0_8):=(blk_cell BK184.out 8).trans rfl;have hfz28_0:=blk_frozen BK184.out 0;have hfz28_1:=blk_frozen BK184.out 1;have hfz28_2:=blk_frozen BK184.out 2;have hfz28_3:=blk_frozen BK184.out 3;have hfz28_4:=blk_frozen BK184.out 4;have hfz28_5:=blk_frozen BK184.out 5;have hfz28_6:=blk_frozen BK184.out 6;have hfz28_7:=blk_frozen BK184.out 7;have hfz28_8:=blk_frozen BK184.out 8;have hcz29_0 : w27.cell? ⟨gb185,0,none⟩ = some (.int .i64 a1_0):=(blk_cell BK185.out 0).trans rfl;have hcz29_1 : w27.cell? ⟨gb185,1,none⟩ = some (.string a1_1):=(blk_cell BK185.out 1).trans rfl;have hcz29_2 : w27.cell? ⟨gb185,2,none⟩ = some (.int .i64 a1_2):=(blk_cell BK185.out 2).trans rfl;have hcz29_3 : w27.cell? ⟨gb185,3,none⟩ = some (.slice A1_3 l1_3.length c1_3):=(blk_cell BK185.out 3).trans rfl;have hcz29_4 : w27.cell? ⟨gb185,4,none⟩ = some (.int .i64 a1_4):=(blk_cell BK185.out 4).trans rfl;have hcz29_5 : w27.cell? ⟨gb185,5,none⟩ = some (.string a1_5):=(blk_cell BK185.out 5).trans rfl;have hcz29_6 : w27.cell? ⟨gb185,6,none⟩ = some (.int .i64 a1_6):=(blk_cell BK185.out 6).trans rfl;have hcz29_7 : w27.cell? ⟨gb185,7,none⟩ = some (.slice A1_7 l1_7.length c1_7):=(blk_cell BK185.out 7).trans rfl;have hcz29_8 : w27.cell? ⟨gb185,8,none⟩ = some (.string a1_8):=(blk_cell BK185.out 8).trans rfl;have hfz29_0:=blk_frozen BK185.out 0;have hfz29_1:=blk_frozen BK185.out 1;have hfz29_2:=blk_frozen BK185.out 2;have hfz29_3:=blk_frozen BK185.out 3;have hfz29_4:=blk_frozen BK185.out 4;have hfz29_5:=blk_frozen BK185.out 5;have hfz29_6:=blk_frozen BK185.out 6;have hfz29_7:=blk_frozen BK185.out 7;have hfz29_8:=blk_frozen BK185.out 8))
    go_ret
    exact ⟨by first|rfl|(simp [errW_none,errW_some] <;> rfl)|(simp [*,errW_none,errW_some] <;> rfl),by repeat (first|(with_reducible first|exact HB.out|apply below_alloc|apply pw_below_drewN|apply below_drew1|refine below_set ?_ GE184.out|refine below_set ?_ GE185.out)|exact HB.out)⟩
  ·replace c6:=Bool.eq_false_iff.mpr c6
   subst c6
   have H1 : (some false) = some r:=by rw [if_neg (show ¬ (false = true) by decide)] at H;exact H
   clear H
   have H:=H1
   clear H1
   obtain rfl:=Option.some.inj H
   go_enter Tryd.func24,Tryd.ntmps24
   go_wp2_with (first|((with_reducible refine gate_dst (N:=2) rfl ?_);refine box_event ?hg (N:=2) ?hd (cs:=#[.int .i64 a0_0,.string a0_1,.int .i64 a0_2,.slice A0_3 l0_3.length c0_3,.int .i64 a0_4,.string a0_5,.int .i64 a0_6,.slice A0_7 l0_7.length c0_7,.string a0_8]) (t:=48) ?hr ?_;(case hd => rfl);(case hg => rfl);(case hr => first|(go_simp;done)|(go_simp;rfl));intro gb184 hg w30 hbox hb;have n0_:=Aside0.mk (below_step (by repeat (first|(with_reducible first|exact HB.out|apply below_alloc|apply pw_below_drewN|apply below_drew1)|exact HB.out)) hb);have n1_:=Aside0.mk (hbox);have n2_:=Aside0.mk ((by rw [hg];exact (below_size (by repeat (first|(with_reducible first|exact HB.out|apply below_alloc|apply pw_below_drewN|apply below_drew1)|exact HB.out))) : w.heap.size ≤ gb184));have n3_:=Aside0.mk ((by rw [hg];exact (below_size (by repeat (first|(with_reducible first|exact HB.out|apply below_alloc|apply pw_below_drewN|apply below_drew1)|exact HB.out))) : w.heap.size ≤ gb184));clear HB;have HB:=n0_;have BK184:=n1_;have GW184:=n2_;have GE184:=n3_;clear n0_ n1_ n2_ n3_;clear hb hbox hg)|((with_reducible refine gate_dst (N:=3) rfl ?_);refine box_event ?hg (N:=3) ?hd (cs:=#[.int .i64 a1_0,.string a1_1,.int .i64 a1_2,.slice A1_3 l1_3.length c1_3,.int .i64 a1_4,.string a1_5,.int .i64 a1_6,.slice A1_7 l1_7.length c1_7,.string a1_8]) (t:=48) ?hr ?_;(case hd => rfl);(case hg => rfl);(case hr => first|(go_simp;done)|(go_simp;rfl));intro gb185 hg w31 hbox hb;have n0_:=Aside0.mk (blk_below (g:=gb184) (o:=.cells #[.int .i64 a0_0,.string a0_1,.int .i64 a0_2,.slice A0_3 l0_3.length c0_3,.int .i64 a0_4,.string a0_5,.int .i64 a0_6,.slice A0_7 l0_7.length c0_7,.string a0_8] 48 (0,0)) (by (with_reducible repeat (first|refine blk_drewN ?_ _|refine blk_drew ?_|refine blk_alloc ?_ _));exact BK184.out) hb);have n1_:=Aside0.mk (below_step (by repeat (first|(with_reducible first|exact HB.out|apply below_alloc|apply pw_below_drewN|apply below_drew1|refine below_set ?_ GE184.out)|exact HB.out)) hb);have n2_:=Aside0.mk (hbox);have n3_:=Aside0.mk ((by rw [hg];exact (below_size (by repeat (first|(with_reducible first|exact HB.out|apply below_alloc|apply pw_below_drewN|apply below_drew1|refine below_set ?_ GE184.out)|exact HB.out))) : w.heap.size ≤ gb185));have n4_:=Aside0.mk ((by rw [hg];exact (below_size (by repeat (first|(with_reducible first|exact HB.out|apply below_alloc|apply pw_below_drewN|apply below_drew1|refine below_set ?_ GE184.out)|exact HB.out))) : w.heap.size ≤ gb185));have n5_:=Aside0.mk ((by rw [hg];exact Nat.ne_of_lt (blk_lt (g:=gb184) (o:=.cells #[.int .i64 a0_0,.string a0_1,.int .i64 a0_2,.slice A0_3 l0_3.length c0_3,.int .i64 a0_4,.string a0_5,.int .i64 a0_6,.slice A0_7 l0_7.length c0_7,.string a0_8] 48 (0,0)) (by (with_reducible repeat (first|refine blk_drewN ?_ _|refine blk_drew ?_|refine blk_alloc ?_ _));exact BK184.out)) : gb184 ≠ gb185));have n6_:=Aside0.mk ((by rw [hg];exact Nat.ne_of_gt (blk_lt (g:=gb184) (o:=.cells #[.int .i64 a0_0,.string a0_1,.int .i64 a0_2,.slice A0_3 l0_3.length c0_3,.int .i64 a0_4,.string a0_5,.int .i64 a0_6,.slice A0_7 l0_7.length c0_7,.string a0_8] 48 (0,0)) (by (with_reducible repeat (first|refine blk_drewN ?_ _|refine blk_drew ?_|refine blk_alloc ?_ _));exact BK184.out)) : gb185 ≠ gb184));clear BK184;clear HB;have BK184:=n0_;have HB:=n1_;have BK185:=n2_;have GW185:=n3_;have GE185:=n4_;have NB184_185:=n5_;have NB185_184:=n6_;clear n0_ n1_ n2_ n3_ n4_ n5_ n6_;clear hb hbox hg;have hnb32:=NB184_185.out;have hnc32:=NB185_184.out;have hcz33_0 : w31.cell? ⟨gb184,0,none⟩ = some (.int .i64 a0_0):=(blk_cell BK184.out 0).trans rfl;have hcz33_1 : w31.cell? ⟨gb184,1,none⟩ = some (.string a0_1):=(blk_cell BK184.out 1).trans rfl;have hcz33_2 : w31.cell? ⟨gb184,2,none⟩ = some (.int .i64 a0_2):=(blk_cell BK184.out 2).trans rfl;have hcz33_3 : w31.cell? ⟨gb184,3,none⟩ = some (.slice A0_3 l0_3.length c0_3):=(blk_cell BK184.out 3).trans rfl;have hcz33_4 : w31.cell? ⟨gb184,4,none⟩ = some (.int .i64 a0_4):=(blk_cell BK184.out 4).trans rfl;have hcz33_5 : w31.cell? ⟨gb184,5,none⟩ = some (.string a0_5):=(blk_cell BK184.out 5).trans rfl;have hcz33_6 : w31.cell? ⟨gb184,6,none⟩ = some (.int .i64 a0_6):=(blk_cell BK184.out 6).trans rfl;have hcz33_7 : w31.cell? ⟨gb184,7,none⟩ = some (.slice A0_7 l0_7.length c0_7):=(blk_cell BK184.out 7).trans rfl;have hcz33_8 : w31.cell? ⟨gb184,8,none⟩ = some (.string a0_8):=(blk_cell BK184.out 8).trans rfl;have hfz33_0:=blk_frozen BK184.out 0;have hfz33_1:=blk_frozen BK184.out 1;have hfz33_2:=blk_frozen BK184.out 2;have hfz33_3:=blk_frozen BK184.out 3;have hfz33_4:=blk_frozen BK184.out 4;have hfz33_5:=blk_frozen BK184.out 5;have hfz33_6:=blk_frozen BK184.out 6;have hfz33_7:=blk_frozen BK184.out 7;have hfz33_8:=blk_frozen BK184.out 8;have hcz34_0 : w31.cell? ⟨gb185,0,none⟩ = some (.int .i64 a1_0):=(blk_cell BK185.out 0).trans rfl;have hcz34_1 : w31.cell? ⟨gb185,1,none⟩ = some (.string a1_1):=(blk_cell BK185.out 1).trans rfl;have hcz34_2 : w31.cell? ⟨gb185,2,none⟩ = some (.int .i64 a1_2):=(blk_cell BK185.out 2).trans rfl;have hcz34_3 : w31.cell? ⟨gb185,3,none⟩ = some (.slice A1_3 l1_3.length c1_3):=(blk_cell BK185.out 3).trans rfl;have hcz34_4 : w31.cell? ⟨gb185,4,none⟩ = some (.int .i64 a1_4):=(blk_cell BK185.out 4).trans rfl;have hcz34_5 : w31.cell? ⟨gb185,5,none⟩ = some (.string a1_5):=(blk_cell BK185.out 5).trans rfl;have hcz34_6 : w31.cell? ⟨gb185,6,none⟩ = some (.int .i64 a1_6):=(blk_cell BK185.out 6).trans rfl;have hcz34_7 : w31.cell? ⟨gb185,7,none⟩ = some (.slice A1_7 l1_7.length c1_7):=(blk_cell BK185.out 7).trans rfl;have hcz34_8 : w31.cell? ⟨gb185,8,none⟩ = some (.string a1_8):=(blk_cell BK185.out 8).trans rfl;have hfz34_0:=blk_frozen BK185.out 0;have hfz34_1:=blk_frozen BK185.out 1;have hfz34_2:=blk_frozen BK185.out 2;have hfz34_3:=blk_frozen BK185.out 3;have hfz34_4:=blk_frozen BK185.out 4;have hfz34_5:=blk_frozen BK185.out 5;have hfz34_6:=blk_frozen BK185.out 6;have hfz34_7:=blk_frozen BK185.out 7;have hfz34_8:=blk_frozen BK185.out 8)|((with_reducible refine gate_callee (f:=14) rfl ?_);refine goesL_ (some 9) rfl rfl Tryd.func14 (by kernel_rfl) rfl #[.agg #[.int .i64 a0_0,.string a0_1,.int .i64 a0_2,.slice A0_3 l0_3.length c0_3],.agg #[.int .i64 a1_0,.string a1_1,.int .i64 a1_2,.slice A1_3 l1_3.length c1_3]] rfl (by (try simp only [List.map_toArray,List.map_cons,List.map_nil]);first|done|rfl|(simp only [List.length_drop,List.length_take];rfl)) ?_;(with_reducible refine (laws_eqTerm.calls k a0_0 a0_1 a0_2 _ _ l0_3 a1_0 a1_1 a1_2 _ _ l1_3 true _ ?side1 ?side2 ?side3 ?side4 A3.out).mono ?_);(case side1 => repeat (first|exact (Kd.C_below HR0_3.out HB.out)|(with_reducible refine Kd.C_alloc ?_ _)|(with_reducible refine Kd.C_drewN ?_ _)|(with_reducible refine Kd.C_drew ?_)));(case side2 => exact HC0_3.out);(case side3 => repeat (first|exact (Kd.C_below HR1_3.out HB.out)|(with_reducible refine Kd.C_alloc ?_ _)|(with_reducible refine Kd.C_drewN ?_ _)|(with_reducible refine Kd.C_drew ?_)));(case side4 => exact HC1_3.out);rintro e w35 ⟨rfl,hb⟩;refine ⟨_,rfl,?_⟩;have n0_:=Aside0.mk (blk_below (g:=gb184) (o:=.cells #[.int .i64 a0_0,.string a0_1,.int .i64 a0_2,.slice A0_3 l0_3.length c0_3,.int .i64 a0_4,.string a0_5,.int .i64 a0_6,.slice A0_7 l0_7.length c0_7,.string a0_8] 48 (0,0)) (by (with_reducible repeat (first|refine blk_drewN ?_ _|refine blk_drew ?_|refine blk_alloc ?_ _));exact BK184.out) hb);have n1_:=Aside0.mk (blk_below (g:=gb185) (o:=.cells #[.int .i64 a1_0,.string a1_1,.int .i64 a1_2,.slice A1_3 l1_3.length c1_3,.int .i64 a1_4,.string a1_5,.int .i64 a1_6,.slice A1_7 l1_7.length c1_7,.string a1_8] 48 (0,0)) (by (with_reducible repeat (first|refine blk_drewN ?_ _|refine blk_drew ?_|refine blk_alloc ?_ _));exact BK185.out) hb);have n2_:=Aside0.mk (below_step (by repeat (first|(with_reducible first|exact HB.out|apply below_alloc|apply pw_below_drewN|apply below_drew1|refine below_set ?_ GE184.out|refine below_set ?_ GE185.out)|exact HB.out)) hb);clear BK184;clear BK185;clear HB;have BK184:=n0_;have BK185:=n1_;have HB:=n2_;clear n0_ n1_ n2_;(try clear hb);(try clear hb2);(try clear hk);(try clear hi);have hcz36_0 : w35.cell? ⟨gb184,0,none⟩ = some (.int .i64 a0_0):=(blk_cell BK184.out 0).trans rfl;have hcz36_1 : w35.cell? ⟨gb184,1,none⟩ = some (.string a0_1):=(blk_cell BK184.out 1).trans rfl;have hcz36_2 : w35.cell? ⟨gb184,2,none⟩ = some (.int .i64 a0_2):=(blk_cell BK184.out 2).trans rfl;have hcz36_3 : w35.cell? ⟨gb184,3,none⟩ = some (.slice A0_3 l0_3.length c0_3):=(blk_cell BK184.out 3).trans rfl;have hcz36_4 : w35.cell? ⟨gb184,4,none⟩ = some (.int .i64 a0_4):=(blk_cell BK184.out 4).trans rfl;have hcz36_5 : w35.cell? ⟨gb184,5,none⟩ = some (.string a0_5):=(blk_cell BK184.out 5).trans rfl;have hcz36_6 : w35.cell? ⟨gb184,6,none⟩ = some (.int .i64 a0_6):=(blk_cell BK184.out 6).trans rfl;have hcz36_7 : w35.cell? ⟨gb184,7,none⟩ = some (.slice A0_7 l0_7.length c0_7):=(blk_cell BK184.out 7).trans rfl;have hcz36_8 : w35.cell? ⟨gb184,8,none⟩ = some (.string a0_8):=(blk_cell BK184.out 8).trans rfl;have hfz36_0:=blk_frozen BK184.out 0;have hfz36_1:=blk_frozen BK184.out 1;have hfz36_2:=blk_frozen BK184.out 2;have hfz36_3:=blk_frozen BK184.out 3;have hfz36_4:=blk_frozen BK184.out 4;have hfz36_5:=blk_frozen BK184.out 5;have hfz36_6:=blk_frozen BK184.out 6;have hfz36_7:=blk_frozen BK184.out 7;have hfz36_8:=blk_frozen BK184.out 8;have hcz37_0 : w35.cell? ⟨gb185,0,none⟩ = some (.int .i64 a1_0):=(blk_cell BK185.out 0).trans rfl;have hcz37_1 : w35.cell? ⟨gb185,1,none⟩ = some (.string a1_1):=(blk_cell BK185.out 1).trans rfl;have hcz37_2 : w35.cell? ⟨gb185,2,none⟩ = some (.int .i64 a1_2):=(blk_cell BK185.out 2).trans rfl;have hcz37_3 : w35.cell? ⟨gb185,3,none⟩ = some (.slice A1_3 l1_3.length c1_3):=(blk_cell BK185.out 3).trans rfl;have hcz37_4 : w35.cell? ⟨gb185,4,none⟩ = some (.int .i64 a1_4):=(blk_cell BK185.out 4).trans rfl;have hcz37_5 : w35.cell? ⟨gb185,5,none⟩ = some (.string a1_5):=(blk_cell BK185.out 5).trans rfl;have hcz37_6 : w35.cell? ⟨gb185,6,none⟩ = some (.int .i64 a1_6):=(blk_cell BK185.out 6).trans rfl;have hcz37_7 : w35.cell? ⟨gb185,7,none⟩ = some (.slice A1_7 l1_7.length c1_7):=(blk_cell BK185.out 7).trans rfl;have hcz37_8 : w35.cell? ⟨gb185,8,none⟩ = some (.string a1_8):=(blk_cell BK185.out 8).trans rfl;have hfz37_0:=blk_frozen BK185.out 0;have hfz37_1:=blk_frozen BK185.out 1;have hfz37_2:=blk_frozen BK185.out 2;have hfz37_3:=blk_frozen BK185.out 3;have hfz37_4:=blk_frozen BK185.out 4;have hfz37_5:=blk_frozen BK185.out 5;have hfz37_6:=blk_frozen BK185.out 6;have hfz37_7:=blk_frozen BK185.out 7;have hfz37_8:=blk_frozen BK185.out 8)|((with_reducible refine gate_callee (f:=14) rfl ?_);refine goesL_ (some 15) rfl rfl Tryd.func14 (by kernel_rfl) rfl #[.agg #[.int .i64 a0_4,.string a0_5,.int .i64 a0_6,.slice A0_7 l0_7.length c0_7],.agg #[.int .i64 a1_4,.string a1_5,.int .i64 a1_6,.slice A1_7 l1_7.length c1_7]] rfl (by (try simp only [List.map_toArray,List.map_cons,List.map_nil]);first|done|rfl|(simp only [List.length_drop,List.length_take];rfl)) ?_;(with_reducible refine (laws_eqTerm.calls k a0_4 a0_5 a0_6 _ _ l0_7 a1_4 a1_5 a1_6 _ _ l1_7 false _ ?side1 ?side2 ?side3 ?side4 A5.out).mono ?_);(case side1 => repeat (first|exact (Kd.C_below HR0_7.out HB.out)|(with_reducible refine Kd.C_alloc ?_ _)|(with_reducible refine Kd.C_drewN ?_ _)|(with_reducible refine Kd.C_drew ?_)));(case side2 => exact HC0_7.out);(case side3 => repeat (first|exact (Kd.C_below HR1_7.out HB.out)|(with_reducible refine Kd.C_alloc ?_ _)|(with_reducible refine Kd.C_drewN ?_ _)|(with_reducible refine Kd.C_drew ?_)));(case side4 => exact HC1_7.out);rintro e w38 ⟨rfl,hb⟩;refine ⟨_,rfl,?_⟩;have n0_:=Aside0.mk (blk_below (g:=gb184) (o:=.cells #[.int .i64 a0_0,.string a0_1,.int .i64 a0_2,.slice A0_3 l0_3.length c0_3,.int .i64 a0_4,.string a0_5,.int .i64 a0_6,.slice A0_7 l0_7.length c0_7,.string a0_8] 48 (0,0)) (by (with_reducible repeat (first|refine blk_drewN ?_ _|refine blk_drew ?_|refine blk_alloc ?_ _));exact BK184.out) hb);have n1_:=Aside0.mk (blk_below (g:=gb185) (o:=.cells #[.int .i64 a1_0,.string a1_1,.int .i64 a1_2,.slice A1_3 l1_3.length c1_3,.int .i64 a1_4,.string a1_5,.int .i64 a1_6,.slice A1_7 l1_7.length c1_7,.string a1_8] 48 (0,0)) (by (with_reducible repeat (first|refine blk_drewN ?_ _|refine blk_drew ?_|refine blk_alloc ?_ _));exact BK185.out) hb);have n2_:=Aside0.mk (below_step (by repeat (first|(with_reducible first|exact HB.out|apply below_alloc|apply pw_below_drewN|apply below_drew1|refine below_set ?_ GE184.out|refine below_set ?_ GE185.out)|exact HB.out)) hb);clear BK184;clear BK185;clear HB;have BK184:=n0_;have BK185:=n1_;have HB:=n2_;clear n0_ n1_ n2_;(try clear hb)))
   go_ret
   exact ⟨by first|rfl|(simp [errW_none,errW_some] <;> rfl)|(simp [*,errW_none,errW_some] <;> rfl),by repeat (first|(with_reducible first|exact HB.out|apply below_alloc|apply pw_below_drewN|apply below_drew1|refine below_set ?_ GE184.out|refine below_set ?_ GE185.out)|exact HB.out)⟩
 ·replace c4:=Bool.eq_false_iff.mpr c4
  subst c4
  have H1 : (some false) = some r:=by rw [if_neg (show ¬ (false = true) by decide)] at H;exact H
  clear H
  have H:=H1
  clear H1
  obtain rfl:=Option.some.inj H
  go_enter Tryd.func24,Tryd.ntmps24
  go_wp2_with (first|((with_reducible refine gate_dst (N:=2) rfl ?_);refine box_event ?hg (N:=2) ?hd (cs:=#[.int .i64 a0_0,.string a0_1,.int .i64 a0_2,.slice A0_3 l0_3.length c0_3,.int .i64 a0_4,.string a0_5,.int .i64 a0_6,.slice A0_7 l0_7.length c0_7,.string a0_8]) (t:=48) ?hr ?_;(case hd => rfl);(case hg => rfl);(case hr => first|(go_simp;done)|(go_simp;rfl));intro gb184 hg w39 hbox hb;have n0_:=Aside0.mk (below_step (by repeat (first|(with_reducible first|exact HB.out|apply below_alloc|apply pw_below_drewN|apply below_drew1)|exact HB.out)) hb);have n1_:=Aside0.mk (hbox);have n2_:=Aside0.mk ((by rw [hg];exact (below_size (by repeat (first|(with_reducible first|exact HB.out|apply below_alloc|apply pw_below_drewN|apply below_drew1)|exact HB.out))) : w.heap.size ≤ gb184));have n3_:=Aside0.mk ((by rw [hg];exact (below_size (by repeat (first|(with_reducible first|exact HB.out|apply below_alloc|apply pw_below_drewN|apply below_drew1)|exact HB.out))) : w.heap.size ≤ gb184));clear HB;have HB:=n0_;have BK184:=n1_;have GW184:=n2_;have GE184:=n3_;clear n0_ n1_ n2_ n3_;clear hb hbox hg)|((with_reducible refine gate_dst (N:=3) rfl ?_);refine box_event ?hg (N:=3) ?hd (cs:=#[.int .i64 a1_0,.string a1_1,.int .i64 a1_2,.slice A1_3 l1_3.length c1_3,.int .i64 a1_4,.string a1_5,.int .i64 a1_6,.slice A1_7 l1_7.length c1_7,.string a1_8]) (t:=48) ?hr ?_;(case hd => rfl);(case hg => rfl);(case hr => first|(go_simp;done)|(go_simp;rfl));intro gb185 hg w40 hbox hb;have n0_:=Aside0.mk (blk_below (g:=gb184) (o:=.cells #[.int .i64 a0_0,.string a0_1,.int .i64 a0_2,.slice A0_3 l0_3.length c0_3,.int .i64 a0_4,.string a0_5,.int .i64 a0_6,.slice A0_7 l0_7.length c0_7,.string a0_8] 48 (0,0)) (by (with_reducible repeat (first|refine blk_drewN ?_ _|refine blk_drew ?_|refine blk_alloc ?_ _));exact BK184.out) hb);have n1_:=Aside0.mk (below_step (by repeat (first|(with_reducible first|exact HB.out|apply below_alloc|apply pw_below_drewN|apply below_drew1|refine below_set ?_ GE184.out)|exact HB.out)) hb);have n2_:=Aside0.mk (hbox);have n3_:=Aside0.mk ((by rw [hg];exact (below_size (by repeat (first|(with_reducible first|exact HB.out|apply below_alloc|apply pw_below_drewN|apply below_drew1|refine below_set ?_ GE184.out)|exact HB.out))) : w.heap.size ≤ gb185));have n4_:=Aside0.mk ((by rw [hg];exact (below_size (by repeat (first|(with_reducible first|exact HB.out|apply below_alloc|apply pw_below_drewN|apply below_drew1|refine below_set ?_ GE184.out)|exact HB.out))) : w.heap.size ≤ gb185));have n5_:=Aside0.mk ((by rw [hg];exact Nat.ne_of_lt (blk_lt (g:=gb184) (o:=.cells #[.int .i64 a0_0,.string a0_1,.int .i64 a0_2,.slice A0_3 l0_3.length c0_3,.int .i64 a0_4,.string a0_5,.int .i64 a0_6,.slice A0_7 l0_7.length c0_7,.string a0_8] 48 (0,0)) (by (with_reducible repeat (first|refine blk_drewN ?_ _|refine blk_drew ?_|refine blk_alloc ?_ _));exact BK184.out)) : gb184 ≠ gb185));have n6_:=Aside0.mk ((by rw [hg];exact Nat.ne_of_gt (blk_lt (g:=gb184) (o:=.cells #[.int .i64 a0_0,.string a0_1,.int .i64 a0_2,.slice A0_3 l0_3.length c0_3,.int .i64 a0_4,.string a0_5,.int .i64 a0_6,.slice A0_7 l0_7.length c0_7,.string a0_8] 48 (0,0)) (by (with_reducible repeat (first|refine blk_drewN ?_ _|refine blk_drew ?_|refine blk_alloc ?_ _));exact BK184.out)) : gb185 ≠ gb184));clear BK184;clear HB;have BK184:=n0_;have HB:=n1_;have BK185:=n2_;have GW185:=n3_;have GE185:=n4_;have NB184_185:=n5_;have NB185_184:=n6_;clear n0_ n1_ n2_ n3_ n4_ n5_ n6_;clear hb hbox hg;have hnb41:=NB184_185.out;have hnc41:=NB185_184.out;have hcz42_0 : w40.cell? ⟨gb184,0,none⟩ = some (.int .i64 a0_0):=(blk_cell BK184.out 0).trans rfl;have hcz42_1 : w40.cell? ⟨gb184,1,none⟩ = some (.string a0_1):=(blk_cell BK184.out 1).trans rfl;have hcz42_2 : w40.cell? ⟨gb184,2,none⟩ = some (.int .i64 a0_2):=(blk_cell BK184.out 2).trans rfl;have hcz42_3 : w40.cell? ⟨gb184,3,none⟩ = some (.slice A0_3 l0_3.length c0_3):=(blk_cell BK184.out 3).trans rfl;have hcz42_4 : w40.cell? ⟨gb184,4,none⟩ = some (.int .i64 a0_4):=(blk_cell BK184.out 4).trans rfl;have hcz42_5 : w40.cell? ⟨gb184,5,none⟩ = some (.string a0_5):=(blk_cell BK184.out 5).trans rfl;have hcz42_6 : w40.cell? ⟨gb184,6,none⟩ = some (.int .i64 a0_6):=(blk_cell BK184.out 6).trans rfl;have hcz42_7 : w40.cell? ⟨gb184,7,none⟩ = some (.slice A0_7 l0_7.length c0_7):=(blk_cell BK184.out 7).trans rfl;have hcz42_8 : w40.cell? ⟨gb184,8,none⟩ = some (.string a0_8):=(blk_cell BK184.out 8).trans rfl;have hfz42_0:=blk_frozen BK184.out 0;have hfz42_1:=blk_frozen BK184.out 1;have hfz42_2:=blk_frozen BK184.out 2;have hfz42_3:=blk_frozen BK184.out 3;have hfz42_4:=blk_frozen BK184.out 4;have hfz42_5:=blk_frozen BK184.out 5;have hfz42_6:=blk_frozen BK184.out 6;have hfz42_7:=blk_frozen BK184.out 7;have hfz42_8:=blk_frozen BK184.out 8;have hcz43_0 : w40.cell? ⟨gb185,0,none⟩ = some (.int .i64 a1_0):=(blk_cell BK185.out 0).trans rfl;have hcz43_1 : w40.cell? ⟨gb185,1,none⟩ = some (.string a1_1):=(blk_cell BK185.out 1).trans rfl;have hcz43_2 : w40.cell? ⟨gb185,2,none⟩ = some (.int .i64 a1_2):=(blk_cell BK185.out 2).trans rfl;have hcz43_3 : w40.cell? ⟨gb185,3,none⟩ = some (.slice A1_3 l1_3.length c1_3):=(blk_cell BK185.out 3).trans rfl;have hcz43_4 : w40.cell? ⟨gb185,4,none⟩ = some (.int .i64 a1_4):=(blk_cell BK185.out 4).trans rfl;have hcz43_5 : w40.cell? ⟨gb185,5,none⟩ = some (.string a1_5):=(blk_cell BK185.out 5).trans rfl;have hcz43_6 : w40.cell? ⟨gb185,6,none⟩ = some (.int .i64 a1_6):=(blk_cell BK185.out 6).trans rfl;have hcz43_7 : w40.cell? ⟨gb185,7,none⟩ = some (.slice A1_7 l1_7.length c1_7):=(blk_cell BK185.out 7).trans rfl;have hcz43_8 : w40.cell? ⟨gb185,8,none⟩ = some (.string a1_8):=(blk_cell BK185.out 8).trans rfl;have hfz43_0:=blk_frozen BK185.out 0;have hfz43_1:=blk_frozen BK185.out 1;have hfz43_2:=blk_frozen BK185.out 2;have hfz43_3:=blk_frozen BK185.out 3;have hfz43_4:=blk_frozen BK185.out 4;have hfz43_5:=blk_frozen BK185.out 5;have hfz43_6:=blk_frozen BK185.out 6;have hfz43_7:=blk_frozen BK185.out 7;have hfz43_8:=blk_frozen BK185.out 8)|((with_reducible refine gate_callee (f:=14) rfl ?_);refine goesL_ (some 9) rfl rfl Tryd.func14 (by kernel_rfl) rfl #[.agg #[.int .i64 a0_0,.string a0_1,.int .i64 a0_2,.slice A0_3 l0_3.length c0_3],.agg #[.int .i64 a1_0,.string a1_1,.int .i64 a1_2,.slice A1_3 l1_3.length c1_3]] rfl (by (try simp only [List.map_toArray,List.map_cons,List.map_nil]);first|done|rfl|(simp only [List.length_drop,List.length_take];rfl)) ?_;(with_reducible refine (laws_eqTerm.calls k a0_0 a0_1 a0_2 _ _ l0_3 a1_0 a1_1 a1_2 _ _ l1_3 false _ ?side1 ?side2 ?side3 ?side4 A3.out).mono ?_);(case side1 => repeat (first|exact (Kd.C_below HR0_3.out HB.out)|(with_reducible refine Kd.C_alloc ?_ _)|(with_reducible refine Kd.C_drewN ?_ _)|(with_reducible refine Kd.C_drew ?_)));(case side2 => exact HC0_3.out);(case side3 => repeat (first|exact (Kd.C_below HR1_3.out HB.out)|(with_reducible refine Kd.C_alloc ?_ _)|(with_reducible refine Kd.C_drewN ?_ _)|(with_reducible refine Kd.C_drew ?_)));(case side4 => exact HC1_3.out);rintro e w44 ⟨rfl,hb⟩;refine ⟨_,rfl,?_⟩;have n0_:=Aside0.mk (blk_below (g:=gb184) (o:=.cells #[.int .i64 a0_0,.string a0_1,.int .i64 a0_2,.slice A0_3 l0_3.length c0_3,.int .i64 a0_4,.string a0_5,.int .i64 a0_6,.slice A0_7 l0_7.length c0_7,.string a0_8] 48 (0,0)) (by (with_reducible repeat (first|refine blk_drewN ?_ _|refine blk_drew ?_|refine blk_alloc ?_ _));exact BK184.out) hb);have n1_:=Aside0.mk (blk_below (g:=gb185) (o:=.cells #[.int .i64 a1_0,.string a1_1,.int .i64 a1_2,.slice A1_3 l1_3.length c1_3,.int .i64 a1_4,.string a1_5,.int .i64 a1_6,.slice A1_7 l1_7.length c1_7,.string a1_8] 48 (0,0)) (by (with_reducible repeat (first|refine blk_drewN ?_ _|refine blk_drew ?_|refine blk_alloc ?_ _));exact BK185.out) hb);have n2_:=Aside0.mk (below_step (by repeat (first|(with_reducible first|exact HB.out|apply below_alloc|apply pw_below_drewN|apply below_drew1|refine below_set ?_ GE184.out|refine below_set ?_ GE185.out)|exact HB.out)) hb);clear BK184;clear BK185;clear HB;have BK184:=n0_;have BK185:=n1_;have HB:=n2_;clear n0_ n1_ n2_;(try clear hb)))
  go_ret
  exact ⟨by first|rfl|(simp [errW_none,errW_some] <;> rfl)|(simp [*,errW_none,errW_some] <;> rfl),by repeat (first|(with_reducible first|exact HB.out|apply below_alloc|apply pw_below_drewN|apply below_drew1|refine below_set ?_ GE184.out|refine below_set ?_ GE185.out)|exact HB.out)⟩

/-! ### laws_eqClauseS: function 30 -/
def laws_eqClauseS.l0 : Nat → List (S48) → List (S48) → Int → Option (Bool)
 | 0,_,_,_ => none
 | k + 1,x0,x1,x5 => if x5 < (x0.length : Int) then (if 0 ≤ x5 then (if x5 < (x1.length : Int) then ((laws_eqClause.f k ((rd_T48 x0 x5).f0.f0) ((rd_T48 x0 x5).f0.f1) ((rd_T48 x0 x5).f0.f2) ((rd_T48 x0 x5).f0.f3) ((rd_T48 x0 x5).f1.f0) ((rd_T48 x0 x5).f1.f1) ((rd_T48 x0 x5).f1.f2) ((rd_T48 x0 x5).f1.f3) ((rd_T48 x0 x5).f2) ((rd_T48 x1 x5).f0.f0) ((rd_T48 x1 x5).f0.f1) ((rd_T48 x1 x5).f0.f2) ((rd_T48 x1 x5).f0.f3) ((rd_T48 x1 x5).f1.f0) ((rd_T48 x1 x5).f1.f1) ((rd_T48 x1 x5).f1.f2) ((rd_T48 x1 x5).f1.f3) ((rd_T48 x1 x5).f2)).bind fun t190 => (if t190 = true then (laws_eqClauseS.l0 k x0 x1 (wrap64 (x5 + 1))) else (some false))) else (none)) else (none)) else (some true)
def laws_eqClauseS.f (k : Nat) (l0 : List (S48)) (l1 : List (S48)) : Option (Bool):=if (l0.length : Int) = (l1.length : Int) then (laws_eqClauseS.l0 k l0 l1 0) else (some false)
theorem laws_eqClauseS.mono_l : ∀ k,(∀ y0 y1 y2,LeO (laws_eqClauseS.l0 k y0 y1 y2) (laws_eqClauseS.l0 (k + 1) y0 y1 y2))
 | 0 => fun _ _ _ r h => by simp [laws_eqClauseS.l0] at h
 | k + 1 => by
  have ih0:=laws_eqClauseS.mono_l k
  ·intro y0 y1 y2
   unfold laws_eqClauseS.l0
   repeat' first
   | (with_reducible exact ih0 _ _ _)
   | (with_reducible exact laws_eqClause.mono _ _ _ _ _ _ _ _ _ _ _ _ _ _ _ _ _ _ _)
   | (with_reducible exact LeO.refl _)
   | (with_reducible exact LeO.none _)
   | (with_reducible refine LeO.ite ?_ ?_)
   | (with_reducible refine LeO.bind ?_ (fun _ => ?_))
   | exact ih0 _ _ _
   | exact laws_eqClause.mono _ _ _ _ _ _ _ _ _ _ _ _ _ _ _ _ _ _ _
   | exact LeO.none _
   | refine LeO.ite ?_ ?_
   | refine LeO.bind ?_ (fun _ => ?_)
theorem laws_eqClauseS.mono : ∀ a0 a1 k,LeO (laws_eqClauseS.f k a0 a1) (laws_eqClauseS.f (k + 1) a0 a1):=by
 intro a0 a1 k
 have ih0:=laws_eqClauseS.mono_l k
 unfold laws_eqClauseS.f
 repeat' first
   | (with_reducible exact ih0 _ _ _)
   | (with_reducible exact laws_eqClause.mono _ _ _ _ _ _ _ _ _ _ _ _ _ _ _ _ _ _ _)
   | (with_reducible exact LeO.refl _)
   | (with_reducible exact LeO.none _)
   | (with_reducible refine LeO.ite ?_ ?_)
   | (with_reducible refine LeO.bind ?_ (fun _ => ?_))
   | exact ih0 _ _ _
   | exact laws_eqClause.mono _ _ _ _ _ _ _ _ _ _ _ _ _ _ _ _ _ _ _
   | exact LeO.none _
   | refine LeO.ite ?_ ?_
   | refine LeO.bind ?_ (fun _ => ?_)
def laws_eqClauseS.T6 : Bool × List (List Nat × List Nat):=(true,[([],[]),([],[]),([0,1],[0,1]),([2],[2]),([],[]),([],[]),([4,5],[4,5]),([6],[6]),([3,7],[3,7]),([8],[8])])
def laws_eqClauseS.B6 : List Nat:=[0,0,3,7,0,0,48,112,255,511]
theorem laws_eqClauseS.tab6 : rtab .any (opsOf Tryd.f30 6) = laws_eqClauseS.T6:=by kernel_rfl
theorem laws_eqClauseS.bits6 : waitsOk laws_eqClauseS.T6.2 laws_eqClauseS.B6 = true:=by kernel_rfl
set_option maxHeartbeats 8000000 in
set_option maxRecDepth 100000 in
theorem laws_eqClauseS.calls (k : Nat) (A0 : Option Addr) (c0 : Nat) (l0 : List (S48)) (A1 : Option Addr) (c1 : Nat) (l1 : List (S48)) (r : Bool) (w : World) (hr0 : Kd.C k48 w A0 l0.length l0) (hc0 : l0.length ≤ c0) (hr1 : Kd.C k48 w A1 l1.length l1) (hc1 : l1.length ≤ c1) (h : laws_eqClauseS.f k l0 l1 = some r) :
  Calls Tryd.prog 30 #[.slice A0 l0.length c0,.slice A1 l1.length c1] w fun e w' => e = .returned (.bool r) ∧ Below w.heap.size w w':=by
 have hu48:=Tryd.underlying48
 have HR0:=Aside0.mk hr0
 have HC0:=Aside0.mk hc0
 clear hr0 hc0
 have HR1:=Aside0.mk hr1
 have HC1:=Aside0.mk hc1
 clear hr1 hc1
 have HB:=Aside0.mk (Below.refl w.heap.size w)
 have H : (if (l0.length : Int) = (l1.length : Int) then (laws_eqClauseS.l0 k l0 l1 0) else (some false)) = some r:=h
 clear h
 by_cases c3 : (l0.length : Int) = (l1.length : Int)
 ·rw [if_pos c3] at H
  have c3b0 : ((l0.length : Int) == (l1.length : Int)) = true:=beq_iff_eq.mpr c3
  have c3b1 : ((l0.length : Int) != (l1.length : Int)) = false:=bne_eq_false_iff_eq.mpr c3
  have c3b2 : (l0.length == l1.length) = true:=by first|simpa using c3|(simp at c3 ⊢;omega)
  clear c3
  have H':=Aside0.mk H
  clear H
  go_enter Tryd.func30,Tryd.ntmps30
  go_wp2
  go_loopg [5] k (fun kq v5 w' => ∃ (x5_1 : Int),v5 = .int .i64 x5_1 ∧ Aside0 (laws_eqClauseS.l0 kq l0 l1 x5_1 = some r) ∧ Aside0 (kq ≤ k) ∧ Aside0 (Below w.heap.size w w'))
  case atStart => exact ⟨(0),(by first|rfl|(simp;done)|(simp [*];done)),H',⟨Nat.le_refl _⟩,⟨by repeat (first|(with_reducible first|exact HB.out|apply below_alloc|apply pw_below_drewN|apply below_drew1)|exact HB.out)⟩⟩
  case round =>
   clear H'
   try clear c1
   try clear c3
   try clear c3b0
   try clear c3b1
   try clear c3b2
   obtain ⟨x5_1,rfl,HA,HK1,HB⟩:=hrel
   cases gk with
   | zero => exact absurd HA.out (by simp [laws_eqClauseS.l0])
   | succ k1 =>
    have H:=HA.out
    clear HA
    simp only [laws_eqClauseS.l0] at H
    by_cases c4 : x5_1 < (l0.length : Int)
    ·rw [if_pos c4] at H
     have c4b0 : decide (x5_1 < (l0.length : Int)) = true:=decide_eq_true c4
     clear c4
     by_cases c5 : 0 ≤ x5_1
     rotate_left
     ·rw [if_neg c5] at H
      exact absurd H (by simp)
     rw [if_pos c5] at H
     have c5b0 : decide (0 ≤ x5_1) = true:=decide_eq_true c5
     clear c5
     by_cases c6 : x5_1 < (l1.length : Int)
     rotate_left
     ·rw [if_neg c6] at H
      exact absurd H (by simp)
     rw [if_pos c6] at H
     have c6b0 : decide (x5_1 < (l1.length : Int)) = true:=decide_eq_true c6
     clear c6
     replace H:=Option.bind_eq_some_iff.mp H
     obtain ⟨t190,A70,H⟩:=H
     replace H : (if t190 = true then (laws_eqClauseS.l0 k1 l0 l1 (wrap64 (x5_1 + 1))) else (some false)) = some r:=H
     have A7:=Aside0.mk A70
     clear A70
     by_cases c8 : t190 = true
     ·subst c8
      have H1 : (laws_eqClauseS.l0 k1 l0 l1 (wrap64 (x5_1 + 1))) = some r:=by rw [if_pos rfl] at H;exact H
      clear H
      have H:=H1
      clear H1
      have H':=Aside0.mk H
      clear H
      try go_wp2
      have n0_:=Aside0.mk (below_drew1 HB.out)
      clear HB
      have HB:=n0_
      clear n0_
      have p188 : 0 ≤ (x5_1 : Int):=of_decide_eq_true (by first|(with_reducible assumption)|assumption)
      have q188 : x5_1 < (l0.length : Int):=of_decide_eq_true (by first|(with_reducible assumption)|assumption)
      obtain ⟨ad188,A188_3,c188_3,A188_7,c188_7,e188,hx188_0,hx188_1,hx188_2,hx188_3,hx188_4,hx188_5,hx188_6,hx188_7,hx188_8,hl188_3,hi188_3,hl188_7,hi188_7⟩:=at_T48 HR0.out x5_1 p188 q188
      have hw188_8:=hx188_8
      have hw188_7:=hx188_7
      have hw188_6:=hx188_6
      have hw188_5:=hx188_5
      have hw188_4:=hx188_4
      have hw188_3:=hx188_3
      have hw188_2:=hx188_2
      have hw188_1:=hx188_1
      have hw188_0:=hx188_0
      cases e188
      replace hx188_0:=(HB.out.cell (World.block_lt_of_cell? w _ hx188_0)).trans hx188_0
      replace hx188_1:=(HB.out.cell (World.block_lt_of_cell? w _ hx188_1)).trans hx188_1
      replace hx188_2:=(HB.out.cell (World.block_lt_of_cell? w _ hx188_2)).trans hx188_2
      replace hx188_3:=(HB.out.cell (World.block_lt_of_cell? w _ hx188_3)).trans hx188_3
      replace hx188_4:=(HB.out.cell (World.block_lt_of_cell? w _ hx188_4)).trans hx188_4
      replace hx188_5:=(HB.out.cell (World.block_lt_of_cell? w _ hx188_5)).trans hx188_5
      replace hx188_6:=(HB.out.cell (World.block_lt_of_cell? w _ hx188_6)).trans hx188_6
      replace hx188_7:=(HB.out.cell (World.block_lt_of_cell? w _ hx188_7)).trans hx188_7
      replace hx188_8:=(HB.out.cell (World.block_lt_of_cell? w _ hx188_8)).trans hx188_8
      have HR188_3:=Aside0.mk hi188_3
      have HC188_3:=Aside0.mk hl188_3
      clear hi188_3 hl188_3
      have HR188_7:=Aside0.mk hi188_7
      have HC188_7:=Aside0.mk hl188_7
      clear hi188_7 hl188_7
      replace p188:=eq_true p188
      replace q188:=eq_true q188
      have p189 : 0 ≤ (x5_1 : Int):=of_decide_eq_true (by first|(with_reducible assumption)|assumption)
      have q189 : x5_1 < (l1.length : Int):=of_decide_eq_true (by first|(with_reducible assumption)|assumption)
      obtain ⟨ad189,A189_3,c189_3,A189_7,c189_7,e189,hx189_0,hx189_1,hx189_2,hx189_3,hx189_4,hx189_5,hx189_6,hx189_7,hx189_8,hl189_3,hi189_3,hl189_7,hi189_7⟩:=at_T48 HR1.out x5_1 p189 q189
      have hw189_8:=hx189_8
      have hw189_7:=hx189_7
      have hw189_6:=hx189_6
      have hw189_5:=hx189_5
      have hw189_4:=hx189_4
      have hw189_3:=hx189_3
      have hw189_2:=hx189_2
      have hw189_1:=hx189_1
      have hw189_0:=hx189_0
      cases e189
      replace hx189_0:=(HB.out.cell (World.block_lt_of_cell? w _ hx189_0)).trans hx189_0
      replace hx189_1:=(HB.out.cell (World.block_lt_of_cell? w _ hx189_1)).trans hx189_1
      replace hx189_2:=(HB.out.cell (World.block_lt_of_cell? w _ hx189_2)).trans hx189_2
      replace hx189_3:=(HB.out.cell (World.block_lt_of_cell? w _ hx189_3)).trans hx189_3
      replace hx189_4:=(HB.out.cell (World.block_lt_of_cell? w _ hx189_4)).trans hx189_4
      replace hx189_5:=(HB.out.cell (World.block_lt_of_cell? w _ hx189_5)).trans hx189_5
      replace hx189_6:=(HB.out.cell (World.block_lt_of_cell? w _ hx189_6)).trans hx189_6
      replace hx189_7:=(HB.out.cell (World.block_lt_of_cell? w _ hx189_7)).trans hx189_7
      replace hx189_8:=(HB.out.cell (World.block_lt_of_cell? w _ hx189_8)).trans hx189_8
      have HR189_3:=Aside0.mk hi189_3
      have HC189_3:=Aside0.mk hl189_3
      clear hi189_3 hl189_3
      have HR189_7:=Aside0.mk hi189_7
      have HC189_7:=Aside0.mk hl189_7
      clear hi189_7 hl189_7
      replace p189:=eq_true p189
      replace q189:=eq_true q189
      refine start_ (n:=10) (S:=fun w' => w'.cell? (ad188.add ((x5_1).toNat * 9)) = some (.int .i64 ((rd_T48 l0 x5_1).f0.f0)) ∧ w'.cell? ⟨(ad188.add ((x5_1).toNat * 9)).block,(ad188.add ((x5_1).toNat * 9)).off + 1,none⟩ = some (.string ((rd_T48 l0 x5_1).f0.f1)) ∧ w'.cell? ⟨(ad188.add ((x5_1).toNat * 9)).block,(ad188.add ((x5_1).toNat * 9)).off + 2,none⟩ = some (.int .i64 ((rd_T48 l0 x5_1).f0.f2)) ∧ w'.cell? ⟨(ad188.add ((x5_1).toNat * 9)).block,(ad188.add ((x5_1).toNat * 9)).off + 3,none⟩ = some (.slice A188_3 ((rd_T48 l0 x5_1).f0.f3).length c188_3) ∧ w'.cell? ⟨(ad188.add ((x5_1).toNat * 9)).block,(ad188.add ((x5_1).toNat * 9)).off + 4,none⟩ = some (.int .i64 ((rd_T48 l0 x5_1).f1.f0)) ∧ w'.cell? ⟨(ad188.add ((x5_1).toNat * 9)).block,(ad188.add ((x5_1).toNat * 9)).off + 5,none⟩ = some (.string ((rd_T48 l0 x5_1).f1.f1)) ∧ w'.cell? ⟨(ad188.add ((x5_1).toNat * 9)).block,(ad188.add ((x5_1).toNat * 9)).off + 6,none⟩ = some (.int .i64 ((rd_T48 l0 x5_1).f1.f2)) ∧ w'.cell? ⟨(ad188.add ((x5_1).toNat * 9)).block,(ad188.add ((x5_1).toNat * 9)).off + 7,none⟩ = some (.slice A188_7 ((rd_T48 l0 x5_1).f1.f3).length c188_7) ∧ w'.cell? ⟨(ad188.add ((x5_1).toNat * 9)).block,(ad188.add ((x5_1).toNat * 9)).off + 8,none⟩ = some (.string ((rd_T48 l0 x5_1).f2)) ∧ w'.cell? (ad189.add ((x5_1).toNat * 9)) = some (.int .i64 ((rd_T48 l1 x5_1).f0.f0)) ∧ w'.cell? ⟨(ad189.add ((x5_1).toNat * 9)).block,(ad189.add ((x5_1).toNat * 9)).off + 1,none⟩ = some (.string ((rd_T48 l1 x5_1).f0.f1)) ∧ w'.cell? ⟨(ad189.add ((x5_1).toNat * 9)).block,(ad189.add ((x5_1).toNat * 9)).off + 2,none⟩ = some (.int .i64 ((rd_T48 l1 x5_1).f0.f2)) ∧ w'.cell? ⟨(ad189.add ((x5_1).toNat * 9)).block,(ad189.add ((x5_1).toNat * 9)).off + 3,none⟩ = some (.slice A189_3 ((rd_T48 l1 x5_1).f0.f3).length c189_3) ∧ w'.cell? ⟨(ad189.add ((x5_1).toNat * 9)).block,(ad189.add ((x5_1).toNat * 9)).off + 4,none⟩ = some (.int .i64 ((rd_T48 l1 x5_1).f1.f0)) ∧ w'.cell? ⟨(ad189.add ((x5_1).toNat * 9)).block,(ad189.add ((x5_1).toNat * 9)).off + 5,none⟩ = some (.string ((rd_T48 l1 x5_1).f1.f1)) ∧ w'.cell? ⟨(ad189.add ((x5_1).toNat * 9)).block,(ad189.add ((x5_1).toNat * 9)).off + 6,none⟩ = some (.int .i64 ((rd_T48 l1 x5_1).f1.f2)) ∧ w'.cell? ⟨(ad189.add ((x5_1).toNat * 9)).block,(ad189.add ((x5_1).toNat * 9)).off + 7,none⟩ = some (.slice A189_7 ((rd_T48 l1 x5_1).f1.f3).length c189_7) ∧ w'.cell? ⟨(ad189.add ((x5_1).toNat * 9)).block,(ad189.add ((x5_1).toNat * 9)).off + 8,none⟩ = some (.string ((rd_T48 l1 x5_1).f2))) (ds:=[]) #[false,false,false,false,false,false,false,false,false,false] (by kernel_rfl) rfl rfl ⟨((HB.out.cell (World.block_lt_of_cell? w _ hw188_0)).trans hw188_0),((HB.out.cell (World.block_lt_of_cell? w _ hw188_1)).trans hw188_1),((HB.out.cell (World.block_lt_of_cell? w _ hw188_2)).trans hw188_2),((HB.out.cell (World.block_lt_of_cell? w _ hw188_3)).trans hw188_3),((HB.out.cell (World.block_lt_of_cell? w _ hw188_4)).trans hw188_4),((HB.out.cell (World.block_lt_of_cell? w _ hw188_5)).trans hw188_5),((HB.out.cell (World.block_lt_of_cell? w _ hw188_6)).trans hw188_6),((HB.out.cell (World.block_lt_of_cell? w _ hw188_7)).trans hw188_7),((HB.out.cell (World.block_lt_of_cell? w _ hw188_8)).trans hw188_8),((HB.out.cell (World.block_lt_of_cell? w _ hw189_0)).trans hw189_0),((HB.out.cell (World.block_lt_of_cell? w _ hw189_1)).trans hw189_1),((HB.out.cell (World.block_lt_of_cell? w _ hw189_2)).trans hw189_2),((HB.out.cell (World.block_lt_of_cell? w _ hw189_3)).trans hw189_3),((HB.out.cell (World.block_lt_of_cell? w _ hw189_4)).trans hw189_4),((HB.out.cell (World.block_lt_of_cell? w _ hw189_5)).trans hw189_5),((HB.out.cell (World.block_lt_of_cell? w _ hw189_6)).trans hw189_6),((HB.out.cell (World.block_lt_of_cell? w _ hw189_7)).trans hw189_7),((HB.out.cell (World.block_lt_of_cell? w _ hw189_8)).trans hw189_8)⟩ (fun hHeld => ?_);refine with_tabW laws_eqClauseS.tab6 laws_eqClauseS.bits6 (fun HT_ HW_ => ?_)
      generalize wr.drew = w9 at HB HR188_3 HR188_7 HR189_3 HR189_7 hx188_0 hx188_1 hx188_2 hx188_3 hx188_4 hx188_5 hx188_6 hx188_7 hx188_8 hx189_0 hx189_1 hx189_2 hx189_3 hx189_4 hx189_5 hx189_6 hx189_7 hx189_8 hHeld ⊢
      refine pure_ (i:=0) (N:=some 17) (v:=?_) (a':=?_) #[true,false,false,false,false,false,false,false,false,false] rfl rfl (any_of HT_.out (by kernel_rfl)) (fun _ _ _ h => h) (Or.inl ⟨by rfl,?_⟩) ?_ ?_
      rotate_left
      ·intro w'
       go_simp
       with_reducible rfl
      rotate_left
      ·simp only [Act.put,List.setIfInBounds_toArray,List.set_cons_zero,List.set_cons_succ,i64_w,i32_w]
       rfl
      refine pure_ (i:=1) (N:=some 18) (v:=?_) (a':=?_) #[true,true,false,false,false,false,false,false,false,false] rfl rfl (any_of HT_.out (by kernel_rfl)) (fun _ _ _ h => h) (Or.inl ⟨by rfl,?_⟩) ?_ ?_
      rotate_left
      ·intro w'
       go_simp
       with_reducible rfl
      rotate_left
      ·simp only [Act.put,List.setIfInBounds_toArray,List.set_cons_zero,List.set_cons_succ,i64_w,i32_w]
       rfl
      refine pure_ (i:=2) (N:=some 19) (v:=?_) (a':=?_) #[true,true,true,false,false,false,false,false,false,false] rfl rfl (any_of HT_.out (by kernel_rfl)) (fun _ _ _ h => h) (Or.inl ⟨by rfl,?_⟩) ?_ ?_
      rotate_left
      ·intro w'
       go_simp
       with_reducible rfl
      rotate_left
      ·simp only [Act.put,List.setIfInBounds_toArray,List.set_cons_zero,List.set_cons_succ,i64_w,i32_w]
       rfl
      refine pure_ (i:=4) (N:=some 21) (v:=?_) (a':=?_) #[true,true,true,false,true,false,false,false,false,false] rfl rfl (any_of HT_.out (by kernel_rfl)) (fun _ _ _ h => h) (Or.inl ⟨by rfl,?_⟩) ?_ ?_
      rotate_left
      ·intro w'
       go_simp
       with_reducible rfl
      rotate_left
      ·simp only [Act.put,List.setIfInBounds_toArray,List.set_cons_zero,List.set_cons_succ,i64_w,i32_w]
       rfl
      refine pure_ (i:=5) (N:=some 22) (v:=?_) (a':=?_) #[true,true,true,false,true,true,false,false,false,false] rfl rfl (any_of HT_.out (by kernel_rfl)) (fun _ _ _ h => h) (Or.inl ⟨by rfl,?_⟩) ?_ ?_
      rotate_left
      ·intro w'
       go_simp
       with_reducible rfl
      rotate_left
      ·simp only [Act.put,List.setIfInBounds_toArray,List.set_cons_zero,List.set_cons_succ,i64_w,i32_w]
       rfl
      refine pure_ (i:=6) (N:=some 23) (v:=?_) (a':=?_) #[true,true,true,false,true,true,true,false,false,false] rfl rfl (any_of HT_.out (by kernel_rfl)) (fun _ _ _ h => h) (Or.inl ⟨by rfl,?_⟩) ?_ ?_
      rotate_left
      ·intro w'
       go_simp
       with_reducible rfl
      rotate_left
      ·simp only [Act.put,List.setIfInBounds_toArray,List.set_cons_zero,List.set_cons_succ,i64_w,i32_w]
       rfl
      refine take_ (i:=3) (N:=some 20) (v:=?_) (a':=?_) #[true,true,true,true,true,true,true,false,false,false] rfl rfl (take_ofW HT_.out HW_.out (by kernel_rfl)) (fun _ _ _ h => h) (Or.inl ⟨by rfl,?_⟩) hHeld ?_ ?_
      rotate_left
      ·rintro w' ⟨s0,s1,s2,s3,s4,s5,s6,s7,s8,s9,s10,s11,s12,s13,s14,s15,s16,s17⟩
       go_simp
       with_reducible rfl
      rotate_left
      ·simp only [Act.put,List.setIfInBounds_toArray,List.set_cons_zero,List.set_cons_succ,i64_w,i32_w]
       rfl
      refine take_ (i:=7) (N:=some 24) (v:=?_) (a':=?_) #[true,true,true,true,true,true,true,true,false,false] rfl rfl (take_ofW HT_.out HW_.out (by kernel_rfl)) (fun _ _ _ h => h) (Or.inl ⟨by rfl,?_⟩) hHeld ?_ ?_
      rotate_left
      ·rintro w' ⟨s0,s1,s2,s3,s4,s5,s6,s7,s8,s9,s10,s11,s12,s13,s14,s15,s16,s17⟩
       go_simp
       with_reducible rfl
      rotate_left
      ·simp only [Act.put,List.setIfInBounds_toArray,List.set_cons_zero,List.set_cons_succ,i64_w,i32_w]
       rfl
      refine one_ (i:=8) (N:=some 25) #[true,true,true,true,true,true,true,true,true,false] rfl rfl (one_of HT_.out (by kernel_rfl)) (by decide) (fun K hK => ?_)
      refine goes_ Tryd.func24 (by kernel_rfl) rfl #[.agg #[.int .i64 ((rd_T48 l0 x5_1).f0.f0),.string ((rd_T48 l0 x5_1).f0.f1),.int .i64 ((rd_T48 l0 x5_1).f0.f2),.slice A188_3 ((rd_T48 l0 x5_1).f0.f3).length c188_3,.int .i64 ((rd_T48 l0 x5_1).f1.f0),.string ((rd_T48 l0 x5_1).f1.f1),.int .i64 ((rd_T48 l0 x5_1).f1.f2),.slice A188_7 ((rd_T48 l0 x5_1).f1.f3).length c188_7,.string ((rd_T48 l0 x5_1).f2)],.agg #[.int .i64 ((rd_T48 l1 x5_1).f0.f0),.string ((rd_T48 l1 x5_1).f0.f1),.int .i64 ((rd_T48 l1 x5_1).f0.f2),.slice A189_3 ((rd_T48 l1 x5_1).f0.f3).length c189_3,.int .i64 ((rd_T48 l1 x5_1).f1.f0),.string ((rd_T48 l1 x5_1).f1.f1),.int .i64 ((rd_T48 l1 x5_1).f1.f2),.slice A189_7 ((rd_T48 l1 x5_1).f1.f3).length c189_7,.string ((rd_T48 l1 x5_1).f2)]] (by rfl) rfl rfl (by (try simp only [List.map_toArray,List.map_cons,List.map_nil]);first|done|rfl|(simp only [List.length_drop,List.length_take];rfl)) ?_
      with_reducible refine (laws_eqClause.calls k1 ((rd_T48 l0 x5_1).f0.f0) ((rd_T48 l0 x5_1).f0.f1) ((rd_T48 l0 x5_1).f0.f2) _ _ ((rd_T48 l0 x5_1).f0.f3) ((rd_T48 l0 x5_1).f1.f0) ((rd_T48 l0 x5_1).f1.f1) ((rd_T48 l0 x5_1).f1.f2) _ _ ((rd_T48 l0 x5_1).f1.f3) ((rd_T48 l0 x5_1).f2) ((rd_T48 l1 x5_1).f0.f0) ((rd_T48 l1 x5_1).f0.f1) ((rd_T48 l1 x5_1).f0.f2) _ _ ((rd_T48 l1 x5_1).f0.f3) ((rd_T48 l1 x5_1).f1.f0) ((rd_T48 l1 x5_1).f1.f1) ((rd_T48 l1 x5_1).f1.f2) _ _ ((rd_T48 l1 x5_1).f1.f3) ((rd_T48 l1 x5_1).f2) true _ ?side1 ?side2 ?side3 ?side4 ?side5 ?side6 ?side7 ?side8 A7.out).mono ?_
      (case side1 => repeat (first|exact (Kd.C_below HR188_3.out HB.out)|(with_reducible refine Kd.C_alloc ?_ _)|(with_reducible refine Kd.C_drewN ?_ _)|(with_reducible refine Kd.C_drew ?_)))
      (case side2 => exact HC188_3.out)
      (case side3 => repeat (first|exact (Kd.C_below HR188_7.out HB.out)|(with_reducible refine Kd.C_alloc ?_ _)|(with_reducible refine Kd.C_drewN ?_ _)|(with_reducible refine Kd.C_drew ?_)))
      (case side4 => exact HC188_7.out)
      (case side5 => repeat (first|exact (Kd.C_below HR189_3.out HB.out)|(with_reducible refine Kd.C_alloc ?_ _)|(with_reducible refine Kd.C_drewN ?_ _)|(with_reducible refine Kd.C_drew ?_)))
      (case side6 => exact HC189_3.out)
      (case side7 => repeat (first|exact (Kd.C_below HR189_7.out HB.out)|(with_reducible refine Kd.C_alloc ?_ _)|(with_reducible refine Kd.C_drewN ?_ _)|(with_reducible refine Kd.C_drew ?_)))
      (case side8 => exact HC189_7.out)
      rintro e w10 ⟨rfl,hb⟩
      refine ⟨_,rfl,?_⟩
      have n0_:=Aside0.mk (below_step (by repeat (first|(with_reducible first|exact HB.out|apply below_alloc|apply pw_below_drewN|apply below_drew1)|exact HB.out)) hb)
      clear HB
      have HB:=n0_
      clear n0_
      (try clear hb)
      refine hK.out _ _ ⟨((HB.out.cell (World.block_lt_of_cell? w _ hw188_0)).trans hw188_0),((HB.out.cell (World.block_lt_of_cell? w _ hw188_1)).trans hw188_1),((HB.out.cell (World.block_lt_of_cell? w _ hw188_2)).trans hw188_2),((HB.out.cell (World.block_lt_of_cell? w _ hw188_3)).trans hw188_3),((HB.out.cell (World.block_lt_of_cell? w _ hw188_4)).trans hw188_4),((HB.out.cell (World.block_lt_of_cell? w _ hw188_5)).trans hw188_5),((HB.out.cell (World.block_lt_of_cell? w _ hw188_6)).trans hw188_6),((HB.out.cell (World.block_lt_of_cell? w _ hw188_7)).trans hw188_7),((HB.out.cell (World.block_lt_of_cell? w _ hw188_8)).trans hw188_8),((HB.out.cell (World.block_lt_of_cell? w _ hw189_0)).trans hw189_0),((HB.out.cell (World.block_lt_of_cell? w _ hw189_1)).trans hw189_1),((HB.out.cell (World.block_lt_of_cell? w _ hw189_2)).trans hw189_2),((HB.out.cell (World.block_lt_of_cell? w _ hw189_3)).trans hw189_3),((HB.out.cell (World.block_lt_of_cell? w _ hw189_4)).trans hw189_4),((HB.out.cell (World.block_lt_of_cell? w _ hw189_5)).trans hw189_5),((HB.out.cell (World.block_lt_of_cell? w _ hw189_6)).trans hw189_6),((HB.out.cell (World.block_lt_of_cell? w _ hw189_7)).trans hw189_7),((HB.out.cell (World.block_lt_of_cell? w _ hw189_8)).trans hw189_8)⟩ (fun hHeld => ?_)
      clear hK K
      refine norm_ (a':=?_) ?_ ?_
      rotate_left
      ·show Act.put _ (some 25) _ = _
       simp only [Act.put,List.setIfInBounds_toArray,List.set_cons_zero,List.set_cons_succ,i64_w,i32_w]
       rfl
      refine pure_ (i:=9) (N:=some 26) (v:=?_) (a':=?_) #[true,true,true,true,true,true,true,true,true,true] rfl rfl (any_of HT_.out (by kernel_rfl)) (fun _ _ _ h => h) (Or.inl ⟨by rfl,?_⟩) ?_ ?_
      rotate_left
      ·intro w'
       go_simp
       with_reducible rfl
      rotate_left
      ·simp only [Act.put,List.setIfInBounds_toArray,List.set_cons_zero,List.set_cons_succ,i64_w,i32_w]
       rfl
      refine done_ (done_of HT_.out (by kernel_rfl)) ?_
      try go_wp2
      go_roundg k1
      case measure => have:=HK1.out;omega
      case rel => exact ⟨(wrap64 (x5_1 + 1)),(by first|rfl|(simp;done)|(simp [*];done)),H',⟨by have:=HK1.out;omega⟩,⟨by repeat (first|(with_reducible first|exact HB.out|apply below_alloc|apply pw_below_drewN|apply below_drew1)|exact HB.out)⟩⟩
     ·replace c8:=Bool.eq_false_iff.mpr c8
      subst c8
      have H1 : (some false) = some r:=by rw [if_neg (show ¬ (false = true) by decide)] at H;exact H
      clear H
      have H:=H1
      clear H1
      obtain rfl:=Option.some.inj H
      try go_wp2
      have n0_:=Aside0.mk (below_drew1 HB.out)
      clear HB
      have HB:=n0_
      clear n0_
      have p188 : 0 ≤ (x5_1 : Int):=of_decide_eq_true (by first|(with_reducible assumption)|assumption)
      have q188 : x5_1 < (l0.length : Int):=of_decide_eq_true (by first|(with_reducible assumption)|assumption)
      obtain ⟨ad188,A188_3,c188_3,A188_7,c188_7,e188,hx188_0,hx188_1,hx188_2,hx188_3,hx188_4,hx188_5,hx188_6,hx188_7,hx188_8,hl188_3,hi188_3,hl188_7,hi188_7⟩:=at_T48 HR0.out x5_1 p188 q188
      have hw188_8:=hx188_8
      have hw188_7:=hx188_7
      have hw188_6:=hx188_6
      have hw188_5:=hx188_5
      have hw188_4:=hx188_4
      have hw188_3:=hx188_3
      have hw188_2:=hx188_2
      have hw188_1:=hx188_1
      have hw188_0:=hx188_0
      cases e188
      replace hx188_0:=(HB.out.cell (World.block_lt_of_cell? w _ hx188_0)).trans hx188_0
      replace hx188_1:=(HB.out.cell (World.block_lt_of_cell? w _ hx188_1)).trans hx188_1
      replace hx188_2:=(HB.out.cell (World.block_lt_of_cell? w _ hx188_2)).trans hx188_2
      replace hx188_3:=(HB.out.cell (World.block_lt_of_cell? w _ hx188_3)).trans hx188_3
      replace hx188_4:=(HB.out.cell (World.block_lt_of_cell? w _ hx188_4)).trans hx188_4
      replace hx188_5:=(HB.out.cell (World.block_lt_of_cell? w _ hx188_5)).trans hx188_5
      replace hx188_6:=(HB.out.cell (World.block_lt_of_cell? w _ hx188_6)).trans hx188_6
      replace hx188_7:=(HB.out.cell (World.block_lt_of_cell? w _ hx188_7)).trans hx188_7
      replace hx188_8:=(HB.out.cell (World.block_lt_of_cell? w _ hx188_8)).trans hx188_8
      have HR188_3:=Aside0.mk hi188_3
      have HC188_3:=Aside0.mk hl188_3
      clear hi188_3 hl188_3
      have HR188_7:=Aside0.mk hi188_7
      have HC188_7:=Aside0.mk hl188_7
      clear hi188_7 hl188_7
      replace p188:=eq_true p188
      replace q188:=eq_true q188
      have p189 : 0 ≤ (x5_1 : Int):=of_decide_eq_true (by first|(with_reducible assumption)|assumption)
      have q189 : x5_1 < (l1.length : Int):=of_decide_eq_true (by first|(with_reducible assumption)|assumption)
      obtain ⟨ad189,A189_3,c189_3,A189_7,c189_7,e189,hx189_0,hx189_1,hx189_2,hx189_3,hx189_4,hx189_5,hx189_6,hx189_7,hx189_8,hl189_3,hi189_3,hl189_7,hi189_7⟩:=at_T48 HR1.out x5_1 p189 q189
      have hw189_8:=hx189_8
      have hw189_7:=hx189_7
      have hw189_6:=hx189_6
      have hw189_5:=hx189_5
      have hw189_4:=hx189_4
      have hw189_3:=hx189_3
      have hw189_2:=hx189_2
      have hw189_1:=hx189_1
      have hw189_0:=hx189_0
      cases e189
      replace hx189_0:=(HB.out.cell (World.block_lt_of_cell? w _ hx189_0)).trans hx189_0
      replace hx189_1:=(HB.out.cell (World.block_lt_of_cell? w _ hx189_1)).trans hx189_1
      replace hx189_2:=(HB.out.cell (World.block_lt_of_cell? w _ hx189_2)).trans hx189_2
      replace hx189_3:=(HB.out.cell (World.block_lt_of_cell? w _ hx189_3)).trans hx189_3
      replace hx189_4:=(HB.out.cell (World.block_lt_of_cell? w _ hx189_4)).trans hx189_4
      replace hx189_5:=(HB.out.cell (World.block_lt_of_cell? w _ hx189_5)).trans hx189_5
      replace hx189_6:=(HB.out.cell (World.block_lt_of_cell? w _ hx189_6)).trans hx189_6
      replace hx189_7:=(HB.out.cell (World.block_lt_of_cell? w _ hx189_7)).trans hx189_7
      replace hx189_8:=(HB.out.cell (World.block_lt_of_cell? w _ hx189_8)).trans hx189_8
      have HR189_3:=Aside0.mk hi189_3
      have HC189_3:=Aside0.mk hl189_3
      clear hi189_3 hl189_3
      have HR189_7:=Aside0.mk hi189_7
      have HC189_7:=Aside0.mk hl189_7
      clear hi189_7 hl189_7
      replace p189:=eq_true p189
      replace q189:=eq_true q189
      refine start_ (n:=10) (S:=fun w' => w'.cell? (ad188.add ((x5_1).toNat * 9)) = some (.int .i64 ((rd_T48 l0 x5_1).f0.f0)) ∧ w'.cell? ⟨(ad188.add ((x5_1).toNat * 9)).block,(ad188.add ((x5_1).toNat * 9)).off + 1,none⟩ = some (.string ((rd_T48 l0 x5_1).f0.f1)) ∧ w'.cell? ⟨(ad188.add ((x5_1).toNat * 9)).block,(ad188.add ((x5_1).toNat * 9)).off + 2,none⟩ = some (.int .i64 ((rd_T48 l0 x5_1).f0.f2)) ∧ w'.cell? ⟨(ad188.add ((x5_1).toNat * 9)).block,(ad188.add ((x5_1).toNat * 9)).off + 3,none⟩ = some (.slice A188_3 ((rd_T48 l0 x5_1).f0.f3).length c188_3) ∧ w'.cell? ⟨(ad188.add ((x5_1).toNat * 9)).block,(ad188.add ((x5_1).toNat * 9)).off + 4,none⟩ = some (.int .i64 ((rd_T48 l0 x5_1).f1.f0)) ∧ w'.cell? ⟨(ad188.add ((x5_1).toNat * 9)).block,(ad188.add ((x5_1).toNat * 9)).off + 5,none⟩ = some (.string ((rd_T48 l0 x5_1).f1.f1)) ∧ w'.cell? ⟨(ad188.add ((x5_1).toNat * 9)).block,(ad188.add ((x5_1).toNat * 9)).off + 6,none⟩ = some (.int .i64 ((rd_T48 l0 x5_1).f1.f2)) ∧ w'.cell? ⟨(ad188.add ((x5_1).toNat * 9)).block,(ad188.add ((x5_1).toNat * 9)).off + 7,none⟩ = some (.slice A188_7 ((rd_T48 l0 x5_1).f1.f3).length c188_7) ∧ w'.cell? ⟨(ad188.add ((x5_1).toNat * 9)).block,(ad188.add ((x5_1).toNat * 9)).off + 8,none⟩ = some (.string ((rd_T48 l0 x5_1).f2)) ∧ w'.cell? (ad189.add ((x5_1).toNat * 9)) = some (.int .i64 ((rd_T48 l1 x5_1).f0.f0)) ∧ w'.cell? ⟨(ad189.add ((x5_1).toNat * 9)).block,(ad189.add ((x5_1).toNat * 9)).off + 1,none⟩ = some (.string ((rd_T48 l1 x5_1).f0.f1)) ∧ w'.cell? ⟨(ad189.add ((x5_1).toNat * 9)).block,(ad189.add ((x5_1).toNat * 9)).off + 2,none⟩ = some (.int .i64 ((rd_T48 l1 x5_1).f0.f2)) ∧ w'.cell? ⟨(ad189.add ((x5_1).toNat * 9)).block,(ad189.add ((x5_1).toNat * 9)).off + 3,none⟩ = some (.slice A189_3 ((rd_T48 l1 x5_1).f0.f3).length c189_3) ∧ w'.cell? ⟨(ad189.add ((x5_1).toNat * 9)).block,(ad189.add ((x5_1).toNat * 9)).off + 4,none⟩ = some (.int .i64 ((rd_T48 l1 x5_1).f1.f0)) ∧ w'.cell? ⟨(ad189.add ((x5_1).toNat * 9)).block,(ad189.add ((x5_1).toNat * 9)).off + 5,none⟩ = some (.string ((rd_T48 l1 x5_1).f1.f1)) ∧ w'.cell? ⟨(ad189.add ((x5_1).toNat * 9)).block,(ad189.add ((x5_1).toNat * 9)).off + 6,none⟩ = some (.int .i64 ((rd_T48 l1 x5_1).f1.f2)) ∧ w'.cell? ⟨(ad189.add ((x5_1).toNat * 9)).block,(ad189.add ((x5_1).toNat * 9)).off + 7,none⟩ = some (.slice A189_7 ((rd_T48 l1 x5_1).f1.f3).length c189_7) ∧ w'.cell? ⟨(ad189.add ((x5_1).toNat * 9)).block,(ad189.add ((x5_1).toNat * 9)).off + 8,none⟩ = some (.string ((rd_T48 l1 x5_1).f2))) (ds:=[]) #[false,false,false,false,false,false,false,false,false,false] (by kernel_rfl) rfl rfl ⟨((HB.out.cell (World.block_lt_of_cell? w _ hw188_0)).trans hw188_0),((HB.out.cell (World.block_lt_of_cell? w _ hw188_1)).trans hw188_1),((HB.out.cell (World.block_lt_of_cell? w _ hw188_2)).trans hw188_2),((HB.out.cell (World.block_lt_of_cell? w _ hw188_3)).trans hw188_3),((HB.out.cell (World.block_lt_of_cell? w _ hw188_4)).trans hw188_4),((HB.out.cell (World.block_lt_of_cell? w _ hw188_5)).trans hw188_5),((HB.out.cell (World.block_lt_of_cell? w _ hw188_6)).trans hw188_6),((HB.out.cell (World.block_lt_of_cell? w _ hw188_7)).trans hw188_7),((HB.out.cell (World.block_lt_of_cell? w _ hw188_8)).trans hw188_8),((HB.out.cell (World.block_lt_of_cell? w _ hw189_0)).trans hw189_0),((HB.out.cell (World.block_lt_of_cell? w _ hw189_1)).trans hw189_1),((HB.out.cell (World.block_lt_of_cell? w _ hw189_2)).trans hw189_2),((HB.out.cell (World.block_lt_of_cell? w _ hw189_3)).trans hw189_3),((HB.out.cell (World.block_lt_of_cell? w _ hw189_4)).trans hw189_4),((HB.out.cell (World.block_lt_of_cell? w _ hw189_5)).trans hw189_5),((HB.out.cell (World.block_lt_of_cell? w _ hw189_6)).trans hw189_6),((HB.out.cell (World.block_lt_of_cell? w _ hw189_7)).trans hw189_7),((HB.out.cell (World.block_lt_of_cell? w _ hw189_8)).trans hw189_8)⟩ (fun hHeld => ?_);refine with_tabW laws_eqClauseS.tab6 laws_eqClauseS.bits6 (fun HT_ HW_ => ?_)
      generalize wr.drew = w11 at HB HR188_3 HR188_7 HR189_3 HR189_7 hx188_0 hx188_1 hx188_2 hx188_3 hx188_4 hx188_5 hx188_6 hx188_7 hx188_8 hx189_0 hx189_1 hx189_2 hx189_3 hx189_4 hx189_5 hx189_6 hx189_7 hx189_8 hHeld ⊢
      refine pure_ (i:=0) (N:=some 17) (v:=?_) (a':=?_) #[true,false,false,false,false,false,false,false,false,false] rfl rfl (any_of HT_.out (by kernel_rfl)) (fun _ _ _ h => h) (Or.inl ⟨by rfl,?_⟩) ?_ ?_
      rotate_left
      ·intro w'
       go_simp
       with_reducible rfl
      rotate_left
      ·simp only [Act.put,List.setIfInBounds_toArray,List.set_cons_zero,List.set_cons_succ,i64_w,i32_w]
       rfl
      refine pure_ (i:=1) (N:=some 18) (v:=?_) (a':=?_) #[true,true,false,false,false,false,false,false,false,false] rfl rfl (any_of HT_.out (by kernel_rfl)) (fun _ _ _ h => h) (Or.inl ⟨by rfl,?_⟩) ?_ ?_
      rotate_left
      ·intro w'
       go_simp
       with_reducible rfl
      rotate_left
      ·simp only [Act.put,List.setIfInBounds_toArray,List.set_cons_zero,List.set_cons_succ,i64_w,i32_w]
       rfl
      refine pure_ (i:=2) (N:=some 19) (v:=?_) (a':=?_) #[true,true,true,false,false,false,false,false,false,false] rfl rfl (any_of HT_.out (by kernel_rfl)) (fun _ _ _ h => h) (Or.inl ⟨by rfl,?_⟩) ?_ ?_
      rotate_left
      ·intro w'
       go_simp
       with_reducible rfl
      rotate_left
      ·simp only [Act.put,List.setIfInBounds_toArray,List.set_cons_zero,List.set_cons_succ,i64_w,i32_w]
       rfl
      refine pure_ (i:=4) (N:=some 21) (v:=?_) (a':=?_) #[true,true,true,false,true,false,false,false,false,false] rfl rfl (any_of HT_.out (by kernel_rfl)) (fun _ _ _ h => h) (Or.inl ⟨by rfl,?_⟩) ?_ ?_
      rotate_left
      ·intro w'
       go_simp
       with_reducible rfl
      rotate_left
      ·simp only [Act.put,List.setIfInBounds_toArray,List.set_cons_zero,List.set_cons_succ,i64_w,i32_w]
       rfl
      refine pure_ (i:=5) (N:=some 22) (v:=?_) (a':=?_) #[true,true,true,false,true,true,false,false,false,false] rfl rfl (any_of HT_.out (by kernel_rfl)) (fun _ _ _ h => h) (Or.inl ⟨by rfl,?_⟩) ?_ ?_
      rotate_left
      ·intro w'
       go_simp
       with_reducible rfl
      rotate_left
      ·simp only [Act.put,List.setIfInBounds_toArray,List.set_cons_zero,List.set_cons_succ,i64_w,i32_w]
       rfl
      refine pure_ (i:=6) (N:=some 23) (v:=?_) (a':=?_) #[true,true,true,false,true,true,true,false,false,false] rfl rfl (any_of HT_.out (by kernel_rfl)) (fun _ _ _ h => h) (Or.inl ⟨by rfl,?_⟩) ?_ ?_
      rotate_left
      ·intro w'
       go_simp
       with_reducible rfl
      rotate_left
      ·simp only [Act.put,List.setIfInBounds_toArray,List.set_cons_zero,List.set_cons_succ,i64_w,i32_w]
       rfl
      refine take_ (i:=3) (N:=some 20) (v:=?_) (a':=?_) #[true,true,true,true,true,true,true,false,false,false] rfl rfl (take_ofW HT_.out HW_.out (by kernel_rfl)) (fun _ _ _ h => h) (Or.inl ⟨by rfl,?_⟩) hHeld ?_ ?_
      rotate_left
      ·rintro w' ⟨s0,s1,s2,s3,s4,s5,s6,s7,s8,s9,s10,s11,s12,s13,s14,s15,s16,s17⟩
       go_simp
       with_reducible rfl
      rotate_left
      ·simp only [Act.put,List.setIfInBounds_toArray,List.set_cons_zero,List.set_cons_succ,i64_w,i32_w]
       rfl
      refine take_ (i:=7) (N:=some 24) (v:=?_) (a':=?_) #[true,true,true,true,true,true,true,true,false,false] rfl rfl (take_ofW HT_.out HW_.out (by kernel_rfl)) (fun _ _ _ h => h) (Or.inl ⟨by rfl,?_⟩) hHeld ?_ ?_
      rotate_left
      ·rintro w' ⟨s0,s1,s2,s3,s4,s5,s6,s7,s8,s9,s10,s11,s12,s13,s14,s15,s16,s17⟩
       go_simp
       with_reducible rfl
      rotate_left
      ·simp only [Act.put,List.setIfInBounds_toArray,List.set_cons_zero,List.set_cons_succ,i64_w,i32_w]
       rfl
      refine one_ (i:=8) (N:=some 25) #[true,true,true,true,true,true,true,true,true,false] rfl rfl (one_of HT_.out (by kernel_rfl)) (by decide) (fun K hK => ?_)
      refine goes_ Tryd.func24 (by kernel_rfl) rfl #[.agg #[.int .i64 ((rd_T48 l0 x5_1).f0.f0),.string ((rd_T48 l0 x5_1).f0.f1),.int .i64 ((rd_T48 l0 x5_1).f0.f2),.slice A188_3 ((rd_T48 l0 x5_1).f0.f3).length c188_3,.int .i64 ((rd_T48 l0 x5_1).f1.f0),.string ((rd_T48 l0 x5_1).f1.f1),.int .i64 ((rd_T48 l0 x5_1).f1.f2),.slice A188_7 ((rd_T48 l0 x5_1).f1.f3).length c188_7,.string ((rd_T48 l0 x5_1).f2)],.agg #[.int .i64 ((rd_T48 l1 x5_1).f0.f0),.string ((rd_T48 l1 x5_1).f0.f1),.int .i64 ((rd_T48 l1 x5_1).f0.f2),.slice A189_3 ((rd_T48 l1 x5_1).f0.f3).length c189_3,.int .i64 ((rd_T48 l1 x5_1).f1.f0),.string ((rd_T48 l1 x5_1).f1.f1),.int .i64 ((rd_T48 l1 x5_1).f1.f2),.slice A189_7 ((rd_T48 l1 x5_1).f1.f3).length c189_7,.string ((rd_T48 l1 x5_1).f2)]] (by rfl) rfl rfl (by (try simp only [List.map_toArray,List.map_cons,List.map_nil]);first|done|rfl|(simp only [List.length_drop,List.length_take];rfl)) ?_
      with_reducible refine (laws_eqClause.calls k1 ((rd_T48 l0 x5_1).f0.f0) ((rd_T48 l0 x5_1).f0.f1) ((rd_T48 l0 x5_1).f0.f2) _ _ ((rd_T48 l0 x5_1).f0.f3) ((rd_T48 l0 x5_1).f1.f0) ((rd_T48 l0 x5_1).f1.f1) ((rd_T48 l0 x5_1).f1.f2) _ _ ((rd_T48 l0 x5_1).f1.f3) ((rd_T48 l0 x5_1).f2) ((rd_T48 l1 x5_1).f0.f0) ((rd_T48 l1 x5_1).f0.f1) ((rd_T48 l1 x5_1).f0.f2) _ _ ((rd_T48 l1 x5_1).f0.f3) ((rd_T48 l1 x5_1).f1.f0) ((rd_T48 l1 x5_1).f1.f1) ((rd_T48 l1 x5_1).f1.f2) _ _ ((rd_T48 l1 x5_1).f1.f3) ((rd_T48 l1 x5_1).f2) false _ ?side1 ?side2 ?side3 ?side4 ?side5 ?side6 ?side7 ?side8 A7.out).mono ?_
      (case side1 => repeat (first|exact (Kd.C_below HR188_3.out HB.out)|(with_reducible refine Kd.C_alloc ?_ _)|(with_reducible refine Kd.C_drewN ?_ _)|(with_reducible refine Kd.C_drew ?_)))
      (case side2 => exact HC188_3.out)
      (case side3 => repeat (first|exact (Kd.C_below HR188_7.out HB.out)|(with_reducible refine Kd.C_alloc ?_ _)|(with_reducible refine Kd.C_drewN ?_ _)|(with_reducible refine Kd.C_drew ?_)))
      (case side4 => exact HC188_7.out)
      (case side5 => repeat (first|exact (Kd.C_below HR189_3.out HB.out)|(with_reducible refine Kd.C_alloc ?_ _)|(with_reducible refine Kd.C_drewN ?_ _)|(with_reducible refine Kd.C_drew ?_)))
      (case side6 => exact HC189_3.out)
      (case side7 => repeat (first|exact (Kd.C_below HR189_7.out HB.out)|(with_reducible refine Kd.C_alloc ?_ _)|(with_reducible refine Kd.C_drewN ?_ _)|(with_reducible refine Kd.C_drew ?_)))
      (case side8 => exact HC189_7.out)
      rintro e w12 ⟨rfl,hb⟩
      refine ⟨_,rfl,?_⟩
      have n0_:=Aside0.mk (below_step (by repeat (first|(with_reducible first|exact HB.out|apply below_alloc|apply pw_below_drewN|apply below_drew1)|exact HB.out)) hb)
      clear HB
      have HB:=n0_
      clear n0_
      (try clear hb)
      refine hK.out _ _ ⟨((HB.out.cell (World.block_lt_of_cell? w _ hw188_0)).trans hw188_0),((HB.out.cell (World.block_lt_of_cell? w _ hw188_1)).trans hw188_1),((HB.out.cell (World.block_lt_of_cell? w _ hw188_2)).trans hw188_2),((HB.out.cell (World.block_lt_of_cell? w _ hw188_3)).trans hw188_3),((HB.out.cell (World.block_lt_of_cell? w _ hw188_4)).trans hw188_4),((HB.out.cell (World.block_lt_of_cell? w _ hw188_5)).trans hw188_5),((HB.out.cell (World.block_lt_of_cell? w _ hw188_6)).trans hw188_6),((HB.out.cell (World.block_lt_of_cell? w _ hw188_7)).trans hw188_7),((HB.out.cell (World.block_lt_of_cell? w _ hw188_8)).trans hw188_8),((HB.out.cell (World.block_lt_of_cell? w _ hw189_0)).trans hw189_0),((HB.out.cell (World.block_lt_of_cell? w _ hw189_1)).trans hw189_1),((HB.out.cell (World.block_lt_of_cell? w _ hw189_2)).trans hw189_2),((HB.out.cell (World.block_lt_of_cell? w _ hw189_3)).trans hw189_3),((HB.out.cell (World.block_lt_of_cell? w _ hw189_4)).trans hw189_4),((HB.out.cell (World.block_lt_of_cell? w _ hw189_5)).trans hw189_5),((HB.out.cell (World.block_lt_of_cell? w _ hw189_6)).trans hw189_6),((HB.out.cell (World.block_lt_of_cell? w _ hw189_7)).trans hw189_7),((HB.out.cell (World.block_lt_of_cell? w _ hw189_8)).trans hw189_8)⟩ (fun hHeld => ?_)
      clear hK K
      refine norm_ (a':=?_) ?_ ?_
      rotate_left
      ·show Act.put _ (some 25) _ = _
       simp only [Act.put,List.setIfInBounds_toArray,List.set_cons_zero,List.set_cons_succ,i64_w,i32_w]
       rfl
      refine pure_ (i:=9) (N:=some 26) (v:=?_) (a':=?_) #[true,true,true,true,true,true,true,true,true,true] rfl rfl (any_of HT_.out (by kernel_rfl)) (fun _ _ _ h => h) (Or.inl ⟨by rfl,?_⟩) ?_ ?_
      rotate_left
      ·intro w'
       go_simp
       with_reducible rfl
      rotate_left
      ·simp only [Act.put,List.setIfInBounds_toArray,List.set_cons_zero,List.set_cons_succ,i64_w,i32_w]
       rfl
      refine done_ (done_of HT_.out (by kernel_rfl)) ?_
      try go_wp2
      go_ret
      exact ⟨by first|rfl|(simp [errW_none,errW_some] <;> rfl)|(simp [*,errW_none,errW_some] <;> rfl),by repeat (first|(with_reducible first|exact HB.out|apply below_alloc|apply pw_below_drewN|apply below_drew1)|exact HB.out)⟩
    ·rw [if_neg c4] at H
     have c4b0 : decide (x5_1 < (l0.length : Int)) = false:=decide_eq_false c4
     clear c4
     obtain rfl:=Option.some.inj H
     go_wp2
     go_ret
     exact ⟨by first|rfl|(simp [errW_none,errW_some] <;> rfl)|(simp [*,errW_none,errW_some] <;> rfl),by repeat (first|(with_reducible first|exact HB.out|apply below_alloc|apply pw_below_drewN|apply below_drew1)|exact HB.out)⟩
 ·rw [if_neg c3] at H
  have c3b0 : ((l0.length : Int) == (l1.length : Int)) = false:=beq_eq_false_iff_ne.mpr c3
  have c3b1 : ((l0.length : Int) != (l1.length : Int)) = true:=bne_iff_ne.mpr c3
  have c3b2 : (l0.length == l1.length) = false:=by first|simpa using c3|(simp at c3 ⊢;omega)
  obtain rfl:=Option.some.inj H
  go_enter Tryd.func30,Tryd.ntmps30
  go_wp2
  go_ret
  exact ⟨by first|rfl|(simp [errW_none,errW_some] <;> rfl)|(simp [*,errW_none,errW_some] <;> rfl),by repeat (first|(with_reducible first|exact HB.out|apply below_alloc|apply pw_below_drewN|apply below_drew1)|exact HB.out)⟩

/-! ### laws_eqStringS: function 54 -/
def laws_eqStringS.l0 : Nat → List ByteArray → List ByteArray → Int → Option (Bool)
 | 0,_,_,_ => none
 | k + 1,x0,x1,x5 => if x5 < (x0.length : Int) then (if 0 ≤ x5 then (if x5 < (x1.length : Int) then (if (rdOf ByteArray.empty x0 x5).toList = (rdOf ByteArray.empty x1 x5).toList then (laws_eqStringS.l0 k x0 x1 (wrap64 (x5 + 1))) else (some false)) else (none)) else (none)) else (some true)
def laws_eqStringS.f (k : Nat) (l0 : List ByteArray) (l1 : List ByteArray) : Option (Bool):=if (l0.length : Int) = (l1.length : Int) then (laws_eqStringS.l0 k l0 l1 0) else (some false)
theorem laws_eqStringS.mono_l : ∀ k,(∀ y0 y1 y2,LeO (laws_eqStringS.l0 k y0 y1 y2) (laws_eqStringS.l0 (k + 1) y0 y1 y2))
 | 0 => fun _ _ _ r h => by simp [laws_eqStringS.l0] at h
 | k + 1 => by
  have ih0:=laws_eqStringS.mono_l k
  ·intro y0 y1 y2
   unfold laws_eqStringS.l0
   repeat' first
   | (with_reducible exact ih0 _ _ _)
   | (with_reducible exact LeO.refl _)
   | (with_reducible exact LeO.none _)
   | (with_reducible refine LeO.ite ?_ ?_)
   | (with_reducible refine LeO.bind ?_ (fun _ => ?_))
   | exact ih0 _ _ _
   | exact LeO.none _
   | refine LeO.ite ?_ ?_
   | refine LeO.bind ?_ (fun _ => ?_)
theorem laws_eqStringS.mono : ∀ a0 a1 k,LeO (laws_eqStringS.f k a0 a1) (laws_eqStringS.f (k + 1) a0 a1):=by
 intro a0 a1 k
 have ih0:=laws_eqStringS.mono_l k
 unfold laws_eqStringS.f
 repeat' first
   | (with_reducible exact ih0 _ _ _)
   | (with_reducible exact LeO.refl _)
   | (with_reducible exact LeO.none _)
   | (with_reducible refine LeO.ite ?_ ?_)
   | (with_reducible refine LeO.bind ?_ (fun _ => ?_))
   | exact ih0 _ _ _
   | exact LeO.none _
   | refine LeO.ite ?_ ?_
   | refine LeO.bind ?_ (fun _ => ?_)
set_option maxHeartbeats 8000000 in
set_option maxRecDepth 100000 in
theorem laws_eqStringS.calls (k : Nat) (A0 : Option Addr) (c0 : Nat) (l0 : List ByteArray) (A1 : Option Addr) (c1 : Nat) (l1 : List ByteArray) (r : Bool) (w : World) (hr0 : Kd.C Kd.string w A0 l0.length l0) (hc0 : l0.length ≤ c0) (hr1 : Kd.C Kd.string w A1 l1.length l1) (hc1 : l1.length ≤ c1) (h : laws_eqStringS.f k l0 l1 = some r) :
  Calls Tryd.prog 54 #[.slice A0 l0.length c0,.slice A1 l1.length c1] w fun e w' => e = .returned (.bool r) ∧ Drawn0 w w':=by
 have HR0:=Aside0.mk hr0
 have HC0:=Aside0.mk hc0
 clear hr0 hc0
 have HR1:=Aside0.mk hr1
 have HC1:=Aside0.mk hc1
 clear hr1 hc1
 have H : (if (l0.length : Int) = (l1.length : Int) then (laws_eqStringS.l0 k l0 l1 0) else (some false)) = some r:=h
 clear h
 by_cases c3 : (l0.length : Int) = (l1.length : Int)
 ·rw [if_pos c3] at H
  have c3b0 : ((l0.length : Int) == (l1.length : Int)) = true:=beq_iff_eq.mpr c3
  have c3b1 : ((l0.length : Int) != (l1.length : Int)) = false:=bne_eq_false_iff_eq.mpr c3
  have c3b2 : (l0.length == l1.length) = true:=by first|simpa using c3|(simp at c3 ⊢;omega)
  clear c3
  have H':=Aside0.mk H
  clear H
  go_enter Tryd.func54,Tryd.ntmps54
  go_wp2
  repeat (go_quiet (fail);try go_wp2)
  go_loopg [5] k (fun kq v5 w' => ∃ (x5_1 : Int),v5 = .int .i64 x5_1 ∧ Aside0 (laws_eqStringS.l0 kq l0 l1 x5_1 = some r) ∧ Aside0 (kq ≤ k) ∧ Drawn0 w w')
  case atStart => exact ⟨(0),(by first|rfl|(simp;done)|(simp [*];done)),H',⟨Nat.le_refl _⟩,by repeat (first|exact Drawn0.refl _|apply Drawn0.step)⟩
  case round =>
   clear H'
   try clear c1
   try clear c3
   try clear c3b0
   try clear c3b1
   try clear c3b2
   obtain ⟨x5_1,rfl,HA,HK1,⟨m1,rfl⟩⟩:=hrel
   cases gk with
   | zero => exact absurd HA.out (by simp [laws_eqStringS.l0])
   | succ k1 =>
    have H:=HA.out
    clear HA
    simp only [laws_eqStringS.l0] at H
    by_cases c4 : x5_1 < (l0.length : Int)
    ·rw [if_pos c4] at H
     have c4b0 : decide (x5_1 < (l0.length : Int)) = true:=decide_eq_true c4
     clear c4
     by_cases c5 : 0 ≤ x5_1
     rotate_left
     ·rw [if_neg c5] at H
      exact absurd H (by simp)
     rw [if_pos c5] at H
     have c5b0 : decide (0 ≤ x5_1) = true:=decide_eq_true c5
     clear c5
     by_cases c6 : x5_1 < (l1.length : Int)
     rotate_left
     ·rw [if_neg c6] at H
      exact absurd H (by simp)
     rw [if_pos c6] at H
     have c6b0 : decide (x5_1 < (l1.length : Int)) = true:=decide_eq_true c6
     clear c6
     by_cases c7 : (rdOf ByteArray.empty l0 x5_1).toList = (rdOf ByteArray.empty l1 x5_1).toList
     ·rw [if_pos c7] at H
      have c7b0 : ((rdOf ByteArray.empty l0 x5_1).toList == (rdOf ByteArray.empty l1 x5_1).toList) = true:=beq_iff_eq.mpr c7
      have c7b1 : ((rdOf ByteArray.empty l0 x5_1).toList != (rdOf ByteArray.empty l1 x5_1).toList) = false:=bne_eq_false_iff_eq.mpr c7
      clear c7
      have H':=Aside0.mk H
      clear H
      have p191 : 0 ≤ (x5_1 : Int):=of_decide_eq_true (by first|(with_reducible assumption)|assumption)
      have q191 : x5_1 < (l0.length : Int):=of_decide_eq_true (by first|(with_reducible assumption)|assumption)
      obtain ⟨ad191,e191,hx191_0⟩:=Kd.at_string HR0.out x5_1 p191 q191
      cases e191
      replace p191:=eq_true p191
      replace q191:=eq_true q191
      have p192 : 0 ≤ (x5_1 : Int):=of_decide_eq_true (by first|(with_reducible assumption)|assumption)
      have q192 : x5_1 < (l1.length : Int):=of_decide_eq_true (by first|(with_reducible assumption)|assumption)
      obtain ⟨ad192,e192,hx192_0⟩:=Kd.at_string HR1.out x5_1 p192 q192
      cases e192
      replace p192:=eq_true p192
      replace q192:=eq_true q192
      go_wp2
      repeat (go_quiet (fail);try go_wp2)
      go_roundg k1
      case measure => have:=HK1.out;omega
      case rel => exact ⟨(wrap64 (x5_1 + 1)),(by first|rfl|(simp;done)|(simp [*];done)),H',⟨by have:=HK1.out;omega⟩,by repeat (first|exact Drawn0.refl _|apply Drawn0.step)⟩
     ·rw [if_neg c7] at H
      have c7b0 : ((rdOf ByteArray.empty l0 x5_1).toList == (rdOf ByteArray.empty l1 x5_1).toList) = false:=beq_eq_false_iff_ne.mpr c7
      have c7b1 : ((rdOf ByteArray.empty l0 x5_1).toList != (rdOf ByteArray.empty l1 x5_1).toList) = true:=bne_iff_ne.mpr c7
      obtain rfl:=Option.some.inj H
      have p191 : 0 ≤ (x5_1 : Int):=of_decide_eq_true (by first|(with_reducible assumption)|assumption)
      have q191 : x5_1 < (l0.length : Int):=of_decide_eq_true (by first|(with_reducible assumption)|assumption)
      obtain ⟨ad191,e191,hx191_0⟩:=Kd.at_string HR0.out x5_1 p191 q191
      cases e191
      replace p191:=eq_true p191
      replace q191:=eq_true q191
      have p192 : 0 ≤ (x5_1 : Int):=of_decide_eq_true (by first|(with_reducible assumption)|assumption)
      have q192 : x5_1 < (l1.length : Int):=of_decide_eq_true (by first|(with_reducible assumption)|assumption)
      obtain ⟨ad192,e192,hx192_0⟩:=Kd.at_string HR1.out x5_1 p192 q192
      cases e192
      replace p192:=eq_true p192
      replace q192:=eq_true q192
      go_wp2
      repeat (go_quiet (fail);try go_wp2)
      go_ret
      exact ⟨by first|rfl|(simp;done)|(simp [*];done),by repeat (first|exact Drawn0.refl _|apply Drawn0.step)⟩
    ·rw [if_neg c4] at H
     have c4b0 : decide (x5_1 < (l0.length : Int)) = false:=decide_eq_false c4
     clear c4
     obtain rfl:=Option.some.inj H
     go_wp2
     repeat (go_quiet (fail);try go_wp2)
     go_ret
     exact ⟨by first|rfl|(simp;done)|(simp [*];done),by repeat (first|exact Drawn0.refl _|apply Drawn0.step)⟩
 ·rw [if_neg c3] at H
  have c3b0 : ((l0.length : Int) == (l1.length : Int)) = false:=beq_eq_false_iff_ne.mpr c3
  have c3b1 : ((l0.length : Int) != (l1.length : Int)) = true:=bne_iff_ne.mpr c3
  have c3b2 : (l0.length == l1.length) = false:=by first|simpa using c3|(simp at c3 ⊢;omega)
  obtain rfl:=Option.some.inj H
  go_enter Tryd.func54,Tryd.ntmps54
  go_wp2
  repeat (go_quiet (fail);try go_wp2)
  go_ret
  exact ⟨by first|rfl|(simp;done)|(simp [*];done),by repeat (first|exact Drawn0.refl _|apply Drawn0.step)⟩

/-! ### laws_eqDb: function 19 -/
def laws_eqDb.f (k : Nat) (l0_0 : List (S48)) (l0_1 : List ByteArray) (l1_0 : List (S48)) (l1_1 : List ByteArray) : Option (Bool):=(laws_eqClauseS.f k l0_0 l1_0).bind fun t195 => (if t195 = true then ((laws_eqStringS.f k l0_1 l1_1).bind fun t196 => (if t196 = true then (some true) else (some false))) else (some false))
theorem laws_eqDb.mono : ∀ a0 a1 a2 a3 k,LeO (laws_eqDb.f k a0 a1 a2 a3) (laws_eqDb.f (k + 1) a0 a1 a2 a3):=by
 intro a0 a1 a2 a3 k
 unfold laws_eqDb.f
 repeat' first
   | (with_reducible exact laws_eqClauseS.mono _ _ _)
   | (with_reducible exact laws_eqStringS.mono _ _ _)
   | (with_reducible exact LeO.refl _)
   | (with_reducible exact LeO.none _)
   | (with_reducible refine LeO.ite ?_ ?_)
   | (with_reducible refine LeO.bind ?_ (fun _ => ?_))
   | exact laws_eqClauseS.mono _ _ _
   | exact laws_eqStringS.mono _ _ _
   | exact LeO.none _
   | refine LeO.ite ?_ ?_
   | refine LeO.bind ?_ (fun _ => ?_)
set_option maxHeartbeats 8000000 in
set_option maxRecDepth 100000 in
theorem laws_eqDb.calls (k : Nat) (A0_0 : Option Addr) (c0_0 : Nat) (l0_0 : List (S48)) (A0_1 : Option Addr) (c0_1 : Nat) (l0_1 : List ByteArray) (A1_0 : Option Addr) (c1_0 : Nat) (l1_0 : List (S48)) (A1_1 : Option Addr) (c1_1 : Nat) (l1_1 : List ByteArray) (r : Bool) (w : World) (hr0_0 : Kd.C k48 w A0_0 l0_0.length l0_0) (hc0_0 : l0_0.length ≤ c0_0) (hr0_1 : Kd.C Kd.string w A0_1 l0_1.length l0_1) (hc0_1 : l0_1.length ≤ c0_1) (hr1_0 : Kd.C k48 w A1_0 l1_0.length l1_0) (hc1_0 : l1_0.length ≤ c1_0) (hr1_1 : Kd.C Kd.string w A1_1 l1_1.length l1_1) (hc1_1 : l1_1.length ≤ c1_1) (h : laws_eqDb.f k l0_0 l0_1 l1_0 l1_1 = some r) :
  Calls Tryd.prog 19 #[.agg #[.slice A0_0 l0_0.length c0_0,.slice A0_1 l0_1.length c0_1],.agg #[.slice A1_0 l1_0.length c1_0,.slice A1_1 l1_1.length c1_1]] w fun e w' => e = .returned (.bool r) ∧ Below w.heap.size w w':=by
 have hu41:=Tryd.underlying41
 have HR0_0:=Aside0.mk hr0_0
 have HC0_0:=Aside0.mk hc0_0
 clear hr0_0 hc0_0
 have HR0_1:=Aside0.mk hr0_1
 have HC0_1:=Aside0.mk hc0_1
 clear hr0_1 hc0_1
 have HR1_0:=Aside0.mk hr1_0
 have HC1_0:=Aside0.mk hc1_0
 clear hr1_0 hc1_0
 have HR1_1:=Aside0.mk hr1_1
 have HC1_1:=Aside0.mk hc1_1
 clear hr1_1 hc1_1
 have HB:=Aside0.mk (Below.refl w.heap.size w)
 have H : ((laws_eqClauseS.f k l0_0 l1_0).bind fun t195 => (if t195 = true then ((laws_eqStringS.f k l0_1 l1_1).bind fun t196 => (if t196 = true then (some true) else (some false))) else (some false))) = some r:=h
 clear h
 replace H:=Option.bind_eq_some_iff.mp H
 obtain ⟨t195,A30,H⟩:=H
 replace H : (if t195 = true then ((laws_eqStringS.f k l0_1 l1_1).bind fun t196 => (if t196 = true then (some true) else (some false))) else (some false)) = some r:=H
 have A3:=Aside0.mk A30
 clear A30
 by_cases c4 : t195 = true
 ·subst c4
  have H1 : ((laws_eqStringS.f k l0_1 l1_1).bind fun t196 => (if t196 = true then (some true) else (some false))) = some r:=by rw [if_pos rfl] at H;exact H
  clear H
  have H:=H1
  clear H1
  replace H:=Option.bind_eq_some_iff.mp H
  obtain ⟨t196,A50,H⟩:=H
  replace H : (if t196 = true then (some true) else (some false)) = some r:=H
  have A5:=Aside0.mk A50
  clear A50
  by_cases c6 : t196 = true
  ·subst c6
   have H1 : (some true) = some r:=by rw [if_pos rfl] at H;exact H
   clear H
   have H:=H1
   clear H1
   obtain rfl:=Option.some.inj H
   go_enter Tryd.func19,Tryd.ntmps19
   go_wp2_with (first|((with_reducible refine gate_dst (N:=2) rfl ?_);refine box_event ?hg (N:=2) ?hd (cs:=#[.slice A0_0 l0_0.length c0_0,.slice A0_1 l0_1.length c0_1]) (t:=41) ?hr ?_;(case hd => rfl);(case hg => rfl);(case hr => first|(go_simp;done)|(go_simp;rfl));intro gb193 hg w7 hbox hb;have n0_:=Aside0.mk (below_step (by repeat (first|(with_reducible first|exact HB.out|apply below_alloc|apply pw_below_drewN|apply below_drew1)|exact HB.out)) hb);have n1_:=Aside0.mk (hbox);have n2_:=Aside0.mk ((by rw [hg];exact (below_size (by repeat (first|(with_reducible first|exact HB.out|apply below_alloc|apply pw_below_drewN|apply below_drew1)|exact HB.out))) : w.heap.size ≤ gb193));have n3_:=Aside0.mk ((by rw [hg];exact (below_size (by repeat (first|(with_reducible first|exact HB.out|apply below_alloc|apply pw_below_drewN|apply below_drew1)|exact HB.out))) : w.heap.size ≤ gb193));clear HB;have HB:=n0_;have BK193:=n1_;have GW193:=n2_;have GE193:=n3_;clear n0_ n1_ n2_ n3_;clear hb hbox hg)|((with_reducible refine gate_dst (N:=3) rfl ?_);refine box_event ?hg (N:=3) ?hd (cs:=#[.slice A1_0 l1_0.length c1_0,.slice A1_1 l1_1.length c1_1]) (t:=41) ?hr ?_;(case hd => rfl);(case hg => rfl);(case hr => first|(go_simp;done)|(go_simp;rfl));intro gb194 hg w8 hbox hb;have n0_:=Aside0.mk (blk_below (g:=gb193) (o:=.cells #[.slice A0_0 l0_0.length c0_0,.slice A0_1 l0_1.length c0_1] 41 (0,0)) (by (with_reducible repeat (first|refine blk_drewN ?_ _|refine blk_drew ?_|refine blk_alloc ?_ _));exact BK193.out) hb);have n1_:=Aside0.mk (below_step (by repeat (first|(with_reducible first|exact HB.out|apply below_alloc|apply pw_below_drewN|apply below_drew1|refine below_set ?_ GE193.out)|exact HB.out)) hb);have n2_:=Aside0.mk (hbox);have n3_:=Aside0.mk ((by rw [hg];exact (below_size (by repeat (first|(with_reducible first|exact HB.out|apply below_alloc|apply pw_below_drewN|apply below_drew1|refine below_set ?_ GE193.out)|exact HB.out))) : w.heap.size ≤ gb194));have n4_:=Aside0.mk ((by rw [hg];exact (below_size (by repeat (first|(with_reducible first|exact HB.out|apply below_alloc|apply pw_below_drewN|apply below_drew1|refine below_set ?_ GE193.out)|exact HB.out))) : w.heap.size ≤ gb194));have n5_:=Aside0.mk ((by rw [hg];exact Nat.ne_of_lt (blk_lt (g:=gb193) (o:=.cells #[.slice A0_0 l0_0.length c0_0,.slice A0_1 l0_1.length c0_1] 41 (0,0)) (by (with_reducible repeat (first|refine blk_drewN ?_ _|refine blk_drew ?_|refine blk_alloc ?_ _));exact BK193.out)) : gb193 ≠ gb194));have n6_:=Aside0.mk ((by rw [hg];exact Nat.ne_of_gt (blk_lt (g:=gb193) (o:=.cells #[.slice A0_0 l0_0.length c0_0,.slice A0_1 l0_1.length c0_1] 41 (0,0)) (by (with_reducible repeat (first|refine blk_drewN ?_ _|refine blk_drew ?_|refine blk_alloc ?_ _));exact BK193.out)) : gb194 ≠ gb193));clear BK193;clear HB;have BK193:=n0_;have HB:=n1_;have BK194:=n2_;have GW194:=n3_;have GE194:=n4_;have NB193_194:=n5_;have NB194_193:=n6_;clear n0_ n1_ n2_ n3_ n4_ n5_ n6_;clear hb hbox hg;have hnb9:=NB193_194.out;have hnc9:=NB194_193.out;have hcz10_0 : w8.cell? ⟨gb193,0,none⟩ = some (.slice A0_0 l0_0.length c0_0):=(blk_cell BK193.out 0).trans rfl;have hcz10_1 : w8.cell? ⟨gb193,1,none⟩ = some (.slice A0_1 l0_1.length c0_1):=(blk_cell BK193.out 1).trans rfl;have hfz10_0:=blk_frozen BK193.out 0;have hfz10_1:=blk_frozen BK193.out 1;have hcz11_0 : w8.cell? ⟨gb194,0,none⟩ = some (.slice A1_0 l1_0.length c1_0):=(blk_cell BK194.out 0).trans rfl;have hcz11_1 : w8.cell? ⟨gb194,1,none⟩ = some (.slice A1_1 l1_1.length c1_1):=(blk_cell BK194.out 1).trans rfl;have hfz11_0:=blk_frozen BK194.out 0;have hfz11_1:=blk_frozen BK194.out 1)|((with_reducible refine gate_callee (f:=30) rfl ?_);refine goesL_ (some 9) rfl rfl Tryd.func30 (by kernel_rfl) rfl #[.slice A0_0 l0_0.length c0_0,.slice A1_0 l1_0.length c1_0] rfl (by (try simp only [List.map_toArray,List.map_cons,List.map_nil]);first|done|rfl|(simp only [List.length_drop,List.length_take];rfl)) ?_;(with_reducible refine (laws_eqClauseS.calls k _ _ l0_0 _ _ l1_0 true _ ?side1 ?side2 ?side3 ?side4 A3.out).mono ?_);(case side1 => repeat (first|exact (Kd.C_below HR0_0.out HB.out)|(with_reducible refine Kd.C_alloc ?_ _)|(with_reducible refine Kd.C_drewN ?_ _)|(with_reducible refine Kd.C_drew ?_)));(case side2 => exact HC0_0.out);(case side3 => repeat (first|exact (Kd.C_below HR1_0.out HB.out)|(with_reducible refine Kd.C_alloc ?_ _)|(with_reducible refine Kd.C_drewN ?_ _)|(with_reducible refine Kd.C_drew ?_)));(case side4 => exact HC1_0.out);rintro e w12 ⟨rfl,hb⟩;refine ⟨_,rfl,?_⟩;have n0_:=Aside0.mk (blk_below (g:=gb193) (o:=.cells #[.slice A0_0 l0_0.length c0_0,.slice A0_1 l0_1.length c0_1] 41 (0,0)) (by (with_reducible repeat (first|refine blk_drewN ?_ _|refine blk_drew ?_|refine blk_alloc ?_ _));exact BK193.out) hb);have n1_:=Aside0.mk (blk_below (g:=gb194) (o:=.cells #[.slice A1_0 l1_0.length c1_0,.slice A1_1 l1_1.length c1_1] 41 (0,0)) (by (with_reducible repeat (first|refine blk_drewN ?_ _|refine blk_drew ?_|refine blk_alloc ?_ _));exact BK194.out) hb);have n2_:=Aside0.mk (below_step (by repeat (first|(with_reducible first|exact HB.out|apply below_alloc|apply pw_below_drewN|apply below_drew1|refine below_set ?_ GE193.out|refine below_set ?_ GE194.out)|exact HB.out)) hb);clear BK193;clear BK194;clear HB;have BK193:=n0_;have BK194:=n1_;have HB:=n2_;clear n0_ n1_ n2_;(try clear hb);(try clear hb2);(try clear hk);(try clear hi);have hcz13_0 : w12.cell? ⟨gb193,0,none⟩ = some (.slice A0_0 l0_0.length c0_0):=(blk_cell BK193.out 0).trans rfl;have hcz13_1 : w12.cell? ⟨gb193,1,none⟩ = some (.slice A0_1 l0_1.length c0_1):=(blk_cell BK193.out 1).trans rfl;have hfz13_0:=blk_frozen BK193.out 0;have hfz13_1:=blk_frozen BK193.out 1;have hcz14_0 : w12.cell? ⟨gb194,0,none⟩ = some (.slice A1_0 l1_0.length c1_0):=(blk_cell BK194.out 0).trans rfl;have hcz14_1 : w12.cell? ⟨gb194,1,none⟩ = some (.slice A1_1 l1_1.length c1_1):=(blk_cell BK194.out 1).trans rfl;have hfz14_0:=blk_frozen BK194.out 0;have hfz14_1:=blk_frozen BK194.out 1)|((with_reducible refine gate_callee (f:=54) rfl ?_);refine goesL_ (some 15) rfl rfl Tryd.func54 (by kernel_rfl) rfl #[.slice A0_1 l0_1.length c0_1,.slice A1_1 l1_1.length c1_1] rfl (by (try simp only [List.map_toArray,List.map_cons,List.map_nil]);first|done|rfl|(simp only [List.length_drop,List.length_take];rfl)) ?_;(with_reducible refine (laws_eqStringS.calls k _ _ l0_1 _ _ l1_1 true _ ?side1 ?side2 ?side3 ?side4 A5.out).mono ?_);(case side1 => repeat (first|exact (Kd.C_below HR0_1.out HB.out)|(with_reducible refine Kd.C_alloc ?_ _)|(with_reducible refine Kd.C_drewN ?_ _)|(with_reducible refine Kd.C_drew ?_)));(case side2 => exact HC0_1.out);(case side3 => repeat (first|exact (Kd.C_below HR1_1.out HB.out)|(with_reducible refine Kd.C_alloc ?_ _)|(with_reducible refine Kd.C_drewN ?_ _)|(with_reducible refine Kd.C_drew ?_)));(case side4 => exact HC1_1.out);rintro e w' ⟨rfl,⟨nd,rfl⟩⟩;refine ⟨_,rfl,?_⟩))
   go_ret
   exact ⟨by first|rfl|(simp [errW_none,errW_some] <;> rfl)|(simp [*,errW_none,errW_some] <;> rfl),by repeat (first|(with_reducible first|exact HB.out|apply below_alloc|apply pw_below_drewN|apply below_drew1|refine below_set ?_ GE193.out|refine below_set ?_ GE194.out)|exact HB.out)⟩
  ·replace c6:=Bool.eq_false_iff.mpr c6
   subst c6
   have H1 : (some false) = some r:=by rw [if_neg (show ¬ (false = true) by decide)] at H;exact H
   clear H
   have H:=H1
   clear H1
   obtain rfl:=Option.some.inj H
   go_enter Tryd.func19,Tryd.ntmps19
   go_wp2_with (first|((with_reducible refine gate_dst (N:=2) rfl ?_);refine box_event ?hg (N:=2) ?hd (cs:=#[.slice A0_0 l0_0.length c0_0,.slice A0_1 l0_1.length c0_1]) (t:=41) ?hr ?_;(case hd => rfl);(case hg => rfl);(case hr => first|(go_simp;done)|(go_simp;rfl));intro gb193 hg w15 hbox hb;have n0_:=Aside0.mk (below_step (by repeat (first|(with_reducible first|exact HB.out|apply below_alloc|apply pw_below_drewN|apply below_drew1)|exact HB.out)) hb);have n1_:=Aside0.mk (hbox);have n2_:=Aside0.mk ((by rw [hg];exact (below_size (by repeat (first|(with_reducible first|exact HB.out|apply below_alloc|apply pw_below_drewN|apply below_drew1)|exact HB.out))) : w.heap.size ≤ gb193));have n3_:=Aside0.mk ((by rw [hg];exact (below_size (by repeat (first|(with_reducible first|exact HB.out|apply below_alloc|apply pw_below_drewN|apply below_drew1)|exact HB.out))) : w.heap.size ≤ gb193));clear HB;have HB:=n0_;have BK193:=n1_;have GW193:=n2_;have GE193:=n3_;clear n0_ n1_ n2_ n3_;clear hb hbox hg)|((with_reducible refine gate_dst (N:=3) rfl ?_);refine box_event ?hg (N:=3) ?hd (cs:=#[.slice A1_0 l1_0.length c1_0,.slice A1_1 l1_1.length c1_1]) (t:=41) ?hr ?_;(case hd => rfl);(case hg => rfl);(case hr => first|(go_simp;done)|(go_simp;rfl));intro gb194 hg w16 hbox hb;have n0_:=Aside0.mk (blk_below (g:=gb193) (o:=.cells #[.slice A0_0 l0_0.length c0_0,.slice A0_1 l0_1.length c0_1] 41 (0,0)) (by (with_reducible repeat (first|refine blk_drewN ?_ _|refine blk_drew ?_|refine blk_alloc ?_ _));exact BK193.out) hb);have n1_:=Aside0.mk (below_step (by repeat (first|(with_reducible first|exact HB.out|apply below_alloc|apply pw_below_drewN|apply below_drew1|refine below_set ?_ GE193.out)|exact HB.out)) hb);have n2_:=Aside0.mk (hbox);have n3_:=Aside0.mk ((by rw [hg];exact (below_size (by repeat (first|(with_reducible first|exact HB.out|apply below_alloc|apply pw_below_drewN|apply below_drew1|refine below_set ?_ GE193.out)|exact HB.out))) : w.heap.size ≤ gb194));have n4_:=Aside0.mk ((by rw [hg];exact (below_size (by repeat (first|(with_reducible first|exact HB.out|apply below_alloc|apply pw_below_drewN|apply below_drew1|refine below_set ?_ GE193.out)|exact HB.out))) : w.heap.size ≤ gb194));have n5_:=Aside0.mk ((by rw [hg];exact Nat.ne_of_lt (blk_lt (g:=gb193) (o:=.cells #[.slice A0_0 l0_0.length c0_0,.slice A0_1 l0_1.length c0_1] 41 (0,0)) (by (with_reducible repeat (first|refine blk_drewN ?_ _|refine blk_drew ?_|refine blk_alloc ?_ _));exact BK193.out)) : gb193 ≠ gb194));have n6_:=Aside0.mk ((by rw [hg];exact Nat.ne_of_gt (blk_lt (g:=gb193) (o:=.cells #[.slice A0_0 l0_0.length c0_0,.slice A0_1 l0_1.length c0_1] 41 (0,0)) (by (with_reducible repeat (first|refine blk_drewN ?_ _|refine blk_drew ?_|refine blk_alloc ?_ _));exact BK193.out)) : gb194 ≠ gb193));clear BK193;clear HB;have BK193:=n0_;have HB:=n1_;have BK194:=n2_;have GW194:=n3_;have GE194:=n4_;have NB193_194:=n5_;have NB194_193:=n6_;clear n0_ n1_ n2_ n3_ n4_ n5_ n6_;clear hb hbox hg;have hnb17:=NB193_194.out;have hnc17:=NB194_193.out;have hcz18_0 : w16.cell? ⟨gb193,0,none⟩ = some (.slice A0_0 l0_0.length c0_0):=(blk_cell BK193.out 0).trans rfl;have hcz18_1 : w16.cell? ⟨gb193,1,none⟩ = some (.slice A0_1 l0_1.length c0_1):=(blk_cell BK193.out 1).trans rfl;have hfz18_0:=blk_frozen BK193.out 0;have hfz18_1:=blk_frozen BK193.out 1;have hcz19_0 : w16.cell? ⟨gb194,0,none⟩ = some (.slice A1_0 l1_0.length c1_0):=(blk_cell BK194.out 0).trans rfl;have hcz19_1 : w16.cell? ⟨gb194,1,none⟩ = some (.slice A1_1 l1_1.length c1_1):=(blk_cell BK194.out 1).trans rfl;have hfz19_0:=blk_frozen BK194.out 0;have hfz19_1:=blk_frozen BK194.out 1)|((with_reducible refine gate_callee (f:=30) rfl ?_);refine goesL_ (some 9) rfl rfl Tryd.func30 (by kernel_rfl) rfl #[.slice A0_0 l0_0.length c0_0,.slice A1_0 l1_0.length c1_0] rfl (by (try simp only [List.map_toArray,List.map_cons,List.map_nil]);first|done|rfl|(simp only [List.length_drop,List.length_take];rfl)) ?_;(with_reducible refine (laws_eqClauseS.calls k _ _ l0_0 _ _ l1_0 true _ ?side1 ?side2 ?side3 ?side4 A3.out).mono ?_);(case side1 => repeat (first|exact (Kd.C_below HR0_0.out HB.out)|(with_reducible refine Kd.C_alloc ?_ _)|(with_reducible refine Kd.C_drewN ?_ _)|(with_reducible refine Kd.C_drew ?_)));(case side2 => exact HC0_0.out);(case side3 => repeat (first|exact (Kd.C_below HR1_0.out HB.out)|(with_reducible refine Kd.C_alloc ?_ _)|(with_reducible refine Kd.C_drewN ?_ _)|(with_reducible refine Kd.C_drew ?_)));(case side4 => exact HC1_0.out);rintro e w20 ⟨rfl,hb⟩;refine ⟨_,rfl,?_⟩;have n0_:=Aside0.mk (blk_below (g:=gb193) (o:=.cells #[.slice A0_0 l0_0.length c0_0,.slice A0_1 l0_1.length c0_1] 41 (0,0)) (by (with_reducible repeat (first|refine blk_drewN ?_ _|refine blk_drew ?_|refine blk_alloc ?_ _));exact BK193.out) hb);have n1_:=Aside0.mk (blk_below (g:=gb194) (o:=.cells #[.slice A1_0 l1_0.length c1_0,.slice A1_1 l1_1.length c1_1] 41 (0,0)) (by (with_reducible repeat (first|refine blk_drewN ?_ _|refine blk_drew ?_|refine blk_alloc ?_ _));exact BK194.out) hb);have n2_:=Aside0.mk (below_step (by repeat (first|(with_reducible first|exact HB.out|apply below_alloc|apply pw_below_drewN|apply below_drew1|refine below_set ?_ GE193.out|refine below_set ?_ GE194.out)|exact HB.out)) hb);clear BK193;clear BK194;clear HB;have BK193:=n0_;have BK194:=n1_;have HB:=n2_;clear n0_ n1_ n2_;(try clear hb);(try clear hb2);(try clear hk);(try clear hi);have hcz21_0 : w20.cell? ⟨gb193,0,none⟩ = some (.slice A0_0 l0_0.length c0_0):=(blk_cell BK193.out 0).trans rfl;have hcz21_1 : w20.cell? ⟨gb193,1,none⟩ = some (.slice A0_1 l0_1.length c0_1):=(blk_cell BK193.out 1).trans rfl;have hfz21_0:=blk_frozen BK193.out 0;have hfz21_1:=blk_frozen BK193.out 1;have hcz22_0 : w20.cell? ⟨gb194,0,none⟩ = some (.slice A1_0 l1_0.length c1_0):=(blk_cell BK194.out 0).trans rfl;have hcz22_1 : w20.cell? ⟨gb194,1,none⟩ = some (.slice A1_1 l1_1.length c1_1):=(blk_cell BK194.out 1).trans rfl;have hfz22_0:=blk_frozen BK194.out 0;have hfz22_1:=blk_frozen BK194.out 1)|((with_reducible refine gate_callee (f:=54) rfl ?_);refine goesL_ (some 15) rfl rfl Tryd.func54 (by kernel_rfl) rfl #[.slice A0_1 l0_1.length c0_1,.slice A1_1 l1_1.length c1_1] rfl (by (try simp only [List.map_toArray,List.map_cons,List.map_nil]);first|done|rfl|(simp only [List.length_drop,List.length_take];rfl)) ?_;(with_reducible refine (laws_eqStringS.calls k _ _ l0_1 _ _ l1_1 false _ ?side1 ?side2 ?side3 ?side4 A5.out).mono ?_);(case side1 => repeat (first|exact (Kd.C_below HR0_1.out HB.out)|(with_reducible refine Kd.C_alloc ?_ _)|(with_reducible refine Kd.C_drewN ?_ _)|(with_reducible refine Kd.C_drew ?_)));(case side2 => exact HC0_1.out);(case side3 => repeat (first|exact (Kd.C_below HR1_1.out HB.out)|(with_reducible refine Kd.C_alloc ?_ _)|(with_reducible refine Kd.C_drewN ?_ _)|(with_reducible refine Kd.C_drew ?_)));(case side4 => exact HC1_1.out);rintro e w' ⟨rfl,⟨nd,rfl⟩⟩;refine ⟨_,rfl,?_⟩))
   go_ret
   exact ⟨by first|rfl|(simp [errW_none,errW_some] <;> rfl)|(simp [*,errW_none,errW_some] <;> rfl),by repeat (first|(with_reducible first|exact HB.out|apply below_alloc|apply pw_below_drewN|apply below_drew1|refine below_set ?_ GE193.out|refine below_set ?_ GE194.out)|exact HB.out)⟩
 ·replace c4:=Bool.eq_false_iff.mpr c4
  subst c4
  have H1 : (some false) = some r:=by rw [if_neg (show ¬ (false = true) by decide)] at H;exact H
  clear H
  have H:=H1
  clear H1
  obtain rfl:=Option.some.inj H
  go_enter Tryd.func19,Tryd.ntmps19
  go_wp2_with (first|((with_reducible refine gate_dst (N:=2) rfl ?_);refine box_event ?hg (N:=2) ?hd (cs:=#[.slice A0_0 l0_0.length c0_0,.slice A0_1 l0_1.length c0_1]) (t:=41) ?hr ?_;(case hd => rfl);(case hg => rfl);(case hr => first|(go_simp;done)|(go_simp;rfl));intro gb193 hg w23 hbox hb;have n0_:=Aside0.mk (below_step (by repeat (first|(with_reducible first|exact HB.out|apply below_alloc|apply pw_below_drewN|apply below_drew1)|exact HB.out)) hb);have n1_:=Aside0.mk (hbox);have n2_:=Aside0.mk ((by rw [hg];exact (below_size (by repeat (first|(with_reducible first|exact HB.out|apply below_alloc|apply pw_below_drewN|apply below_drew1)|exact HB.out))) : w.heap.size ≤ gb193));have n3_:=Aside0.mk ((by rw [hg];exact (below_size (by repeat (first|(with_reducible first|exact HB.out|apply below_alloc|apply pw_below_drewN|apply below_drew1)|exact HB.out))) : w.heap.size ≤ gb193));clear HB;have HB:=n0_;have BK193:=n1_;have GW193:=n2_;have GE193:=n3_;clear n0_ n1_ n2_ n3_;clear hb hbox hg)|((with_reducible refine gate_dst (N:=3) rfl ?_);refine box_event ?hg (N:=3) ?hd (cs:=#[.slice A1_0 l1_0.length c1_0,.slice A1_1 l1_1.length c1_1]) (t:=41) ?hr ?_;(case hd => rfl);(case hg => rfl);(case hr => first|(go_simp;done)|(go_simp;rfl));intro gb194 hg w24 hbox hb;have n0_:=Aside0.mk (blk_below (g:=gb193) (o:=.cells #[.slice A0_0 l0_0.length c0_0,.slice A0_1 l0_1.length c0_1] 41 (0,0)) (by (with_reducible repeat (first|refine blk_drewN ?_ _|refine blk_drew ?_|refine blk_alloc ?_ _));exact BK193.out) hb);have n1_:=Aside0.mk (below_step (by repeat (first|(with_reducible first|exact HB.out|apply below_alloc|apply pw_below_drewN|apply below_drew1|refine below_set ?_ GE193.out)|exact HB.out)) hb);have n2_:=Aside0.mk (hbox);have n3_:=Aside0.mk ((by rw [hg];exact (below_size (by repeat (first|(with_reducible first|exact HB.out|apply below_alloc|apply pw_below_drewN|apply below_drew1|refine below_set ?_ GE193.out)|exact HB.out))) : w.heap.size ≤ gb194));have n4_:=Aside0.mk ((by rw [hg];exact (below_size (by repeat (first|(with_reducible first|exact HB.out|apply below_alloc|apply pw_below_drewN|apply below_drew1|refine below_set ?_ GE193.out)|exact HB.out))) : w.heap.size ≤ gb194));have n5_:=Aside0.mk ((by rw [hg];exact Nat.ne_of_lt (blk_lt (g:=gb193) (o:=.cells #[.slice A0_0 l0_0.length c0_0,.slice A0_1 l0_1.length c0_1] 41 (0,0)) (by (with_reducible repeat (first|refine blk_drewN ?_ _|refine blk_drew ?_|refine blk_alloc ?_ _));exact BK193.out)) : gb193 ≠ gb194));have n6_:=Aside0.mk ((by rw [hg];exact Nat.ne_of_gt (blk_lt (g:=gb193) (o:=.cells #[.slice A0_0 l0_0.length c0_0,.slice A0_1 l0_1.length c0_1] 41 (0,0)) (by (with_reducible repeat (first|refine blk_drewN ?_ _|refine blk_drew ?_|refine blk_alloc ?_ _));exact BK193.out)) : gb194 ≠ gb193));clear BK193;clear HB;have BK193:=n0_;have HB:=n1_;have BK194:=n2_;have GW194:=n3_;have GE194:=n4_;have NB193_194:=n5_;have NB194_193:=n6_;clear n0_ n1_ n2_ n3_ n4_ n5_ n6_;clear hb hbox hg;have hnb25:=NB193_194.out;have hnc25:=NB194_193.out;have hcz26_0 : w24.cell? ⟨gb193,0,none⟩ = some (.slice A0_0 l0_0.length c0_0):=(blk_cell BK193.out 0).trans rfl;have hcz26_1 : w24.cell? ⟨gb193,1,none⟩ = some (.slice A0_1 l0_1.length c0_1):=(blk_cell BK193.out 1).trans rfl;have hfz26_0:=blk_frozen BK193.out 0;have hfz26_1:=blk_frozen BK193.out 1;have hcz27_0 : w24.cell? ⟨gb194,0,none⟩ = some (.slice A1_0 l1_0.length c1_0):=(blk_cell BK194.out 0).trans rfl;have hcz27_1 : w24.cell? ⟨gb194,1,none⟩ = some (.slice A1_1 l1_1.length c1_1):=(blk_cell BK194.out 1).trans rfl;have hfz27_0:=blk_frozen BK194.out 0;have hfz27_1:=blk_frozen BK194.out 1)|((with_reducible refine gate_callee (f:=30) rfl ?_);refine goesL_ (some 9) rfl rfl Tryd.func30 (by kernel_rfl) rfl #[.slice A0_0 l0_0.length c0_0,.slice A1_0 l1_0.length c1_0] rfl (by (try simp only [List.map_toArray,List.map_cons,List.map_nil]);first|done|rfl|(simp only [List.length_drop,List.length_take];rfl)) ?_;(with_reducible refine (laws_eqClauseS.calls k _ _ l0_0 _ _ l1_0 false _ ?side1 ?side2 ?side3 ?side4 A3.out).mono ?_);(case side1 => repeat (first|exact (Kd.C_below HR0_0.out HB.out)|(with_reducible refine Kd.C_alloc ?_ _)|(with_reducible refine Kd.C_drewN ?_ _)|(with_reducible refine Kd.C_drew ?_)));(case side2 => exact HC0_0.out);(case side3 => repeat (first|exact (Kd.C_below HR1_0.out HB.out)|(with_reducible refine Kd.C_alloc ?_ _)|(with_reducible refine Kd.C_drewN ?_ _)|(with_reducible refine Kd.C_drew ?_)));(case side4 => exact HC1_0.out);rintro e w28 ⟨rfl,hb⟩;refine ⟨_,rfl,?_⟩;have n0_:=Aside0.mk (blk_below (g:=gb193) (o:=.cells #[.slice A0_0 l0_0.length c0_0,.slice A0_1 l0_1.length c0_1] 41 (0,0)) (by (with_reducible repeat (first|refine blk_drewN ?_ _|refine blk_drew ?_|refine blk_alloc ?_ _));exact BK193.out) hb);have n1_:=Aside0.mk (blk_below (g:=gb194) (o:=.cells #[.slice A1_0 l1_0.length c1_0,.slice A1_1 l1_1.length c1_1] 41 (0,0)) (by (with_reducible repeat (first|refine blk_drewN ?_ _|refine blk_drew ?_|refine blk_alloc ?_ _));exact BK194.out) hb);have n2_:=Aside0.mk (below_step (by repeat (first|(with_reducible first|exact HB.out|apply below_alloc|apply pw_below_drewN|apply below_drew1|refine below_set ?_ GE193.out|refine below_set ?_ GE194.out)|exact HB.out)) hb);clear BK193;clear BK194;clear HB;have BK193:=n0_;have BK194:=n1_;have HB:=n2_;clear n0_ n1_ n2_;(try clear hb)))
  go_ret
  exact ⟨by first|rfl|(simp [errW_none,errW_some] <;> rfl)|(simp [*,errW_none,errW_some] <;> rfl),by repeat (first|(with_reducible first|exact HB.out|apply below_alloc|apply pw_below_drewN|apply below_drew1|refine below_set ?_ GE193.out|refine below_set ?_ GE194.out)|exact HB.out)⟩

end Go.Proofs.YtojedbogbodkiaaDoor.KDb
