/- Of this claim's own making;what nothing names is struck (fewall.py). -/
import Derived.Test.YtojedbogbodkiaaDoorKGrx0
import Derived.Test.YtojedbogbodkiaaDoorKGrx6
namespace Go.Proofs.YtojedbogbodkiaaDoor.KGr
open Go.RowKit Go.Proofs.YtojedbogbodkiaaDoorW.PrintWords Go.Proofs.YtojedbogbodkiaaDoorW.PrintLast Go.Proofs.YtojedbogbodkiaaDoorW.PrintMore
attribute [local go_sem] max2_int min2_int max_two min_two max_three min_three max_four min_four   -- for this text's walks alone
set_option linter.unusedVariables false
set_option linter.unusedSimpArgs false
set_option linter.unusedSectionVars false
variable [fk_laws_szTerm] [fk_laws_eqTerm] [fk_spec_l34Term] [fk_strconv_Itoa]
def impl_TermOk.f (k : Nat) (a0_0 : Int) (a0_1 : ByteArray) (a0_2 : Int) (l0_3 : List (S29)) : Option (Bool):=(impl_sized.f k a0_0 a0_1 a0_2 l0_3 1).bind fun t206 => (some (decide (t206 ≤ 400)))
theorem impl_TermOk.mono : ∀ a0 a1 a2 a3 k,LeO (impl_TermOk.f k a0 a1 a2 a3) (impl_TermOk.f (k + 1) a0 a1 a2 a3):=by
 intro a0 a1 a2 a3 k
 unfold impl_TermOk.f
 repeat' first
   | (with_reducible exact impl_sized.mono _ _ _ _ _ _)
   | (with_reducible exact LeO.refl _)
   | (with_reducible exact LeO.none _)
   | (with_reducible refine LeO.ite ?_ ?_)
   | (with_reducible refine LeO.bind ?_ (fun _ => ?_))
   | exact impl_sized.mono _ _ _ _ _ _
   | exact LeO.none _
   | refine LeO.ite ?_ ?_
   | refine LeO.bind ?_ (fun _ => ?_)
set_option maxHeartbeats 8000000 in
set_option maxRecDepth 100000 in
theorem impl_TermOk.calls (k : Nat) (a0_0 : Int) (a0_1 : ByteArray) (a0_2 : Int) (A0_3 : Option Addr) (c0_3 : Nat) (l0_3 : List (S29)) (r : Bool) (w : World) (hr0_3 : Kd.C k29 w A0_3 l0_3.length l0_3) (hc0_3 : l0_3.length ≤ c0_3) (h : impl_TermOk.f k a0_0 a0_1 a0_2 l0_3 = some r) :
  Calls Tryd.prog 56 #[.agg #[.int .i64 a0_0,.string a0_1,.int .i64 a0_2,.slice A0_3 l0_3.length c0_3]] w fun e w' => e = .returned (.bool r) ∧ Below w.heap.size w w':=by
 have hu29:=Tryd.underlying29
 have HR0_3:=asd hr0_3
 have HC0_3:=asd hc0_3
 clear hr0_3 hc0_3
 have HB:=asd (Below.refl w.heap.size w)
 have H : ((impl_sized.f k a0_0 a0_1 a0_2 l0_3 1).bind fun t206 => (some (decide (t206 ≤ 400)))) = some r:=h
 clear h
 replace H:=Option.bind_eq_some_iff.mp H
 obtain ⟨t206,A20,H⟩:=H
 replace H : (some (decide (t206 ≤ 400))) = some r:=H
 have A2:=asd A20
 clear A20
 obtain rfl:=Option.some.inj H
 go_enter Tryd.func56,Tryd.ntmps56
 go_wp2_with (first|((with_reducible refine gate_dst (N:=1) rfl ?_);refine box_event ?hg (N:=1) ?hd (cs:=#[.int .i64 a0_0,.string a0_1,.int .i64 a0_2,.slice A0_3 l0_3.length c0_3]) (t:=29) ?hr ?_;(case hd => rfl);(case hg => rfl);(case hr => first|(go_simp;done)|(go_simp;rfl));intro gb205 hg w3 hbox hb;have n0_:=asd (below_step (by repeat (first|(with_reducible first|exact HB.out|apply below_alloc|apply pw_below_drewN|apply below_drew1)|exact HB.out)) hb);have n1_:=asd (hbox);have n2_:=asd ((by rw [hg];exact (below_size (by repeat (first|(with_reducible first|exact HB.out|apply below_alloc|apply pw_below_drewN|apply below_drew1)|exact HB.out))) : w.heap.size ≤ gb205));have n3_:=asd ((by rw [hg];exact (below_size (by repeat (first|(with_reducible first|exact HB.out|apply below_alloc|apply pw_below_drewN|apply below_drew1)|exact HB.out))) : w.heap.size ≤ gb205));clear HB;have HB:=n0_;have BK205:=n1_;have GW205:=n2_;have GE205:=n3_;clear n0_ n1_ n2_ n3_;clear hb hbox hg;have hcz4_0 : w3.cell? ⟨gb205,0,none⟩ = some (.int .i64 a0_0):=(blk_cell BK205.out 0).trans rfl;have hcz4_1 : w3.cell? ⟨gb205,1,none⟩ = some (.string a0_1):=(blk_cell BK205.out 1).trans rfl;have hcz4_2 : w3.cell? ⟨gb205,2,none⟩ = some (.int .i64 a0_2):=(blk_cell BK205.out 2).trans rfl;have hcz4_3 : w3.cell? ⟨gb205,3,none⟩ = some (.slice A0_3 l0_3.length c0_3):=(blk_cell BK205.out 3).trans rfl;have hfz4_0:=blk_frozen BK205.out 0;have hfz4_1:=blk_frozen BK205.out 1;have hfz4_2:=blk_frozen BK205.out 2;have hfz4_3:=blk_frozen BK205.out 3)|((with_reducible refine gate_callee (f:=88) rfl ?_);refine goesL_ (some 4) rfl rfl Tryd.func88 (by kernel_rfl) rfl #[.agg #[.int .i64 a0_0,.string a0_1,.int .i64 a0_2,.slice A0_3 l0_3.length c0_3],.int .i64 1] rfl (by (try simp only [List.map_toArray,List.map_cons,List.map_nil]);first|done|rfl|(simp only [List.length_drop,List.length_take];rfl)) ?_;(with_reducible refine (impl_sized.calls k a0_0 a0_1 a0_2 _ _ l0_3 1 t206 _ ?side1 ?side2 A2.out).mono ?_);(case side1 => repeat (first|exact (Kd.C_below HR0_3.out HB.out)|(with_reducible refine Kd.C_alloc ?_ _)|(with_reducible refine Kd.C_drewN ?_ _)|(with_reducible refine Kd.C_drew ?_)));(case side2 => exact HC0_3.out);rintro e w5 ⟨rfl,hb⟩;refine ⟨_,rfl,?_⟩;have n0_:=asd (blk_below (g:=gb205) (o:=.cells #[.int .i64 a0_0,.string a0_1,.int .i64 a0_2,.slice A0_3 l0_3.length c0_3] 29 (0,0)) (by (with_reducible repeat (first|refine blk_drewN ?_ _|refine blk_drew ?_|refine blk_alloc ?_ _));exact BK205.out) hb);have n1_:=asd (below_step (by repeat (first|(with_reducible first|exact HB.out|apply below_alloc|apply pw_below_drewN|apply below_drew1|refine below_set ?_ GE205.out)|exact HB.out)) hb);clear BK205;clear HB;have BK205:=n0_;have HB:=n1_;clear n0_ n1_;(try clear hb)))
 go_ret
 exact ⟨by first|rfl|(simp [errW_none,errW_some] <;> rfl)|(simp [*,errW_none,errW_some] <;> rfl),by repeat (first|(with_reducible first|exact HB.out|apply below_alloc|apply pw_below_drewN|apply below_drew1|refine below_set ?_ GE205.out)|exact HB.out)⟩
def impl_isStruct.f (a0_0 : Int) (a0_1 : ByteArray) (a0_2 : Int) (l0_3 : List (S29)) (a1 : ByteArray) (a2 : Int) : Option (Bool):=if a0_0 = 4 then (if a0_1.toList = a1.toList then (some ((l0_3.length : Int) == a2)) else (some false)) else (some false)
set_option maxHeartbeats 8000000 in
set_option maxRecDepth 100000 in
theorem impl_isStruct.calls (a0_0 : Int) (a0_1 : ByteArray) (a0_2 : Int) (A0_3 : Option Addr) (c0_3 : Nat) (l0_3 : List (S29)) (a1 : ByteArray) (a2 : Int) (r : Bool) (w : World) (hr0_3 : Kd.C k29 w A0_3 l0_3.length l0_3) (hc0_3 : l0_3.length ≤ c0_3) (h : impl_isStruct.f a0_0 a0_1 a0_2 l0_3 a1 a2 = some r) :
  Calls Tryd.prog 61 #[.agg #[.int .i64 a0_0,.string a0_1,.int .i64 a0_2,.slice A0_3 l0_3.length c0_3],.string a1,.int .i64 a2] w fun e w' => e = .returned (.bool r) ∧ Below w.heap.size w w':=by
 have hu29:=Tryd.underlying29
 have HR0_3:=asd hr0_3
 have HC0_3:=asd hc0_3
 clear hr0_3 hc0_3
 have HB:=asd (Below.refl w.heap.size w)
 have H : (if a0_0 = 4 then (if a0_1.toList = a1.toList then (some ((l0_3.length : Int) == a2)) else (some false)) else (some false)) = some r:=h
 clear h
 by_cases c4 : a0_0 = 4
 ·rw [if_pos c4] at H
  have c4b0 : (a0_0 == 4) = true:=beq_iff_eq.mpr c4
  have c4b1 : (a0_0 != 4) = false:=bne_eq_false_iff_eq.mpr c4
  clear c4
  by_cases c5 : a0_1.toList = a1.toList
  ·rw [if_pos c5] at H
   have c5b0 : (a0_1.toList == a1.toList) = true:=beq_iff_eq.mpr c5
   have c5b1 : (a0_1.toList != a1.toList) = false:=bne_eq_false_iff_eq.mpr c5
   clear c5
   obtain rfl:=Option.some.inj H
   go_enter Tryd.func61,Tryd.ntmps61
   go_wp2_with (first|((with_reducible refine gate_dst (N:=3) rfl ?_);(try (refine gate_guard (by rfl) ?_;dsimp only));refine box_event ?hg (N:=3) ?hd (cs:=#[.int .i64 a0_0,.string a0_1,.int .i64 a0_2,.slice A0_3 l0_3.length c0_3]) (t:=29) ?hr ?_;(case hd => rfl);(case hg => rfl);(case hr => first|(go_simp;done)|(go_simp;rfl));intro gb207 hg w6 hbox hb;have n0_:=asd (below_step (by repeat (first|(with_reducible first|exact HB.out|apply below_alloc|apply pw_below_drewN|apply below_drew1)|exact HB.out)) hb);have n1_:=asd (hbox);have n2_:=asd ((by rw [hg];exact (below_size (by repeat (first|(with_reducible first|exact HB.out|apply below_alloc|apply pw_below_drewN|apply below_drew1)|exact HB.out))) : w.heap.size ≤ gb207));have n3_:=asd ((by rw [hg];exact (below_size (by repeat (first|(with_reducible first|exact HB.out|apply below_alloc|apply pw_below_drewN|apply below_drew1)|exact HB.out))) : w.heap.size ≤ gb207));clear HB;have HB:=n0_;have BK207:=n1_;have GW207:=n2_;have GE207:=n3_;clear n0_ n1_ n2_ n3_;clear hb hbox hg;have hcz7_0 : w6.cell? ⟨gb207,0,none⟩ = some (.int .i64 a0_0):=(blk_cell BK207.out 0).trans rfl;have hcz7_1 : w6.cell? ⟨gb207,1,none⟩ = some (.string a0_1):=(blk_cell BK207.out 1).trans rfl;have hcz7_2 : w6.cell? ⟨gb207,2,none⟩ = some (.int .i64 a0_2):=(blk_cell BK207.out 2).trans rfl;have hcz7_3 : w6.cell? ⟨gb207,3,none⟩ = some (.slice A0_3 l0_3.length c0_3):=(blk_cell BK207.out 3).trans rfl;have hfz7_0:=blk_frozen BK207.out 0;have hfz7_1:=blk_frozen BK207.out 1;have hfz7_2:=blk_frozen BK207.out 2;have hfz7_3:=blk_frozen BK207.out 3))
   go_ret
   exact ⟨by first|rfl|(simp [errW_none,errW_some] <;> rfl)|(simp [*,errW_none,errW_some] <;> rfl),by repeat (first|(with_reducible first|exact HB.out|apply below_alloc|apply pw_below_drewN|apply below_drew1|refine below_set ?_ GE207.out)|exact HB.out)⟩
  ·rw [if_neg c5] at H
   have c5b0 : (a0_1.toList == a1.toList) = false:=beq_eq_false_iff_ne.mpr c5
   have c5b1 : (a0_1.toList != a1.toList) = true:=bne_iff_ne.mpr c5
   obtain rfl:=Option.some.inj H
   go_enter Tryd.func61,Tryd.ntmps61
   go_wp2_with (first|((with_reducible refine gate_dst (N:=3) rfl ?_);(try (refine gate_guard (by rfl) ?_;dsimp only));refine box_event ?hg (N:=3) ?hd (cs:=#[.int .i64 a0_0,.string a0_1,.int .i64 a0_2,.slice A0_3 l0_3.length c0_3]) (t:=29) ?hr ?_;(case hd => rfl);(case hg => rfl);(case hr => first|(go_simp;done)|(go_simp;rfl));intro gb207 hg w8 hbox hb;have n0_:=asd (below_step (by repeat (first|(with_reducible first|exact HB.out|apply below_alloc|apply pw_below_drewN|apply below_drew1)|exact HB.out)) hb);have n1_:=asd (hbox);have n2_:=asd ((by rw [hg];exact (below_size (by repeat (first|(with_reducible first|exact HB.out|apply below_alloc|apply pw_below_drewN|apply below_drew1)|exact HB.out))) : w.heap.size ≤ gb207));have n3_:=asd ((by rw [hg];exact (below_size (by repeat (first|(with_reducible first|exact HB.out|apply below_alloc|apply pw_below_drewN|apply below_drew1)|exact HB.out))) : w.heap.size ≤ gb207));clear HB;have HB:=n0_;have BK207:=n1_;have GW207:=n2_;have GE207:=n3_;clear n0_ n1_ n2_ n3_;clear hb hbox hg;have hcz9_0 : w8.cell? ⟨gb207,0,none⟩ = some (.int .i64 a0_0):=(blk_cell BK207.out 0).trans rfl;have hcz9_1 : w8.cell? ⟨gb207,1,none⟩ = some (.string a0_1):=(blk_cell BK207.out 1).trans rfl;have hcz9_2 : w8.cell? ⟨gb207,2,none⟩ = some (.int .i64 a0_2):=(blk_cell BK207.out 2).trans rfl;have hcz9_3 : w8.cell? ⟨gb207,3,none⟩ = some (.slice A0_3 l0_3.length c0_3):=(blk_cell BK207.out 3).trans rfl;have hfz9_0:=blk_frozen BK207.out 0;have hfz9_1:=blk_frozen BK207.out 1;have hfz9_2:=blk_frozen BK207.out 2;have hfz9_3:=blk_frozen BK207.out 3))
   go_ret
   exact ⟨by first|rfl|(simp [errW_none,errW_some] <;> rfl)|(simp [*,errW_none,errW_some] <;> rfl),by repeat (first|(with_reducible first|exact HB.out|apply below_alloc|apply pw_below_drewN|apply below_drew1|refine below_set ?_ GE207.out)|exact HB.out)⟩
 ·rw [if_neg c4] at H
  have c4b0 : (a0_0 == 4) = false:=beq_eq_false_iff_ne.mpr c4
  have c4b1 : (a0_0 != 4) = true:=bne_iff_ne.mpr c4
  obtain rfl:=Option.some.inj H
  go_enter Tryd.func61,Tryd.ntmps61
  go_wp2_with (first|((with_reducible refine gate_dst (N:=3) rfl ?_);(try (refine gate_guard (by rfl) ?_;dsimp only));refine box_event ?hg (N:=3) ?hd (cs:=#[.int .i64 a0_0,.string a0_1,.int .i64 a0_2,.slice A0_3 l0_3.length c0_3]) (t:=29) ?hr ?_;(case hd => rfl);(case hg => rfl);(case hr => first|(go_simp;done)|(go_simp;rfl));intro gb207 hg w10 hbox hb;have n0_:=asd (below_step (by repeat (first|(with_reducible first|exact HB.out|apply below_alloc|apply pw_below_drewN|apply below_drew1)|exact HB.out)) hb);have n1_:=asd (hbox);have n2_:=asd ((by rw [hg];exact (below_size (by repeat (first|(with_reducible first|exact HB.out|apply below_alloc|apply pw_below_drewN|apply below_drew1)|exact HB.out))) : w.heap.size ≤ gb207));have n3_:=asd ((by rw [hg];exact (below_size (by repeat (first|(with_reducible first|exact HB.out|apply below_alloc|apply pw_below_drewN|apply below_drew1)|exact HB.out))) : w.heap.size ≤ gb207));clear HB;have HB:=n0_;have BK207:=n1_;have GW207:=n2_;have GE207:=n3_;clear n0_ n1_ n2_ n3_;clear hb hbox hg;have hcz11_0 : w10.cell? ⟨gb207,0,none⟩ = some (.int .i64 a0_0):=(blk_cell BK207.out 0).trans rfl;have hcz11_1 : w10.cell? ⟨gb207,1,none⟩ = some (.string a0_1):=(blk_cell BK207.out 1).trans rfl;have hcz11_2 : w10.cell? ⟨gb207,2,none⟩ = some (.int .i64 a0_2):=(blk_cell BK207.out 2).trans rfl;have hcz11_3 : w10.cell? ⟨gb207,3,none⟩ = some (.slice A0_3 l0_3.length c0_3):=(blk_cell BK207.out 3).trans rfl;have hfz11_0:=blk_frozen BK207.out 0;have hfz11_1:=blk_frozen BK207.out 1;have hfz11_2:=blk_frozen BK207.out 2;have hfz11_3:=blk_frozen BK207.out 3))
  go_ret
  exact ⟨by first|rfl|(simp [errW_none,errW_some] <;> rfl)|(simp [*,errW_none,errW_some] <;> rfl),by repeat (first|(with_reducible first|exact HB.out|apply below_alloc|apply pw_below_drewN|apply below_drew1|refine below_set ?_ GE207.out)|exact HB.out)⟩
mutual
def impl_varsUpTo.l0 : Nat → Int → List (S29) → Int → Int → Option (Int)
 | 0,_,_,_,_ => none
 | k + 1,x3,x6,x7,x8 => if x8 < x7 then (if 0 ≤ x8 then (if x8 < (x6.length : Int) then (if ((rd_T29 x6 x8).f0) = 1 then ((impl_varsUpTo.f k ((rd_T29 x6 x8).f3)).bind fun t210 => (impl_varsUpTo.l0 k (mx (mx x3 (wrap64 (((rd_T29 x6 x8).f2) + 1))) t210) x6 x7 (wrap64 (x8 + 1)))) else ((impl_varsUpTo.f k ((rd_T29 x6 x8).f3)).bind fun t211 => (impl_varsUpTo.l0 k (mx x3 t211) x6 x7 (wrap64 (x8 + 1))))) else (none)) else (none)) else (some x3)
def impl_varsUpTo.f : Nat → List (S29) → Option (Int)
 | 0,_ => none
 | k + 1,l0 => impl_varsUpTo.l0 k 0 l0 (l0.length : Int) 0
end
theorem impl_varsUpTo.mono_l : ∀ k,(∀ y0,LeO (impl_varsUpTo.f k y0) (impl_varsUpTo.f (k + 1) y0)) ∧ (∀ y0 y1 y2 y3,LeO (impl_varsUpTo.l0 k y0 y1 y2 y3) (impl_varsUpTo.l0 (k + 1) y0 y1 y2 y3))
 | 0 => ⟨fun _ r h => by simp [impl_varsUpTo.f] at h,fun _ _ _ _ r h => by simp [impl_varsUpTo.l0] at h⟩
 | k + 1 => by
  obtain ⟨ih0,ih1⟩:=impl_varsUpTo.mono_l k
  refine ⟨?_,?_⟩
  ·intro y0
   unfold impl_varsUpTo.f
   repeat' first
   | (with_reducible exact ih0 _)
   | (with_reducible exact ih1 _ _ _ _)
   | (with_reducible exact LeO.refl _)
   | (with_reducible exact LeO.none _)
   | (with_reducible refine LeO.ite ?_ ?_)
   | (with_reducible refine LeO.bind ?_ (fun _ => ?_))
   | exact ih0 _
   | exact ih1 _ _ _ _
   | exact LeO.none _
   | refine LeO.ite ?_ ?_
   | refine LeO.bind ?_ (fun _ => ?_)
  ·intro y0 y1 y2 y3
   unfold impl_varsUpTo.l0
   repeat' first
   | (with_reducible exact ih0 _)
   | (with_reducible exact ih1 _ _ _ _)
   | (with_reducible exact LeO.refl _)
   | (with_reducible exact LeO.none _)
   | (with_reducible refine LeO.ite ?_ ?_)
   | (with_reducible refine LeO.bind ?_ (fun _ => ?_))
   | exact ih0 _
   | exact ih1 _ _ _ _
   | exact LeO.none _
   | refine LeO.ite ?_ ?_
   | refine LeO.bind ?_ (fun _ => ?_)
theorem impl_varsUpTo.mono : ∀ a0 k,LeO (impl_varsUpTo.f k a0) (impl_varsUpTo.f (k + 1) a0):=by
 intro a0 k
 obtain ⟨ih0,ih1⟩:=impl_varsUpTo.mono_l k
 exact ih0 a0
set_option maxHeartbeats 8000000 in
set_option maxRecDepth 100000 in
theorem impl_varsUpTo.calls (k : Nat) : ∀ (A0 : Option Addr) (c0 : Nat) (l0 : List (S29)) (r : Int) (w : World) (hr0 : Kd.C k29 w A0 l0.length l0) (hc0 : l0.length ≤ c0) (h : impl_varsUpTo.f k l0 = some r),
  Calls Tryd.prog 76 #[.slice A0 l0.length c0] w fun e w' => e = .returned (.int .i64 r) ∧ Below w.heap.size w w':=by
 induction k using Nat.strongRecOn with
 | _ k ih =>
 intro A0 c0 l0 r w hr0 hc0 h
 cases k with
 | zero => exact absurd h (by simp [impl_varsUpTo.f])
 | succ k =>
 simp only [impl_varsUpTo.f] at h
 have hu29:=Tryd.underlying29
 have HR0:=asd hr0
 have HC0:=asd hc0
 clear hr0 hc0
 have HB:=asd (Below.refl w.heap.size w)
 have H : (impl_varsUpTo.l0 k 0 l0 (l0.length : Int) 0) = some r:=h
 clear h
 have H':=asd H
 clear H
 go_enter Tryd.func76,Tryd.ntmps76
 go_wp2
 go_loopg [3,8] k (fun kq v3 v8 w' => ∃ (x3_1 : Int) (x8_1 : Int),v3 = .int .i64 x3_1 ∧ v8 = .int .i64 x8_1 ∧ Aside0 (impl_varsUpTo.l0 kq x3_1 l0 (l0.length : Int) x8_1 = some r) ∧ Aside0 (kq ≤ k) ∧ Aside0 (Below w.heap.size w w'))
 case atStart => exact ⟨(0),(0),(by first|rfl|(simp;done)|(simp [*];done)),(by first|rfl|(simp;done)|(simp [*];done)),H',⟨Nat.le_refl _⟩,⟨by repeat (first|(with_reducible first|exact HB.out|apply below_alloc|apply pw_below_drewN|apply below_drew1)|exact HB.out)⟩⟩
 case round =>
  clear H'
  obtain ⟨x3_1,x8_1,rfl,rfl,HA,HK1,HB⟩:=hrel
  cases gk with
  | zero => exact absurd HA.out (by simp [impl_varsUpTo.l0])
  | succ k1 =>
   have H:=HA.out
   clear HA
   simp only [impl_varsUpTo.l0] at H
   by_cases c2 : x8_1 < (l0.length : Int)
   ·rw [if_pos c2] at H
    have c2b0 : decide (x8_1 < (l0.length : Int)) = true:=decide_eq_true c2
    clear c2
    by_cases c3 : 0 ≤ x8_1
    rotate_left
    ·rw [if_neg c3] at H
     exact absurd H (by simp)
    rw [if_pos c3] at H
    have c3b0 : decide (0 ≤ x8_1) = true:=decide_eq_true c3
    clear c3
    by_cases c4 : x8_1 < (l0.length : Int)
    rotate_left
    ·rw [if_neg c4] at H
     exact absurd H (by simp)
    rw [if_pos c4] at H
    have c4b0 : decide (x8_1 < (l0.length : Int)) = true:=decide_eq_true c4
    clear c4
    by_cases c5 : ((rd_T29 l0 x8_1).f0) = 1
    ·rw [if_pos c5] at H
     have c5b0 : (((rd_T29 l0 x8_1).f0) == 1) = true:=beq_iff_eq.mpr c5
     have c5b1 : (((rd_T29 l0 x8_1).f0) != 1) = false:=bne_eq_false_iff_eq.mpr c5
     clear c5
     obtain ⟨ji6,hji6⟩ : ∃ j_ : Int,(mx x3_1 (wrap64 (((rd_T29 l0 x8_1).f2) + 1))) = j_:=⟨_,rfl⟩
     replace H : ((impl_varsUpTo.f k1 ((rd_T29 l0 x8_1).f3)).bind fun t210 => (impl_varsUpTo.l0 k1 (mx (ji6) t210) l0 (l0.length : Int) (wrap64 (x8_1 + 1)))) = some r:=by first|(rw [hji6] at H;exact H)|(simp only [hji6] at H ⊢;exact H)
     have hji6_ : (if x3_1 < (wrap64 (((rd_T29 l0 x8_1).f2) + 1)) then (wrap64 (((rd_T29 l0 x8_1).f2) + 1)) else x3_1) = ji6:=hji6
     replace H:=Option.bind_eq_some_iff.mp H
     obtain ⟨t210,A70,H⟩:=H
     replace H : (impl_varsUpTo.l0 k1 (mx (ji6) t210) l0 (l0.length : Int) (wrap64 (x8_1 + 1))) = some r:=H
     have A7:=asd A70
     clear A70
     obtain ⟨ji8,hji8⟩ : ∃ j_ : Int,(mx (ji6) t210) = j_:=⟨_,rfl⟩
     replace H : (impl_varsUpTo.l0 k1 ji8 l0 (l0.length : Int) (wrap64 (x8_1 + 1))) = some r:=by first|(rw [hji8] at H;exact H)|(simp only [hji8] at H ⊢;exact H)
     (try rw [hji8] at A7)
     have hji8_ : (if (ji6) < t210 then t210 else (ji6)) = ji8:=hji8
     have H':=asd H
     clear H
     have p208 : 0 ≤ (x8_1 : Int):=of_decide_eq_true (by first|(with_reducible assumption)|assumption)
     have q208 : x8_1 < (l0.length : Int):=of_decide_eq_true (by first|(with_reducible assumption)|assumption)
     obtain ⟨ad208,A208_3,c208_3,e208,hx208_0,hx208_1,hx208_2,hx208_3,hl208_3,hi208_3⟩:=at_T29 HR0.out x8_1 p208 q208
     cases e208
     replace hx208_0:=(HB.out.cell (World.block_lt_of_cell? w _ hx208_0)).trans hx208_0
     replace hx208_1:=(HB.out.cell (World.block_lt_of_cell? w _ hx208_1)).trans hx208_1
     replace hx208_2:=(HB.out.cell (World.block_lt_of_cell? w _ hx208_2)).trans hx208_2
     replace hx208_3:=(HB.out.cell (World.block_lt_of_cell? w _ hx208_3)).trans hx208_3
     have HR208_3:=asd hi208_3
     have HC208_3:=asd hl208_3
     clear hi208_3 hl208_3
     replace p208:=eq_true p208
     replace q208:=eq_true q208
     go_wp2_with (first|((with_reducible refine gate_dst (N:=5) rfl ?_);refine box_event ?hg (N:=5) ?hd (cs:=#[.int .i64 0,.string (⟨#[]⟩ : ByteArray),.int .i64 0,.slice none 0 0]) (t:=29) ?hr ?_;(case hd => rfl);(case hg => rfl);(case hr => first|(go_simp;done)|(go_simp;rfl));intro gb209 hg w9 hbox hb;have n0_:=asd (below_step (by repeat (first|(with_reducible first|exact HB.out|apply below_alloc|apply pw_below_drewN|apply below_drew1)|exact HB.out)) hb);have n1_:=asd (hbox);have n2_:=asd ((by rw [hg];exact (below_size (by repeat (first|(with_reducible first|exact HB.out|apply below_alloc|apply pw_below_drewN|apply below_drew1)|exact HB.out))) : w.heap.size ≤ gb209));have n3_:=asd ((by rw [hg];exact (below_size (by repeat (first|(with_reducible first|exact HB.out|apply below_alloc|apply pw_below_drewN|apply below_drew1)|exact HB.out))) : w.heap.size ≤ gb209));clear HB;have HB:=n0_;have BK209:=n1_;have GW209:=n2_;have GE209:=n3_;clear n0_ n1_ n2_ n3_;clear hb hbox hg;have hcz10_0 : w9.cell? ⟨gb209,0,none⟩ = some (.int .i64 0):=(blk_cell BK209.out 0).trans rfl;have hcz10_1 : w9.cell? ⟨gb209,1,none⟩ = some (.string (⟨#[]⟩ : ByteArray)):=(blk_cell BK209.out 1).trans rfl;have hcz10_2 : w9.cell? ⟨gb209,2,none⟩ = some (.int .i64 0):=(blk_cell BK209.out 2).trans rfl;have hcz10_3 : w9.cell? ⟨gb209,3,none⟩ = some (.slice none 0 0):=(blk_cell BK209.out 3).trans rfl;have hfz10_0:=blk_frozen BK209.out 0;have hfz10_1:=blk_frozen BK209.out 1;have hfz10_2:=blk_frozen BK209.out 2;have hfz10_3:=blk_frozen BK209.out 3)|((with_reducible refine gate_callee (f:=76) rfl ?_);refine goesL_ (some 23) rfl rfl Tryd.func76 (by kernel_rfl) rfl #[.slice A208_3 ((rd_T29 l0 x8_1).f3).length c208_3] rfl (by (try simp only [List.map_toArray,List.map_cons,List.map_nil]);first|done|rfl|(simp only [List.length_drop,List.length_take];rfl)) ?_;(with_reducible refine (ih k1 (by have:=HK1.out;omega) _ _ ((rd_T29 l0 x8_1).f3) t210 _ ?side1 ?side2 A7.out).mono ?_);(case side1 => exact Kd.C_below HR208_3.out (by repeat (first|(with_reducible first|exact HB.out|apply below_alloc|apply pw_below_drewN|apply below_drew1|refine below_set ?_ GE209.out)|exact HB.out)));(case side2 => exact HC208_3.out);rintro e w11 ⟨rfl,hb⟩;refine ⟨_,rfl,?_⟩;have n0_:=asd (blk_below (g:=gb209) (o:=.cells #[.int .i64 ((rd_T29 l0 x8_1).f0),.string ((rd_T29 l0 x8_1).f1),.int .i64 ((rd_T29 l0 x8_1).f2),.slice A208_3 ((rd_T29 l0 x8_1).f3).length c208_3] 29 (0,0)) (by (with_reducible repeat (first|refine blk_drewN ?_ _|refine blk_drew ?_|refine blk_alloc ?_ _));refine blk_put (cs:=#[.int .i64 ((rd_T29 l0 x8_1).f0),.string ((rd_T29 l0 x8_1).f1),.int .i64 ((rd_T29 l0 x8_1).f2),.slice none 0 0]) ?_ 3 _ rfl;(with_reducible repeat (first|refine blk_drewN ?_ _|refine blk_drew ?_|refine blk_alloc ?_ _));refine blk_put (cs:=#[.int .i64 ((rd_T29 l0 x8_1).f0),.string ((rd_T29 l0 x8_1).f1),.int .i64 0,.slice none 0 0]) ?_ 2 _ rfl;(with_reducible repeat (first|refine blk_drewN ?_ _|refine blk_drew ?_|refine blk_alloc ?_ _));refine blk_put (cs:=#[.int .i64 ((rd_T29 l0 x8_1).f0),.string (⟨#[]⟩ : ByteArray),.int .i64 0,.slice none 0 0]) ?_ 1 _ rfl;(with_reducible repeat (first|refine blk_drewN ?_ _|refine blk_drew ?_|refine blk_alloc ?_ _));refine blk_put (cs:=#[.int .i64 0,.string (⟨#[]⟩ : ByteArray),.int .i64 0,.slice none 0 0]) ?_ 0 _ rfl;(with_reducible repeat (first|refine blk_drewN ?_ _|refine blk_drew ?_|refine blk_alloc ?_ _));exact BK209.out) hb);have n1_:=asd (below_step (by repeat (first|(with_reducible first|exact HB.out|apply below_alloc|apply pw_below_drewN|apply below_drew1|refine below_set ?_ GE209.out)|exact HB.out)) hb);clear BK209;clear HB;have BK209:=n0_;have HB:=n1_;clear n0_ n1_;(try clear hb)))
     go_roundg k1
     case measure => have:=HK1.out;omega
     case rel => exact ⟨(ji8),(wrap64 (x8_1 + 1)),(by first|rfl|(simp;done)|(simp only [← hji8] <;> (first|rfl|simp))|(simp [*];done)),(by first|rfl|(simp;done)|(simp [*];done)),H',⟨by have:=HK1.out;omega⟩,⟨by repeat (first|(with_reducible first|exact HB.out|apply below_alloc|apply pw_below_drewN|apply below_drew1|refine below_set ?_ GE209.out)|exact HB.out)⟩⟩
    ·rw [if_neg c5] at H
     have c5b0 : (((rd_T29 l0 x8_1).f0) == 1) = false:=beq_eq_false_iff_ne.mpr c5
     have c5b1 : (((rd_T29 l0 x8_1).f0) != 1) = true:=bne_iff_ne.mpr c5
     replace H:=Option.bind_eq_some_iff.mp H
     obtain ⟨t211,A120,H⟩:=H
     replace H : (impl_varsUpTo.l0 k1 (mx x3_1 t211) l0 (l0.length : Int) (wrap64 (x8_1 + 1))) = some r:=H
     have A12:=asd A120
     clear A120
     obtain ⟨ji13,hji13⟩ : ∃ j_ : Int,(mx x3_1 t211) = j_:=⟨_,rfl⟩
     replace H : (impl_varsUpTo.l0 k1 ji13 l0 (l0.length : Int) (wrap64 (x8_1 + 1))) = some r:=by first|(rw [hji13] at H;exact H)|(simp only [hji13] at H ⊢;exact H)
     (try rw [hji13] at A12)
     have hji13_ : (if x3_1 < t211 then t211 else x3_1) = ji13:=hji13
     have H':=asd H
     clear H
     have p208 : 0 ≤ (x8_1 : Int):=of_decide_eq_true (by first|(with_reducible assumption)|assumption)
     have q208 : x8_1 < (l0.length : Int):=of_decide_eq_true (by first|(with_reducible assumption)|assumption)
     obtain ⟨ad208,A208_3,c208_3,e208,hx208_0,hx208_1,hx208_2,hx208_3,hl208_3,hi208_3⟩:=at_T29 HR0.out x8_1 p208 q208
     cases e208
     replace hx208_0:=(HB.out.cell (World.block_lt_of_cell? w _ hx208_0)).trans hx208_0
     replace hx208_1:=(HB.out.cell (World.block_lt_of_cell? w _ hx208_1)).trans hx208_1
     replace hx208_2:=(HB.out.cell (World.block_lt_of_cell? w _ hx208_2)).trans hx208_2
     replace hx208_3:=(HB.out.cell (World.block_lt_of_cell? w _ hx208_3)).trans hx208_3
     have HR208_3:=asd hi208_3
     have HC208_3:=asd hl208_3
     clear hi208_3 hl208_3
     replace p208:=eq_true p208
     replace q208:=eq_true q208
     go_wp2_with (first|((with_reducible refine gate_dst (N:=5) rfl ?_);refine box_event ?hg (N:=5) ?hd (cs:=#[.int .i64 0,.string (⟨#[]⟩ : ByteArray),.int .i64 0,.slice none 0 0]) (t:=29) ?hr ?_;(case hd => rfl);(case hg => rfl);(case hr => first|(go_simp;done)|(go_simp;rfl));intro gb209 hg w14 hbox hb;have n0_:=asd (below_step (by repeat (first|(with_reducible first|exact HB.out|apply below_alloc|apply pw_below_drewN|apply below_drew1)|exact HB.out)) hb);have n1_:=asd (hbox);have n2_:=asd ((by rw [hg];exact (below_size (by repeat (first|(with_reducible first|exact HB.out|apply below_alloc|apply pw_below_drewN|apply below_drew1)|exact HB.out))) : w.heap.size ≤ gb209));have n3_:=asd ((by rw [hg];exact (below_size (by repeat (first|(with_reducible first|exact HB.out|apply below_alloc|apply pw_below_drewN|apply below_drew1)|exact HB.out))) : w.heap.size ≤ gb209));clear HB;have HB:=n0_;have BK209:=n1_;have GW209:=n2_;have GE209:=n3_;clear n0_ n1_ n2_ n3_;clear hb hbox hg;have hcz15_0 : w14.cell? ⟨gb209,0,none⟩ = some (.int .i64 0):=(blk_cell BK209.out 0).trans rfl;have hcz15_1 : w14.cell? ⟨gb209,1,none⟩ = some (.string (⟨#[]⟩ : ByteArray)):=(blk_cell BK209.out 1).trans rfl;have hcz15_2 : w14.cell? ⟨gb209,2,none⟩ = some (.int .i64 0):=(blk_cell BK209.out 2).trans rfl;have hcz15_3 : w14.cell? ⟨gb209,3,none⟩ = some (.slice none 0 0):=(blk_cell BK209.out 3).trans rfl;have hfz15_0:=blk_frozen BK209.out 0;have hfz15_1:=blk_frozen BK209.out 1;have hfz15_2:=blk_frozen BK209.out 2;have hfz15_3:=blk_frozen BK209.out 3)|((with_reducible refine gate_callee (f:=76) rfl ?_);refine goesL_ (some 23) rfl rfl Tryd.func76 (by kernel_rfl) rfl #[.slice A208_3 ((rd_T29 l0 x8_1).f3).length c208_3] rfl (by (try simp only [List.map_toArray,List.map_cons,List.map_nil]);first|done|rfl|(simp only [List.length_drop,List.length_take];rfl)) ?_;(with_reducible refine (ih k1 (by have:=HK1.out;omega) _ _ ((rd_T29 l0 x8_1).f3) t211 _ ?side1 ?side2 A12.out).mono ?_);(case side1 => exact Kd.C_below HR208_3.out (by repeat (first|(with_reducible first|exact HB.out|apply below_alloc|apply pw_below_drewN|apply below_drew1|refine below_set ?_ GE209.out)|exact HB.out)));(case side2 => exact HC208_3.out);rintro e w16 ⟨rfl,hb⟩;refine ⟨_,rfl,?_⟩;have n0_:=asd (blk_below (g:=gb209) (o:=.cells #[.int .i64 ((rd_T29 l0 x8_1).f0),.string ((rd_T29 l0 x8_1).f1),.int .i64 ((rd_T29 l0 x8_1).f2),.slice A208_3 ((rd_T29 l0 x8_1).f3).length c208_3] 29 (0,0)) (by (with_reducible repeat (first|refine blk_drewN ?_ _|refine blk_drew ?_|refine blk_alloc ?_ _));refine blk_put (cs:=#[.int .i64 ((rd_T29 l0 x8_1).f0),.string ((rd_T29 l0 x8_1).f1),.int .i64 ((rd_T29 l0 x8_1).f2),.slice none 0 0]) ?_ 3 _ rfl;(with_reducible repeat (first|refine blk_drewN ?_ _|refine blk_drew ?_|refine blk_alloc ?_ _));refine blk_put (cs:=#[.int .i64 ((rd_T29 l0 x8_1).f0),.string ((rd_T29 l0 x8_1).f1),.int .i64 0,.slice none 0 0]) ?_ 2 _ rfl;(with_reducible repeat (first|refine blk_drewN ?_ _|refine blk_drew ?_|refine blk_alloc ?_ _));refine blk_put (cs:=#[.int .i64 ((rd_T29 l0 x8_1).f0),.string (⟨#[]⟩ : ByteArray),.int .i64 0,.slice none 0 0]) ?_ 1 _ rfl;(with_reducible repeat (first|refine blk_drewN ?_ _|refine blk_drew ?_|refine blk_alloc ?_ _));refine blk_put (cs:=#[.int .i64 0,.string (⟨#[]⟩ : ByteArray),.int .i64 0,.slice none 0 0]) ?_ 0 _ rfl;(with_reducible repeat (first|refine blk_drewN ?_ _|refine blk_drew ?_|refine blk_alloc ?_ _));exact BK209.out) hb);have n1_:=asd (below_step (by repeat (first|(with_reducible first|exact HB.out|apply below_alloc|apply pw_below_drewN|apply below_drew1|refine below_set ?_ GE209.out)|exact HB.out)) hb);clear BK209;clear HB;have BK209:=n0_;have HB:=n1_;clear n0_ n1_;(try clear hb)))
     go_roundg k1
     case measure => have:=HK1.out;omega
     case rel => exact ⟨(ji13),(wrap64 (x8_1 + 1)),(by first|rfl|(simp;done)|(simp only [← hji13] <;> (first|rfl|simp))|(simp [*];done)),(by first|rfl|(simp;done)|(simp [*];done)),H',⟨by have:=HK1.out;omega⟩,⟨by repeat (first|(with_reducible first|exact HB.out|apply below_alloc|apply pw_below_drewN|apply below_drew1|refine below_set ?_ GE209.out)|exact HB.out)⟩⟩
   ·rw [if_neg c2] at H
    have c2b0 : decide (x8_1 < (l0.length : Int)) = false:=decide_eq_false c2
    clear c2
    obtain rfl:=Option.some.inj H
    go_wp2
    go_ret
    exact ⟨by first|rfl|(simp [errW_none,errW_some] <;> rfl)|(simp [*,errW_none,errW_some] <;> rfl),by repeat (first|(with_reducible first|exact HB.out|apply below_alloc|apply pw_below_drewN|apply below_drew1)|exact HB.out)⟩
def impl_variable.f (a0 : Int) : Option (Int × ByteArray × Int × (List (S29))):=some (1,(⟨#[]⟩ : ByteArray),a0,([] : List (S29)))
set_option maxHeartbeats 8000000 in
set_option maxRecDepth 100000 in
theorem impl_variable.calls (a0 : Int) (r1 : Int) (r2 : ByteArray) (r3 : Int) (r4 : List (S29)) (w : World) (h : impl_variable.f a0 = some (r1,r2,r3,r4)) :
  Calls Tryd.prog 101 #[.int .i64 a0] w fun e w' => ∃ v3_ : Value,e = .returned (.agg #[.int .i64 r1,.string r2,.int .i64 r3,v3_]) ∧ Kd.R k29 29 w' w.heap.size (fun _ => True) v3_ r4 ∧ Below w.heap.size w w':=by
 have hu29:=Tryd.underlying29
 have HB:=asd (Below.refl w.heap.size w)
 have H : (some (1,(⟨#[]⟩ : ByteArray),a0,([] : List (S29)))) = some (r1,r2,r3,r4):=h
 clear h
 simp only [Option.some.injEq,Prod.mk.injEq] at H
 obtain ⟨rfl,rfl,rfl,rfl⟩:=H
 go_enter Tryd.func101,Tryd.ntmps101
 go_wp2_with (first|((with_reducible refine gate_dst (N:=2) rfl ?_);refine box_event ?hg (N:=2) ?hd (cs:=#[.int .i64 0,.string (⟨#[]⟩ : ByteArray),.int .i64 0,.slice none 0 0]) (t:=29) ?hr ?_;(case hd => rfl);(case hg => rfl);(case hr => first|(go_simp;done)|(go_simp;rfl));intro gb212 hg w2 hbox hb;have n0_:=asd (below_step (by repeat (first|(with_reducible first|exact HB.out|apply below_alloc|apply pw_below_drewN|apply below_drew1)|exact HB.out)) hb);have n1_:=asd (hbox);have n2_:=asd ((by rw [hg];exact (below_size (by repeat (first|(with_reducible first|exact HB.out|apply below_alloc|apply pw_below_drewN|apply below_drew1)|exact HB.out))) : w.heap.size ≤ gb212));have n3_:=asd ((by rw [hg];exact (below_size (by repeat (first|(with_reducible first|exact HB.out|apply below_alloc|apply pw_below_drewN|apply below_drew1)|exact HB.out))) : w.heap.size ≤ gb212));clear HB;have HB:=n0_;have BK212:=n1_;have GW212:=n2_;have GE212:=n3_;clear n0_ n1_ n2_ n3_;clear hb hbox hg;have hcz3_0 : w2.cell? ⟨gb212,0,none⟩ = some (.int .i64 0):=(blk_cell BK212.out 0).trans rfl;have hcz3_1 : w2.cell? ⟨gb212,1,none⟩ = some (.string (⟨#[]⟩ : ByteArray)):=(blk_cell BK212.out 1).trans rfl;have hcz3_2 : w2.cell? ⟨gb212,2,none⟩ = some (.int .i64 0):=(blk_cell BK212.out 2).trans rfl;have hcz3_3 : w2.cell? ⟨gb212,3,none⟩ = some (.slice none 0 0):=(blk_cell BK212.out 3).trans rfl;have hfz3_0:=blk_frozen BK212.out 0;have hfz3_1:=blk_frozen BK212.out 1;have hfz3_2:=blk_frozen BK212.out 2;have hfz3_3:=blk_frozen BK212.out 3))
 refine bodyPost_ret (results_cell_row rfl _ _ gb212 29 #[.int .i64 1,.string (⟨#[]⟩ : ByteArray),.int .i64 a0,.slice none 0 0] (0,0) _ rfl (by (with_reducible repeat (first|refine blk_drewN ?_ _|refine blk_drew ?_|refine blk_alloc ?_ _));refine blk_put (cs:=#[.int .i64 1,.string (⟨#[]⟩ : ByteArray),.int .i64 a0,.slice none 0 0]) ?_ 3 _ rfl;(with_reducible repeat (first|refine blk_drewN ?_ _|refine blk_drew ?_|refine blk_alloc ?_ _));refine blk_put (cs:=#[.int .i64 1,.string (⟨#[]⟩ : ByteArray),.int .i64 0,.slice none 0 0]) ?_ 2 _ rfl;(with_reducible repeat (first|refine blk_drewN ?_ _|refine blk_drew ?_|refine blk_alloc ?_ _));refine blk_put (cs:=#[.int .i64 1,.string (⟨#[]⟩ : ByteArray),.int .i64 0,.slice none 0 0]) ?_ 1 _ rfl;(with_reducible repeat (first|refine blk_drewN ?_ _|refine blk_drew ?_|refine blk_alloc ?_ _));refine blk_put (cs:=#[.int .i64 0,.string (⟨#[]⟩ : ByteArray),.int .i64 0,.slice none 0 0]) ?_ 0 _ rfl;(with_reducible repeat (first|refine blk_drewN ?_ _|refine blk_drew ?_|refine blk_alloc ?_ _));exact BK212.out) Tryd.underlying29 rfl (by kernel_rfl)) rfl ?_
 exact ⟨_,by first|rfl|(simp [errW_none,errW_some] <;> rfl)|(simp [*,errW_none,errW_some] <;> rfl),by first|exact Kd.R_nil _ _ _ _ _|exact Kd.N_nil _ _ _ _ _|exact Kd.V_nil _ _ _ _ _|exact Kd.Q_nil _ _ _ _ _|exact Kd.S_nil _ _ _ _ _,by repeat (first|(with_reducible first|exact HB.out|apply below_alloc|apply pw_below_drewN|apply below_drew1|refine below_set ?_ GE212.out)|exact HB.out)⟩
def slices_Index_string_string.l0 : Nat → List ByteArray → ByteArray → Int → Int → Option (Int)
 | 0,_,_,_,_ => none
 | k + 1,x0,x1,x7,x8 => if x8 < x7 then (if 0 ≤ x8 then (if x8 < (x0.length : Int) then (if x1.toList = (rdOf ByteArray.empty x0 x8).toList then (some x8) else (slices_Index_string_string.l0 k x0 x1 x7 (wrap64 (x8 + 1)))) else (none)) else (none)) else (some (-1))
def slices_Index_string_string.f (k : Nat) (l0 : List ByteArray) (a1 : ByteArray) : Option (Int):=slices_Index_string_string.l0 k l0 a1 (l0.length : Int) 0
theorem slices_Index_string_string.mono_l : ∀ k,(∀ y0 y1 y2 y3,LeO (slices_Index_string_string.l0 k y0 y1 y2 y3) (slices_Index_string_string.l0 (k + 1) y0 y1 y2 y3))
 | 0 => fun _ _ _ _ r h => by simp [slices_Index_string_string.l0] at h
 | k + 1 => by
  have ih0:=slices_Index_string_string.mono_l k
  ·intro y0 y1 y2 y3
   unfold slices_Index_string_string.l0
   repeat' first
   | (with_reducible exact ih0 _ _ _ _)
   | (with_reducible exact LeO.refl _)
   | (with_reducible exact LeO.none _)
   | (with_reducible refine LeO.ite ?_ ?_)
   | (with_reducible refine LeO.bind ?_ (fun _ => ?_))
   | exact ih0 _ _ _ _
   | exact LeO.none _
   | refine LeO.ite ?_ ?_
   | refine LeO.bind ?_ (fun _ => ?_)
theorem slices_Index_string_string.mono : ∀ a0 a1 k,LeO (slices_Index_string_string.f k a0 a1) (slices_Index_string_string.f (k + 1) a0 a1):=by
 intro a0 a1 k
 have ih0:=slices_Index_string_string.mono_l k
 unfold slices_Index_string_string.f
 repeat' first
   | (with_reducible exact ih0 _ _ _ _)
   | (with_reducible exact LeO.refl _)
   | (with_reducible exact LeO.none _)
   | (with_reducible refine LeO.ite ?_ ?_)
   | (with_reducible refine LeO.bind ?_ (fun _ => ?_))
   | exact ih0 _ _ _ _
   | exact LeO.none _
   | refine LeO.ite ?_ ?_
   | refine LeO.bind ?_ (fun _ => ?_)
set_option maxHeartbeats 8000000 in
set_option maxRecDepth 100000 in
theorem slices_Index_string_string.calls (k : Nat) (A0 : Option Addr) (c0 : Nat) (l0 : List ByteArray) (a1 : ByteArray) (r : Int) (w : World) (hr0 : Kd.C Kd.string w A0 l0.length l0) (hc0 : l0.length ≤ c0) (h : slices_Index_string_string.f k l0 a1 = some r) :
  Calls Tryd.prog 84 #[.slice A0 l0.length c0,.string a1] w fun e w' => e = .returned (.int .i64 r) ∧ Drawn0 w w':=by
 have HR0:=asd hr0
 have HC0:=asd hc0
 clear hr0 hc0
 have H : (slices_Index_string_string.l0 k l0 a1 (l0.length : Int) 0) = some r:=h
 clear h
 have H':=asd H
 clear H
 go_enter Tryd.func84,Tryd.ntmps84
 go_wp2
 go_loopg [8] k (fun kq v8 w' => ∃ (x8_1 : Int),v8 = .int .i64 x8_1 ∧ Aside0 (slices_Index_string_string.l0 kq l0 a1 (l0.length : Int) x8_1 = some r) ∧ Aside0 (kq ≤ k) ∧ Drawn0 w w')
 case atStart => exact ⟨(0),(by first|rfl|(simp;done)|(simp [*];done)),H',⟨Nat.le_refl _⟩,by repeat (first|exact Drawn0.refl _|apply Drawn0.step)⟩
 case round =>
  clear H'
  obtain ⟨x8_1,rfl,HA,HK1,⟨m1,rfl⟩⟩:=hrel
  cases gk with
  | zero => exact absurd HA.out (by simp [slices_Index_string_string.l0])
  | succ k1 =>
   have H:=HA.out
   clear HA
   simp only [slices_Index_string_string.l0] at H
   by_cases c3 : x8_1 < (l0.length : Int)
   ·rw [if_pos c3] at H
    have c3b0 : decide (x8_1 < (l0.length : Int)) = true:=decide_eq_true c3
    clear c3
    by_cases c4 : 0 ≤ x8_1
    rotate_left
    ·rw [if_neg c4] at H
     exact absurd H (by simp)
    rw [if_pos c4] at H
    have c4b0 : decide (0 ≤ x8_1) = true:=decide_eq_true c4
    clear c4
    by_cases c5 : x8_1 < (l0.length : Int)
    rotate_left
    ·rw [if_neg c5] at H
     exact absurd H (by simp)
    rw [if_pos c5] at H
    have c5b0 : decide (x8_1 < (l0.length : Int)) = true:=decide_eq_true c5
    clear c5
    by_cases c6 : a1.toList = (rdOf ByteArray.empty l0 x8_1).toList
    ·rw [if_pos c6] at H
     have c6b0 : (a1.toList == (rdOf ByteArray.empty l0 x8_1).toList) = true:=beq_iff_eq.mpr c6
     have c6b1 : (a1.toList != (rdOf ByteArray.empty l0 x8_1).toList) = false:=bne_eq_false_iff_eq.mpr c6
     clear c6
     obtain rfl:=Option.some.inj H
     have p213 : 0 ≤ (x8_1 : Int):=of_decide_eq_true (by first|(with_reducible assumption)|assumption)
     have q213 : x8_1 < (l0.length : Int):=of_decide_eq_true (by first|(with_reducible assumption)|assumption)
     obtain ⟨ad213,e213,hx213_0⟩:=Kd.at_string HR0.out x8_1 p213 q213
     cases e213
     replace p213:=eq_true p213
     replace q213:=eq_true q213
     go_wp2
     go_ret
     exact ⟨by first|rfl|(simp;done)|(simp [*];done),by repeat (first|exact Drawn0.refl _|apply Drawn0.step)⟩
    ·rw [if_neg c6] at H
     have c6b0 : (a1.toList == (rdOf ByteArray.empty l0 x8_1).toList) = false:=beq_eq_false_iff_ne.mpr c6
     have c6b1 : (a1.toList != (rdOf ByteArray.empty l0 x8_1).toList) = true:=bne_iff_ne.mpr c6
     have H':=asd H
     clear H
     have p213 : 0 ≤ (x8_1 : Int):=of_decide_eq_true (by first|(with_reducible assumption)|assumption)
     have q213 : x8_1 < (l0.length : Int):=of_decide_eq_true (by first|(with_reducible assumption)|assumption)
     obtain ⟨ad213,e213,hx213_0⟩:=Kd.at_string HR0.out x8_1 p213 q213
     cases e213
     replace p213:=eq_true p213
     replace q213:=eq_true q213
     go_wp2
     go_roundg k1
     case measure => have:=HK1.out;omega
     case rel => exact ⟨(wrap64 (x8_1 + 1)),(by first|rfl|(simp;done)|(simp [*];done)),H',⟨by have:=HK1.out;omega⟩,by repeat (first|exact Drawn0.refl _|apply Drawn0.step)⟩
   ·rw [if_neg c3] at H
    have c3b0 : decide (x8_1 < (l0.length : Int)) = false:=decide_eq_false c3
    clear c3
    obtain rfl:=Option.some.inj H
    go_wp2
    go_ret
    exact ⟨by first|rfl|(simp;done)|(simp [*];done),by repeat (first|exact Drawn0.refl _|apply Drawn0.step)⟩
def slices_Contains_string_string.f (k : Nat) (l0 : List ByteArray) (a1 : ByteArray) : Option (Bool):=(slices_Index_string_string.f k l0 a1).bind fun t214 => (some (decide (t214 ≥ 0)))
theorem slices_Contains_string_string.mono : ∀ a0 a1 k,LeO (slices_Contains_string_string.f k a0 a1) (slices_Contains_string_string.f (k + 1) a0 a1):=by
 intro a0 a1 k
 unfold slices_Contains_string_string.f
 repeat' first
   | (with_reducible exact slices_Index_string_string.mono _ _ _)
   | (with_reducible exact LeO.refl _)
   | (with_reducible exact LeO.none _)
   | (with_reducible refine LeO.ite ?_ ?_)
   | (with_reducible refine LeO.bind ?_ (fun _ => ?_))
   | exact slices_Index_string_string.mono _ _ _
   | exact LeO.none _
   | refine LeO.ite ?_ ?_
   | refine LeO.bind ?_ (fun _ => ?_)
set_option maxHeartbeats 8000000 in
set_option maxRecDepth 100000 in
theorem slices_Contains_string_string.calls (k : Nat) (A0 : Option Addr) (c0 : Nat) (l0 : List ByteArray) (a1 : ByteArray) (r : Bool) (w : World) (hr0 : Kd.C Kd.string w A0 l0.length l0) (hc0 : l0.length ≤ c0) (h : slices_Contains_string_string.f k l0 a1 = some r) :
  Calls Tryd.prog 51 #[.slice A0 l0.length c0,.string a1] w fun e w' => e = .returned (.bool r) ∧ Drawn0 w w':=by
 have HR0:=asd hr0
 have HC0:=asd hc0
 clear hr0 hc0
 have H : ((slices_Index_string_string.f k l0 a1).bind fun t214 => (some (decide (t214 ≥ 0)))) = some r:=h
 clear h
 replace H:=Option.bind_eq_some_iff.mp H
 obtain ⟨t214,A30,H⟩:=H
 replace H : (some (decide (t214 ≥ 0))) = some r:=H
 have A3:=asd A30
 clear A30
 obtain rfl:=Option.some.inj H
 go_enter Tryd.func51,Tryd.ntmps51
 go_wp2_with (first|((with_reducible refine gate_callee (f:=84) rfl ?_);refine goesL_ (some 7) rfl rfl Tryd.func84 (by kernel_rfl) rfl #[.slice A0 l0.length c0,.string a1] rfl (by (try simp only [List.map_toArray,List.map_cons,List.map_nil]);first|done|rfl|(simp only [List.length_drop,List.length_take];rfl)) ?_;(with_reducible refine (slices_Index_string_string.calls k _ _ l0 a1 t214 _ ?side1 ?side2 A3.out).mono ?_);(case side1 => repeat (first|exact HR0.out|(with_reducible refine Kd.C_alloc ?_ _)|(with_reducible refine Kd.C_drewN ?_ _)|(with_reducible refine Kd.C_drew ?_)));(case side2 => exact HC0.out);rintro e w' ⟨rfl,⟨nd,rfl⟩⟩;refine ⟨_,rfl,?_⟩))
 go_ret
 exact ⟨by first|rfl|(simp;done)|(simp [*];done),by repeat (first|exact Drawn0.refl _|apply Drawn0.step)⟩
def impl_Control.f (k : Nat) (a0 : ByteArray) : Option (Bool):=(slices_Contains_string_string.f k (([(⟨#[116,114,117,101,47,48]⟩ : ByteArray),(⟨#[102,97,105,108,47,48]⟩ : ByteArray),(⟨#[33,47,48]⟩ : ByteArray),(⟨#[44,47,50]⟩ : ByteArray),(⟨#[59,47,50]⟩ : ByteArray),(⟨#[45,62,47,50]⟩ : ByteArray),(⟨#[92,43,47,49]⟩ : ByteArray),(⟨#[99,97,108,108,47,49]⟩ : ByteArray),(⟨#[99,97,108,108,47,50]⟩ : ByteArray),(⟨#[99,97,108,108,47,51]⟩ : ByteArray),(⟨#[99,97,116,99,104,47,51]⟩ : ByteArray),(⟨#[116,104,114,111,119,47,49]⟩ : ByteArray),(⟨#[61,47,50]⟩ : ByteArray),(⟨#[92,61,47,50]⟩ : ByteArray),(⟨#[61,61,47,50]⟩ : ByteArray),(⟨#[105,115,47,50]⟩ : ByteArray),(⟨#[60,47,50]⟩ : ByteArray),(⟨#[61,58,61,47,50]⟩ : ByteArray),(⟨#[118,97,114,47,49]⟩ : ByteArray),(⟨#[97,116,111,109,47,49]⟩ : ByteArray),(⟨#[119,114,105,116,101,47,49]⟩ : ByteArray),(⟨#[97,115,115,101,114,116,122,47,49]⟩ : ByteArray),(⟨#[114,101,116,114,97,99,116,47,49]⟩ : ByteArray),(⟨#[58,45,47,50]⟩ : ByteArray),(⟨#[58,45,47,49]⟩ : ByteArray),(⟨#[45,45,62,47,50]⟩ : ByteArray)] : List ByteArray)) a0).bind fun t218 => (some t218)
theorem impl_Control.mono : ∀ a0 k,LeO (impl_Control.f k a0) (impl_Control.f (k + 1) a0):=by
 intro a0 k
 unfold impl_Control.f
 repeat' first
   | (with_reducible exact slices_Contains_string_string.mono _ _ _)
   | (with_reducible exact LeO.refl _)
   | (with_reducible exact LeO.none _)
   | (with_reducible refine LeO.ite ?_ ?_)
   | (with_reducible refine LeO.bind ?_ (fun _ => ?_))
   | exact slices_Contains_string_string.mono _ _ _
   | exact LeO.none _
   | refine LeO.ite ?_ ?_
   | refine LeO.bind ?_ (fun _ => ?_)
set_option maxHeartbeats 8000000 in
set_option maxRecDepth 100000 in
theorem impl_Control.calls (k : Nat) (a0 : ByteArray) (r : Bool) (w : World) (h : impl_Control.f k a0 = some r) :
  Calls Tryd.prog 80 #[.string a0] w fun e w' => e = .returned (.bool r) ∧ Below w.heap.size w w':=by
 have HB:=asd (Below.refl w.heap.size w)
 have H : ((slices_Contains_string_string.f k (([(⟨#[116,114,117,101,47,48]⟩ : ByteArray),(⟨#[102,97,105,108,47,48]⟩ : ByteArray),(⟨#[33,47,48]⟩ : ByteArray),(⟨#[44,47,50]⟩ : ByteArray),(⟨#[59,47,50]⟩ : ByteArray),(⟨#[45,62,47,50]⟩ : ByteArray),(⟨#[92,43,47,49]⟩ : ByteArray),(⟨#[99,97,108,108,47,49]⟩ : ByteArray),(⟨#[99,97,108,108,47,50]⟩ : ByteArray),(⟨#[99,97,108,108,47,51]⟩ : ByteArray),(⟨#[99,97,116,99,104,47,51]⟩ : ByteArray),(⟨#[116,104,114,111,119,47,49]⟩ : ByteArray),(⟨#[61,47,50]⟩ : ByteArray),(⟨#[92,61,47,50]⟩ : ByteArray),(⟨#[61,61,47,50]⟩ : ByteArray),(⟨#[105,115,47,50]⟩ : ByteArray),(⟨#[60,47,50]⟩ : ByteArray),(⟨#[61,58,61,47,50]⟩ : ByteArray),(⟨#[118,97,114,47,49]⟩ : ByteArray),(⟨#[97,116,111,109,47,49]⟩ : ByteArray),(⟨#[119,114,105,116,101,47,49]⟩ : ByteArray),(⟨#[97,115,115,101,114,116,122,47,49]⟩ : ByteArray),(⟨#[114,101,116,114,97,99,116,47,49]⟩ : ByteArray),(⟨#[58,45,47,50]⟩ : ByteArray),(⟨#[58,45,47,49]⟩ : ByteArray),(⟨#[45,45,62,47,50]⟩ : ByteArray)] : List ByteArray)) a0).bind fun t218 => (some t218)) = some r:=h
 clear h
 obtain ⟨y215,hy215⟩ : ∃ y_ : List ByteArray,y_ = (([(⟨#[116,114,117,101,47,48]⟩ : ByteArray),(⟨#[102,97,105,108,47,48]⟩ : ByteArray),(⟨#[33,47,48]⟩ : ByteArray),(⟨#[44,47,50]⟩ : ByteArray),(⟨#[59,47,50]⟩ : ByteArray),(⟨#[45,62,47,50]⟩ : ByteArray),(⟨#[92,43,47,49]⟩ : ByteArray),(⟨#[99,97,108,108,47,49]⟩ : ByteArray),(⟨#[99,97,108,108,47,50]⟩ : ByteArray),(⟨#[99,97,108,108,47,51]⟩ : ByteArray),(⟨#[99,97,116,99,104,47,51]⟩ : ByteArray),(⟨#[116,104,114,111,119,47,49]⟩ : ByteArray),(⟨#[61,47,50]⟩ : ByteArray),(⟨#[92,61,47,50]⟩ : ByteArray),(⟨#[61,61,47,50]⟩ : ByteArray),(⟨#[105,115,47,50]⟩ : ByteArray),(⟨#[60,47,50]⟩ : ByteArray),(⟨#[61,58,61,47,50]⟩ : ByteArray),(⟨#[118,97,114,47,49]⟩ : ByteArray),(⟨#[97,116,111,109,47,49]⟩ : ByteArray),(⟨#[119,114,105,116,101,47,49]⟩ : ByteArray),(⟨#[97,115,115,101,114,116,122,47,49]⟩ : ByteArray),(⟨#[114,101,116,114,97,99,116,47,49]⟩ : ByteArray),(⟨#[58,45,47,50]⟩ : ByteArray),(⟨#[58,45,47,49]⟩ : ByteArray),(⟨#[45,45,62,47,50]⟩ : ByteArray)] : List ByteArray)):=⟨_,rfl⟩
 replace H : ((slices_Contains_string_string.f k y215 a0).bind fun t218 => (some t218)) = some r:=by first|(rw [hy215];with_reducible exact H)|(have H2_:=(Option.bind_some _ _).symm.trans H;rw [hy215];with_reducible exact H2_)|(have H2_:=(Option.bind_some _ _).symm.trans H;with_reducible exact H2_)|with_reducible exact H|(rw [hy215];exact H)|exact H
 have Ny215:=asd hy215
 clear hy215
 replace H:=Option.bind_eq_some_iff.mp H
 obtain ⟨t218,A20,H⟩:=H
 replace H : (some t218) = some r:=H
 have A2:=asd A20
 clear A20
 obtain rfl:=Option.some.inj H
 go_enter Tryd.func80,Tryd.ntmps80
 go_wp2_with (first|((with_reducible refine gate_dst (N:=4) rfl ?_);refine Kd.R_lit Kd.string _ 9 ?hg (N:=4) ?hd (xs:=([(⟨#[116,114,117,101,47,48]⟩ : ByteArray),(⟨#[102,97,105,108,47,48]⟩ : ByteArray),(⟨#[33,47,48]⟩ : ByteArray),(⟨#[44,47,50]⟩ : ByteArray),(⟨#[59,47,50]⟩ : ByteArray),(⟨#[45,62,47,50]⟩ : ByteArray),(⟨#[92,43,47,49]⟩ : ByteArray),(⟨#[99,97,108,108,47,49]⟩ : ByteArray),(⟨#[99,97,108,108,47,50]⟩ : ByteArray),(⟨#[99,97,108,108,47,51]⟩ : ByteArray),(⟨#[99,97,116,99,104,47,51]⟩ : ByteArray),(⟨#[116,104,114,111,119,47,49]⟩ : ByteArray),(⟨#[61,47,50]⟩ : ByteArray),(⟨#[92,61,47,50]⟩ : ByteArray),(⟨#[61,61,47,50]⟩ : ByteArray),(⟨#[105,115,47,50]⟩ : ByteArray),(⟨#[60,47,50]⟩ : ByteArray),(⟨#[61,58,61,47,50]⟩ : ByteArray),(⟨#[118,97,114,47,49]⟩ : ByteArray),(⟨#[97,116,111,109,47,49]⟩ : ByteArray),(⟨#[119,114,105,116,101,47,49]⟩ : ByteArray),(⟨#[97,115,115,101,114,116,122,47,49]⟩ : ByteArray),(⟨#[114,101,116,114,97,99,116,47,49]⟩ : ByteArray),(⟨#[58,45,47,50]⟩ : ByteArray),(⟨#[58,45,47,49]⟩ : ByteArray),(⟨#[45,45,62,47,50]⟩ : ByteArray)] : List ByteArray)) (inner:=[.string (⟨#[116,114,117,101,47,48]⟩ : ByteArray),.string (⟨#[102,97,105,108,47,48]⟩ : ByteArray),.string (⟨#[33,47,48]⟩ : ByteArray),.string (⟨#[44,47,50]⟩ : ByteArray),.string (⟨#[59,47,50]⟩ : ByteArray),.string (⟨#[45,62,47,50]⟩ : ByteArray),.string (⟨#[92,43,47,49]⟩ : ByteArray),.string (⟨#[99,97,108,108,47,49]⟩ : ByteArray),.string (⟨#[99,97,108,108,47,50]⟩ : ByteArray),.string (⟨#[99,97,108,108,47,51]⟩ : ByteArray),.string (⟨#[99,97,116,99,104,47,51]⟩ : ByteArray),.string (⟨#[116,104,114,111,119,47,49]⟩ : ByteArray),.string (⟨#[61,47,50]⟩ : ByteArray),.string (⟨#[92,61,47,50]⟩ : ByteArray),.string (⟨#[61,61,47,50]⟩ : ByteArray),.string (⟨#[105,115,47,50]⟩ : ByteArray),.string (⟨#[60,47,50]⟩ : ByteArray),.string (⟨#[61,58,61,47,50]⟩ : ByteArray),.string (⟨#[118,97,114,47,49]⟩ : ByteArray),.string (⟨#[97,116,111,109,47,49]⟩ : ByteArray),.string (⟨#[119,114,105,116,101,47,49]⟩ : ByteArray),.string (⟨#[97,115,115,101,114,116,122,47,49]⟩ : ByteArray),.string (⟨#[114,101,116,114,97,99,116,47,49]⟩ : ByteArray),.string (⟨#[58,45,47,50]⟩ : ByteArray),.string (⟨#[58,45,47,49]⟩ : ByteArray),.string (⟨#[45,45,62,47,50]⟩ : ByteArray)]) (ok:=fun _ => True) (okp:=fun _ => True) ?hr ?hp (fun _ hk => hk) trivial (Below.refl _ _) (Nat.le_refl _) (by simp) ?_;(case hd => rfl);(case hg => rfl);(case hr => first|(go_simp;done)|(go_simp;rfl));(case hp => exact (Reps.one (show Kd.M Kd.string _ _ _ (⟨#[116,114,117,101,47,48]⟩ : ByteArray) [.string (⟨#[116,114,117,101,47,48]⟩ : ByteArray)] from rfl) (Reps.one (show Kd.M Kd.string _ _ _ (⟨#[102,97,105,108,47,48]⟩ : ByteArray) [.string (⟨#[102,97,105,108,47,48]⟩ : ByteArray)] from rfl) (Reps.one (show Kd.M Kd.string _ _ _ (⟨#[33,47,48]⟩ : ByteArray) [.string (⟨#[33,47,48]⟩ : ByteArray)] from rfl) (Reps.one (show Kd.M Kd.string _ _ _ (⟨#[44,47,50]⟩ : ByteArray) [.string (⟨#[44,47,50]⟩ : ByteArray)] from rfl) (Reps.one (show Kd.M Kd.string _ _ _ (⟨#[59,47,50]⟩ : ByteArray) [.string (⟨#[59,47,50]⟩ : ByteArray)] from rfl) (Reps.one (show Kd.M Kd.string _ _ _ (⟨#[45,62,47,50]⟩ : ByteArray) [.string (⟨#[45,62,47,50]⟩ : ByteArray)] from rfl) (Reps.one (show Kd.M Kd.string _ _ _ (⟨#[92,43,47,49]⟩ : ByteArray) [.string (⟨#[92,43,47,49]⟩ : ByteArray)] from rfl) (Reps.one (show Kd.M Kd.string _ _ _ (⟨#[99,97,108,108,47,49]⟩ : ByteArray) [.string (⟨#[99,97,108,108,47,49]⟩ : ByteArray)] from rfl) (Reps.one (show Kd.M Kd.string _ _ _ (⟨#[99,97,108,108,47,50]⟩ : ByteArray) [.string (⟨#[99,97,108,108,47,50]⟩ : ByteArray)] from rfl) (Reps.one (show Kd.M Kd.string _ _ _ (⟨#[99,97,108,108,47,51]⟩ : ByteArray) [.string (⟨#[99,97,108,108,47,51]⟩ : ByteArray)] from rfl) (Reps.one (show Kd.M Kd.string _ _ _ (⟨#[99,97,116,99,104,47,51]⟩ : ByteArray) [.string (⟨#[99,97,116,99,104,47,51]⟩ : ByteArray)] from rfl) (Reps.one (show Kd.M Kd.string _ _ _ (⟨#[116,104,114,111,119,47,49]⟩ : ByteArray) [.string (⟨#[116,104,114,111,119,47,49]⟩ : ByteArray)] from rfl) (Reps.one (show Kd.M Kd.string _ _ _ (⟨#[61,47,50]⟩ : ByteArray) [.string (⟨#[61,47,50]⟩ : ByteArray)] from rfl) (Reps.one (show Kd.M Kd.string _ _ _ (⟨#[92,61,47,50]⟩ : ByteArray) [.string (⟨#[92,61,47,50]⟩ : ByteArray)] from rfl) (Reps.one (show Kd.M Kd.string _ _ _ (⟨#[61,61,47,50]⟩ : ByteArray) [.string (⟨#[61,61,47,50]⟩ : ByteArray)] from rfl) (Reps.one (show Kd.M Kd.string _ _ _ (⟨#[105,115,47,50]⟩ : ByteArray) [.string (⟨#[105,115,47,50]⟩ : ByteArray)] from rfl) (Reps.one (show Kd.M Kd.string _ _ _ (⟨#[60,47,50]⟩ : ByteArray) [.string (⟨#[60,47,50]⟩ : ByteArray)] from rfl) (Reps.one (show Kd.M Kd.string _ _ _ (⟨#[61,58,61,47,50]⟩ : ByteArray) [.string (⟨#[61,58,61,47,50]⟩ : ByteArray)] from rfl) (Reps.one (show Kd.M Kd.string _ _ _ (⟨#[118,97,114,47,49]⟩ : ByteArray) [.string (⟨#[118,97,114,47,49]⟩ : ByteArray)] from rfl) (Reps.one (show Kd.M Kd.string _ _ _ (⟨#[97,116,111,109,47,49]⟩ : ByteArray) [.string (⟨#[97,116,111,109,47,49]⟩ : ByteArray)] from rfl) (Reps.one (show Kd.M Kd.string _ _ _ (⟨#[119,114,105,116,101,47,49]⟩ : ByteArray) [.string (⟨#[119,114,105,116,101,47,49]⟩ : ByteArray)] from rfl) (Reps.one (show Kd.M Kd.string _ _ _ (⟨#[97,115,115,101,114,116,122,47,49]⟩ : ByteArray) [.string (⟨#[97,115,115,101,114,116,122,47,49]⟩ : ByteArray)] from rfl) (Reps.one (show Kd.M Kd.string _ _ _ (⟨#[114,101,116,114,97,99,116,47,49]⟩ : ByteArray) [.string (⟨#[114,101,116,114,97,99,116,47,49]⟩ : ByteArray)] from rfl) (Reps.one (show Kd.M Kd.string _ _ _ (⟨#[58,45,47,50]⟩ : ByteArray) [.string (⟨#[58,45,47,50]⟩ : ByteArray)] from rfl) (Reps.one (show Kd.M Kd.string _ _ _ (⟨#[58,45,47,49]⟩ : ByteArray) [.string (⟨#[58,45,47,49]⟩ : ByteArray)] from rfl) (Reps.one (show Kd.M Kd.string _ _ _ (⟨#[45,45,62,47,50]⟩ : ByteArray) [.string (⟨#[45,45,62,47,50]⟩ : ByteArray)] from rfl) (Reps.none _ _))))))))))))))))))))))))))));intro v216 w3 ho4 hb hg_ hnew_;clear hg_ hnew_;(first|rw [← Ny215.out] at ho4|(simp only [Int.reduceToNat] at ho4;rw [← Ny215.out] at ho4));have n0_:=asd (Kd.R_lower ho4 (below_size (by repeat (first|(with_reducible first|exact HB.out|apply below_alloc|apply pw_below_drewN|apply below_drew1)|exact HB.out))));have n1_:=asd (below_step (by repeat (first|(with_reducible first|exact HB.out|apply below_alloc|apply pw_below_drewN|apply below_drew1)|exact HB.out)) hb);clear HB;have HO217:=n0_;have HB:=n1_;clear n0_ n1_;clear hb ho4;obtain ⟨Ao5,co5,eo5⟩:=Kd.R_slice HO217.out;subst eo5)|((with_reducible refine gate_callee (f:=51) rfl ?_);refine goesL_ (some 7) rfl rfl Tryd.func51 (by kernel_rfl) rfl #[.slice Ao5 y215.length co5,.string a0] rfl (by (try simp only [List.map_toArray,List.map_cons,List.map_nil]);first|done|rfl|(simp only [List.length_drop,List.length_take];rfl)) ?_;(with_reducible refine (slices_Contains_string_string.calls k _ _ y215 a0 t218 _ ?side1 ?side2 A2.out).mono ?_);(case side1 => repeat (first|exact (Kd.R_reads' HO217.out).2.2|(with_reducible refine Kd.C_alloc ?_ _)|(with_reducible refine Kd.C_drewN ?_ _)|(with_reducible refine Kd.C_drew ?_)));(case side2 => exact (Kd.R_reads' HO217.out).2.1);rintro e w' ⟨rfl,⟨nd,rfl⟩⟩;refine ⟨_,rfl,?_⟩))
 go_ret
 exact ⟨by first|rfl|(simp [errW_none,errW_some] <;> rfl)|(simp [*,errW_none,errW_some] <;> rfl),by repeat (first|(with_reducible first|exact HB.out|apply below_alloc|apply pw_below_drewN|apply below_drew1)|exact HB.out)⟩
def impl_isAtom.f (a0_0 : Int) (a0_1 : ByteArray) (a0_2 : Int) (l0_3 : List (S29)) (a1 : ByteArray) : Option (Bool):=if a0_0 = 2 then (some (a0_1.toList == a1.toList)) else (some false)
set_option maxHeartbeats 8000000 in
set_option maxRecDepth 100000 in
theorem impl_isAtom.calls (a0_0 : Int) (a0_1 : ByteArray) (a0_2 : Int) (A0_3 : Option Addr) (c0_3 : Nat) (l0_3 : List (S29)) (a1 : ByteArray) (r : Bool) (w : World) (hr0_3 : Kd.C k29 w A0_3 l0_3.length l0_3) (hc0_3 : l0_3.length ≤ c0_3) (h : impl_isAtom.f a0_0 a0_1 a0_2 l0_3 a1 = some r) :
  Calls Tryd.prog 115 #[.agg #[.int .i64 a0_0,.string a0_1,.int .i64 a0_2,.slice A0_3 l0_3.length c0_3],.string a1] w fun e w' => e = .returned (.bool r) ∧ Below w.heap.size w w':=by
 have hu29:=Tryd.underlying29
 have HR0_3:=asd hr0_3
 have HC0_3:=asd hc0_3
 clear hr0_3 hc0_3
 have HB:=asd (Below.refl w.heap.size w)
 have H : (if a0_0 = 2 then (some (a0_1.toList == a1.toList)) else (some false)) = some r:=h
 clear h
 by_cases c3 : a0_0 = 2
 ·rw [if_pos c3] at H
  have c3b0 : (a0_0 == 2) = true:=beq_iff_eq.mpr c3
  have c3b1 : (a0_0 != 2) = false:=bne_eq_false_iff_eq.mpr c3
  clear c3
  obtain rfl:=Option.some.inj H
  go_enter Tryd.func115,Tryd.ntmps115
  go_wp2_with (first|((with_reducible refine gate_dst (N:=2) rfl ?_);refine box_event ?hg (N:=2) ?hd (cs:=#[.int .i64 a0_0,.string a0_1,.int .i64 a0_2,.slice A0_3 l0_3.length c0_3]) (t:=29) ?hr ?_;(case hd => rfl);(case hg => rfl);(case hr => first|(go_simp;done)|(go_simp;rfl));intro gb219 hg w4 hbox hb;have n0_:=asd (below_step (by repeat (first|(with_reducible first|exact HB.out|apply below_alloc|apply pw_below_drewN|apply below_drew1)|exact HB.out)) hb);have n1_:=asd (hbox);have n2_:=asd ((by rw [hg];exact (below_size (by repeat (first|(with_reducible first|exact HB.out|apply below_alloc|apply pw_below_drewN|apply below_drew1)|exact HB.out))) : w.heap.size ≤ gb219));have n3_:=asd ((by rw [hg];exact (below_size (by repeat (first|(with_reducible first|exact HB.out|apply below_alloc|apply pw_below_drewN|apply below_drew1)|exact HB.out))) : w.heap.size ≤ gb219));clear HB;have HB:=n0_;have BK219:=n1_;have GW219:=n2_;have GE219:=n3_;clear n0_ n1_ n2_ n3_;clear hb hbox hg;have hcz5_0 : w4.cell? ⟨gb219,0,none⟩ = some (.int .i64 a0_0):=(blk_cell BK219.out 0).trans rfl;have hcz5_1 : w4.cell? ⟨gb219,1,none⟩ = some (.string a0_1):=(blk_cell BK219.out 1).trans rfl;have hcz5_2 : w4.cell? ⟨gb219,2,none⟩ = some (.int .i64 a0_2):=(blk_cell BK219.out 2).trans rfl;have hcz5_3 : w4.cell? ⟨gb219,3,none⟩ = some (.slice A0_3 l0_3.length c0_3):=(blk_cell BK219.out 3).trans rfl;have hfz5_0:=blk_frozen BK219.out 0;have hfz5_1:=blk_frozen BK219.out 1;have hfz5_2:=blk_frozen BK219.out 2;have hfz5_3:=blk_frozen BK219.out 3))
  go_ret
  exact ⟨by first|rfl|(simp [errW_none,errW_some] <;> rfl)|(simp [*,errW_none,errW_some] <;> rfl),by repeat (first|(with_reducible first|exact HB.out|apply below_alloc|apply pw_below_drewN|apply below_drew1|refine below_set ?_ GE219.out)|exact HB.out)⟩
 ·rw [if_neg c3] at H
  have c3b0 : (a0_0 == 2) = false:=beq_eq_false_iff_ne.mpr c3
  have c3b1 : (a0_0 != 2) = true:=bne_iff_ne.mpr c3
  obtain rfl:=Option.some.inj H
  go_enter Tryd.func115,Tryd.ntmps115
  go_wp2_with (first|((with_reducible refine gate_dst (N:=2) rfl ?_);refine box_event ?hg (N:=2) ?hd (cs:=#[.int .i64 a0_0,.string a0_1,.int .i64 a0_2,.slice A0_3 l0_3.length c0_3]) (t:=29) ?hr ?_;(case hd => rfl);(case hg => rfl);(case hr => first|(go_simp;done)|(go_simp;rfl));intro gb219 hg w6 hbox hb;have n0_:=asd (below_step (by repeat (first|(with_reducible first|exact HB.out|apply below_alloc|apply pw_below_drewN|apply below_drew1)|exact HB.out)) hb);have n1_:=asd (hbox);have n2_:=asd ((by rw [hg];exact (below_size (by repeat (first|(with_reducible first|exact HB.out|apply below_alloc|apply pw_below_drewN|apply below_drew1)|exact HB.out))) : w.heap.size ≤ gb219));have n3_:=asd ((by rw [hg];exact (below_size (by repeat (first|(with_reducible first|exact HB.out|apply below_alloc|apply pw_below_drewN|apply below_drew1)|exact HB.out))) : w.heap.size ≤ gb219));clear HB;have HB:=n0_;have BK219:=n1_;have GW219:=n2_;have GE219:=n3_;clear n0_ n1_ n2_ n3_;clear hb hbox hg;have hcz7_0 : w6.cell? ⟨gb219,0,none⟩ = some (.int .i64 a0_0):=(blk_cell BK219.out 0).trans rfl;have hcz7_1 : w6.cell? ⟨gb219,1,none⟩ = some (.string a0_1):=(blk_cell BK219.out 1).trans rfl;have hcz7_2 : w6.cell? ⟨gb219,2,none⟩ = some (.int .i64 a0_2):=(blk_cell BK219.out 2).trans rfl;have hcz7_3 : w6.cell? ⟨gb219,3,none⟩ = some (.slice A0_3 l0_3.length c0_3):=(blk_cell BK219.out 3).trans rfl;have hfz7_0:=blk_frozen BK219.out 0;have hfz7_1:=blk_frozen BK219.out 1;have hfz7_2:=blk_frozen BK219.out 2;have hfz7_3:=blk_frozen BK219.out 3))
  go_ret
  exact ⟨by first|rfl|(simp [errW_none,errW_some] <;> rfl)|(simp [*,errW_none,errW_some] <;> rfl),by repeat (first|(with_reducible first|exact HB.out|apply below_alloc|apply pw_below_drewN|apply below_drew1|refine below_set ?_ GE219.out)|exact HB.out)⟩
def impl_isPair.f (a0_0 : Int) (a0_1 : ByteArray) (a0_2 : Int) (l0_3 : List (S29)) : Option (Bool):=(impl_isStruct.f a0_0 a0_1 a0_2 l0_3 (⟨#[46]⟩ : ByteArray) 2).bind fun t221 => (some t221)
set_option maxHeartbeats 8000000 in
set_option maxRecDepth 100000 in
theorem impl_isPair.calls (a0_0 : Int) (a0_1 : ByteArray) (a0_2 : Int) (A0_3 : Option Addr) (c0_3 : Nat) (l0_3 : List (S29)) (r : Bool) (w : World) (hr0_3 : Kd.C k29 w A0_3 l0_3.length l0_3) (hc0_3 : l0_3.length ≤ c0_3) (h : impl_isPair.f a0_0 a0_1 a0_2 l0_3 = some r) :
  Calls Tryd.prog 116 #[.agg #[.int .i64 a0_0,.string a0_1,.int .i64 a0_2,.slice A0_3 l0_3.length c0_3]] w fun e w' => e = .returned (.bool r) ∧ Below w.heap.size w w':=by
 have hu29:=Tryd.underlying29
 have HR0_3:=asd hr0_3
 have HC0_3:=asd hc0_3
 clear hr0_3 hc0_3
 have HB:=asd (Below.refl w.heap.size w)
 have H : ((impl_isStruct.f a0_0 a0_1 a0_2 l0_3 (⟨#[46]⟩ : ByteArray) 2).bind fun t221 => (some t221)) = some r:=h
 clear h
 replace H:=Option.bind_eq_some_iff.mp H
 obtain ⟨t221,A20,H⟩:=H
 replace H : (some t221) = some r:=H
 have A2:=asd A20
 clear A20
 obtain rfl:=Option.some.inj H
 go_enter Tryd.func116,Tryd.ntmps116
 go_wp2_with (first|((with_reducible refine gate_dst (N:=1) rfl ?_);refine box_event ?hg (N:=1) ?hd (cs:=#[.int .i64 a0_0,.string a0_1,.int .i64 a0_2,.slice A0_3 l0_3.length c0_3]) (t:=29) ?hr ?_;(case hd => rfl);(case hg => rfl);(case hr => first|(go_simp;done)|(go_simp;rfl));intro gb220 hg w3 hbox hb;have n0_:=asd (below_step (by repeat (first|(with_reducible first|exact HB.out|apply below_alloc|apply pw_below_drewN|apply below_drew1)|exact HB.out)) hb);have n1_:=asd (hbox);have n2_:=asd ((by rw [hg];exact (below_size (by repeat (first|(with_reducible first|exact HB.out|apply below_alloc|apply pw_below_drewN|apply below_drew1)|exact HB.out))) : w.heap.size ≤ gb220));have n3_:=asd ((by rw [hg];exact (below_size (by repeat (first|(with_reducible first|exact HB.out|apply below_alloc|apply pw_below_drewN|apply below_drew1)|exact HB.out))) : w.heap.size ≤ gb220));clear HB;have HB:=n0_;have BK220:=n1_;have GW220:=n2_;have GE220:=n3_;clear n0_ n1_ n2_ n3_;clear hb hbox hg;have hcz4_0 : w3.cell? ⟨gb220,0,none⟩ = some (.int .i64 a0_0):=(blk_cell BK220.out 0).trans rfl;have hcz4_1 : w3.cell? ⟨gb220,1,none⟩ = some (.string a0_1):=(blk_cell BK220.out 1).trans rfl;have hcz4_2 : w3.cell? ⟨gb220,2,none⟩ = some (.int .i64 a0_2):=(blk_cell BK220.out 2).trans rfl;have hcz4_3 : w3.cell? ⟨gb220,3,none⟩ = some (.slice A0_3 l0_3.length c0_3):=(blk_cell BK220.out 3).trans rfl;have hfz4_0:=blk_frozen BK220.out 0;have hfz4_1:=blk_frozen BK220.out 1;have hfz4_2:=blk_frozen BK220.out 2;have hfz4_3:=blk_frozen BK220.out 3)|((with_reducible refine gate_callee (f:=61) rfl ?_);refine goesL_ (some 4) rfl rfl Tryd.func61 (by kernel_rfl) rfl #[.agg #[.int .i64 a0_0,.string a0_1,.int .i64 a0_2,.slice A0_3 l0_3.length c0_3],.string (⟨#[46]⟩ : ByteArray),.int .i64 2] rfl (by (try simp only [List.map_toArray,List.map_cons,List.map_nil]);first|done|rfl|(simp only [List.length_drop,List.length_take];rfl)) ?_;(with_reducible refine (impl_isStruct.calls a0_0 a0_1 a0_2 _ _ l0_3 (⟨#[46]⟩ : ByteArray) 2 t221 _ ?side1 ?side2 A2.out).mono ?_);(case side1 => repeat (first|exact (Kd.C_below HR0_3.out HB.out)|(with_reducible refine Kd.C_alloc ?_ _)|(with_reducible refine Kd.C_drewN ?_ _)|(with_reducible refine Kd.C_drew ?_)));(case side2 => exact HC0_3.out);rintro e w5 ⟨rfl,hb⟩;refine ⟨_,rfl,?_⟩;have n0_:=asd (blk_below (g:=gb220) (o:=.cells #[.int .i64 a0_0,.string a0_1,.int .i64 a0_2,.slice A0_3 l0_3.length c0_3] 29 (0,0)) (by (with_reducible repeat (first|refine blk_drewN ?_ _|refine blk_drew ?_|refine blk_alloc ?_ _));exact BK220.out) hb);have n1_:=asd (below_step (by repeat (first|(with_reducible first|exact HB.out|apply below_alloc|apply pw_below_drewN|apply below_drew1|refine below_set ?_ GE220.out)|exact HB.out)) hb);clear BK220;clear HB;have BK220:=n0_;have HB:=n1_;clear n0_ n1_;(try clear hb)))
 go_ret
 exact ⟨by first|rfl|(simp [errW_none,errW_some] <;> rfl)|(simp [*,errW_none,errW_some] <;> rfl),by repeat (first|(with_reducible first|exact HB.out|apply below_alloc|apply pw_below_drewN|apply below_drew1|refine below_set ?_ GE220.out)|exact HB.out)⟩
end Go.Proofs.YtojedbogbodkiaaDoor.KGr
