/- Of this claim's own making;what nothing names is struck (fewall.py). -/
import Derived.Test.YtojedbogbodkiaaDoorKGrx0
import Derived.Test.YtojedbogbodkiaaDoorKGrx5
namespace Go.Proofs.YtojedbogbodkiaaDoor.KGr
open Go.RowKit Go.Proofs.YtojedbogbodkiaaDoorW.PrintWords Go.Proofs.YtojedbogbodkiaaDoorW.PrintLast Go.Proofs.YtojedbogbodkiaaDoorW.PrintMore
attribute [local go_sem] max2_int min2_int max_two min_two max_three min_three max_four min_four   -- for this text's walks alone
set_option linter.unusedVariables false
set_option linter.unusedSimpArgs false
set_option linter.unusedSectionVars false
variable [fk_laws_szTerm] [fk_laws_eqTerm] [fk_spec_l34Term] [fk_strconv_Itoa]
mutual
def impl_sized.j0 : Nat → Int → Int → ByteArray → Int → List (S29) → Option (Int)
 | 0,_,_,_,_,_ => none
 | k + 1,x1,x197000,x197001,x197002,x197003 => impl_sized.l0 k x1 1 x197003 (x197003.length : Int) 0
def impl_sized.l0 : Nat → Int → Int → List (S29) → Int → Int → Option (Int)
 | 0,_,_,_,_,_ => none
 | k + 1,x1,x5,x82,x83,x84 => if x84 < x83 then (if 0 ≤ x84 then (if x84 < (x82.length : Int) then ((impl_sized.f k ((rd_T29 x82 x84).f0) ((rd_T29 x82 x84).f1) ((rd_T29 x82 x84).f2) ((rd_T29 x82 x84).f3) (wrap64 (x1 + 1))).bind fun t204 => (if (wrap64 (x5 + t204)) > 400 then (some 401) else (impl_sized.l0 k x1 (wrap64 (x5 + t204)) x82 x83 (wrap64 (x84 + 1))))) else (none)) else (none)) else (some x5)
def impl_sized.f : Nat → Int → ByteArray → Int → List (S29) → Int → Option (Int)
 | 0,_,_,_,_,_ => none
 | k + 1,a0_0,a0_1,a0_2,l0_3,a1 => if a1 > 40 then (some 401) else (if a0_0 = 1 then (if a0_1.toList = ([] : List UInt8) then ((impl_within.f a0_2 0 99999).bind fun t197 => (if t197 = true then (if (l0_3.length : Int) > 0 then (some 401) else (impl_sized.j0 k a1 a0_0 a0_1 a0_2 l0_3)) else (some 401))) else (some 401)) else (if a0_0 = 2 then ((impl_nameOk.f k a0_1).bind fun t198 => (if t198 = true then (if a0_2 = 0 then (if (l0_3.length : Int) > 0 then (some 401) else (impl_sized.j0 k a1 a0_0 a0_1 a0_2 l0_3)) else (some 401)) else (some 401))) else (if a0_0 = 3 then (if a0_1.toList = ([] : List UInt8) then ((impl_within.f a0_2 (-999999999) 999999999).bind fun t199 => (if t199 = true then (if (l0_3.length : Int) > 0 then (some 401) else (impl_sized.j0 k a1 a0_0 a0_1 a0_2 l0_3)) else (some 401))) else (some 401)) else (if a0_0 = 4 then ((impl_nameOk.f k a0_1).bind fun t200 => (if t200 = true then (if a0_2 = 0 then ((impl_within.f (l0_3.length : Int) 1 5).bind fun t201 => (if t201 = true then (impl_sized.j0 k a1 a0_0 a0_1 a0_2 l0_3) else (some 401))) else (some 401)) else (some 401))) else (some 401)))))
end
theorem impl_sized.mono_l : ∀ k,(∀ y0 y1 y2 y3 y4,LeO (impl_sized.f k y0 y1 y2 y3 y4) (impl_sized.f (k + 1) y0 y1 y2 y3 y4)) ∧ (∀ y0 y1 y2 y3 y4,LeO (impl_sized.j0 k y0 y1 y2 y3 y4) (impl_sized.j0 (k + 1) y0 y1 y2 y3 y4)) ∧ (∀ y0 y1 y2 y3 y4,LeO (impl_sized.l0 k y0 y1 y2 y3 y4) (impl_sized.l0 (k + 1) y0 y1 y2 y3 y4))
 | 0 => ⟨fun _ _ _ _ _ r h => by simp [impl_sized.f] at h,fun _ _ _ _ _ r h => by simp [impl_sized.j0] at h,fun _ _ _ _ _ r h => by simp [impl_sized.l0] at h⟩
 | k + 1 => by
  obtain ⟨ih0,ih1,ih2⟩:=impl_sized.mono_l k
  refine ⟨?_,?_,?_⟩
  ·intro y0 y1 y2 y3 y4
   unfold impl_sized.f
   repeat' first
   | (with_reducible exact ih0 _ _ _ _ _)
   | (with_reducible exact ih1 _ _ _ _ _)
   | (with_reducible exact ih2 _ _ _ _ _)
   | (with_reducible exact impl_nameOk.mono _ _)
   | (with_reducible exact LeO.refl _)
   | (with_reducible exact LeO.none _)
   | (with_reducible refine LeO.ite ?_ ?_)
   | (with_reducible refine LeO.bind ?_ (fun _ => ?_))
   | exact ih0 _ _ _ _ _
   | exact ih1 _ _ _ _ _
   | exact ih2 _ _ _ _ _
   | exact impl_nameOk.mono _ _
   | exact LeO.none _
   | refine LeO.ite ?_ ?_
   | refine LeO.bind ?_ (fun _ => ?_)
  ·intro y0 y1 y2 y3 y4
   unfold impl_sized.j0
   repeat' first
   | (with_reducible exact ih0 _ _ _ _ _)
   | (with_reducible exact ih1 _ _ _ _ _)
   | (with_reducible exact ih2 _ _ _ _ _)
   | (with_reducible exact impl_nameOk.mono _ _)
   | (with_reducible exact LeO.refl _)
   | (with_reducible exact LeO.none _)
   | (with_reducible refine LeO.ite ?_ ?_)
   | (with_reducible refine LeO.bind ?_ (fun _ => ?_))
   | exact ih0 _ _ _ _ _
   | exact ih1 _ _ _ _ _
   | exact ih2 _ _ _ _ _
   | exact impl_nameOk.mono _ _
   | exact LeO.none _
   | refine LeO.ite ?_ ?_
   | refine LeO.bind ?_ (fun _ => ?_)
  ·intro y0 y1 y2 y3 y4
   unfold impl_sized.l0
   repeat' first
   | (with_reducible exact ih0 _ _ _ _ _)
   | (with_reducible exact ih1 _ _ _ _ _)
   | (with_reducible exact ih2 _ _ _ _ _)
   | (with_reducible exact impl_nameOk.mono _ _)
   | (with_reducible exact LeO.refl _)
   | (with_reducible exact LeO.none _)
   | (with_reducible refine LeO.ite ?_ ?_)
   | (with_reducible refine LeO.bind ?_ (fun _ => ?_))
   | exact ih0 _ _ _ _ _
   | exact ih1 _ _ _ _ _
   | exact ih2 _ _ _ _ _
   | exact impl_nameOk.mono _ _
   | exact LeO.none _
   | refine LeO.ite ?_ ?_
   | refine LeO.bind ?_ (fun _ => ?_)
theorem impl_sized.mono : ∀ a0 a1 a2 a3 a4 k,LeO (impl_sized.f k a0 a1 a2 a3 a4) (impl_sized.f (k + 1) a0 a1 a2 a3 a4):=by
 intro a0 a1 a2 a3 a4 k
 obtain ⟨ih0,ih1,ih2⟩:=impl_sized.mono_l k
 exact ih0 a0 a1 a2 a3 a4
set_option maxHeartbeats 8000000 in
set_option maxRecDepth 100000 in
theorem impl_sized.calls (k : Nat) : ∀ (a0_0 : Int) (a0_1 : ByteArray) (a0_2 : Int) (A0_3 : Option Addr) (c0_3 : Nat) (l0_3 : List (S29)) (a1 : Int) (r : Int) (w : World) (hr0_3 : Kd.C k29 w A0_3 l0_3.length l0_3) (hc0_3 : l0_3.length ≤ c0_3) (h : impl_sized.f k a0_0 a0_1 a0_2 l0_3 a1 = some r),
  Calls Tryd.prog 88 #[.agg #[.int .i64 a0_0,.string a0_1,.int .i64 a0_2,.slice A0_3 l0_3.length c0_3],.int .i64 a1] w fun e w' => e = .returned (.int .i64 r) ∧ Below w.heap.size w w':=by
 induction k using Nat.strongRecOn with
 | _ k ih =>
 intro a0_0 a0_1 a0_2 A0_3 c0_3 l0_3 a1 r w hr0_3 hc0_3 h
 cases k with
 | zero => exact absurd h (by simp [impl_sized.f])
 | succ k =>
 simp only [impl_sized.f] at h
 have hu29:=Tryd.underlying29
 have HR0_3:=asd hr0_3
 have HC0_3:=asd hc0_3
 clear hr0_3 hc0_3
 have HB:=asd (Below.refl w.heap.size w)
 have H : (if a1 > 40 then (some 401) else (if a0_0 = 1 then (if a0_1.toList = ([] : List UInt8) then ((impl_within.f a0_2 0 99999).bind fun t197 => (if t197 = true then (if (l0_3.length : Int) > 0 then (some 401) else (impl_sized.j0 k a1 a0_0 a0_1 a0_2 l0_3)) else (some 401))) else (some 401)) else (if a0_0 = 2 then ((impl_nameOk.f k a0_1).bind fun t198 => (if t198 = true then (if a0_2 = 0 then (if (l0_3.length : Int) > 0 then (some 401) else (impl_sized.j0 k a1 a0_0 a0_1 a0_2 l0_3)) else (some 401)) else (some 401))) else (if a0_0 = 3 then (if a0_1.toList = ([] : List UInt8) then ((impl_within.f a0_2 (-999999999) 999999999).bind fun t199 => (if t199 = true then (if (l0_3.length : Int) > 0 then (some 401) else (impl_sized.j0 k a1 a0_0 a0_1 a0_2 l0_3)) else (some 401))) else (some 401)) else (if a0_0 = 4 then ((impl_nameOk.f k a0_1).bind fun t200 => (if t200 = true then (if a0_2 = 0 then ((impl_within.f (l0_3.length : Int) 1 5).bind fun t201 => (if t201 = true then (impl_sized.j0 k a1 a0_0 a0_1 a0_2 l0_3) else (some 401))) else (some 401)) else (some 401))) else (some 401)))))) = some r:=h
 clear h
 by_cases c3 : a1 > 40
 ·rw [if_pos c3] at H
  have c3b0 : decide (40 < a1) = true:=decide_eq_true c3
  clear c3
  obtain rfl:=Option.some.inj H
  go_enter Tryd.func88,Tryd.ntmps88
  go_wp2_with (first|((with_reducible refine gate_dst (N:=2) rfl ?_);(try (refine gate_guard (by rfl) ?_;dsimp only));refine box_event ?hg (N:=2) ?hd (cs:=#[.int .i64 a0_0,.string a0_1,.int .i64 a0_2,.slice A0_3 l0_3.length c0_3]) (t:=29) ?hr ?_;(case hd => rfl);(case hg => rfl);(case hr => first|(go_simp;done)|(go_simp;rfl));intro gb196 hg w4 hbox hb;have n0_:=asd (below_step (by repeat (first|(with_reducible first|exact HB.out|apply below_alloc|apply pw_below_drewN|apply below_drew1)|exact HB.out)) hb);have n1_:=asd (hbox);have n2_:=asd ((by rw [hg];exact (below_size (by repeat (first|(with_reducible first|exact HB.out|apply below_alloc|apply pw_below_drewN|apply below_drew1)|exact HB.out))) : w.heap.size ≤ gb196));have n3_:=asd ((by rw [hg];exact (below_size (by repeat (first|(with_reducible first|exact HB.out|apply below_alloc|apply pw_below_drewN|apply below_drew1)|exact HB.out))) : w.heap.size ≤ gb196));clear HB;have HB:=n0_;have BK196:=n1_;have GW196:=n2_;have GE196:=n3_;clear n0_ n1_ n2_ n3_;clear hb hbox hg))
  go_ret
  exact ⟨by first|rfl|(simp [errW_none,errW_some] <;> rfl)|(simp [*,errW_none,errW_some] <;> rfl),by repeat (first|(with_reducible first|exact HB.out|apply below_alloc|apply pw_below_drewN|apply below_drew1|refine below_set ?_ GE196.out)|exact HB.out)⟩
 ·rw [if_neg c3] at H
  have c3b0 : decide (40 < a1) = false:=decide_eq_false c3
  clear c3
  have HC5:=asd H
  clear H
  go_enter Tryd.func88,Tryd.ntmps88
  go_upto_block 0 with (first|((with_reducible refine gate_dst (N:=2) rfl ?_);(try (refine gate_guard (by rfl) ?_;dsimp only));refine box_event ?hg (N:=2) ?hd (cs:=#[.int .i64 a0_0,.string a0_1,.int .i64 a0_2,.slice A0_3 l0_3.length c0_3]) (t:=29) ?hr ?_;(case hd => rfl);(case hg => rfl);(case hr => first|(go_simp;done)|(go_simp;rfl));intro gb196 hg w6 hbox hb;have n0_:=asd (below_step (by repeat (first|(with_reducible first|exact HB.out|apply below_alloc|apply pw_below_drewN|apply below_drew1)|exact HB.out)) hb);have n1_:=asd (hbox);have n2_:=asd ((by rw [hg];exact (below_size (by repeat (first|(with_reducible first|exact HB.out|apply below_alloc|apply pw_below_drewN|apply below_drew1)|exact HB.out))) : w.heap.size ≤ gb196));have n3_:=asd ((by rw [hg];exact (below_size (by repeat (first|(with_reducible first|exact HB.out|apply below_alloc|apply pw_below_drewN|apply below_drew1)|exact HB.out))) : w.heap.size ≤ gb196));clear HB;have HB:=n0_;have BK196:=n1_;have GW196:=n2_;have GE196:=n3_;clear n0_ n1_ n2_ n3_;clear hb hbox hg;have hcz7_0 : w6.cell? ⟨gb196,0,none⟩ = some (.int .i64 a0_0):=(blk_cell BK196.out 0).trans rfl;have hcz7_1 : w6.cell? ⟨gb196,1,none⟩ = some (.string a0_1):=(blk_cell BK196.out 1).trans rfl;have hcz7_2 : w6.cell? ⟨gb196,2,none⟩ = some (.int .i64 a0_2):=(blk_cell BK196.out 2).trans rfl;have hcz7_3 : w6.cell? ⟨gb196,3,none⟩ = some (.slice A0_3 l0_3.length c0_3):=(blk_cell BK196.out 3).trans rfl;have hfz7_0:=blk_frozen BK196.out 0;have hfz7_1:=blk_frozen BK196.out 1;have hfz7_2:=blk_frozen BK196.out 2;have hfz7_3:=blk_frozen BK196.out 3))
  (try simp only [Act.put,List.setIfInBounds_toArray,List.set_cons_zero,List.set_cons_succ])
  go_cut [] (fun wc => ∃ (kq : Nat),Aside0 (impl_sized.j0 kq a1 a0_0 a0_1 a0_2 l0_3 = some r) ∧ Aside0 (kq ≤ k) ∧ Aside0 (wc.heap[gb196]? = some (.cells #[.int .i64 a0_0,.string a0_1,.int .i64 a0_2,(.slice A0_3 l0_3.length c0_3)] 29 (0,0))) ∧ Aside0 (Below w.heap.size w wc))
  case first =>
   have H:=HC5.out
   clear HC5
   by_cases c8 : a0_0 = 1
   ·rw [if_pos c8] at H
    have c8b0 : (a0_0 == 1) = true:=beq_iff_eq.mpr c8
    have c8b1 : (a0_0 != 1) = false:=bne_eq_false_iff_eq.mpr c8
    clear c8
    (first|rw [c8b0]|(simp only [i64_w,i32_w];rw [c8b0])|skip)
    by_cases c9 : a0_1.toList = ([] : List UInt8)
    ·rw [if_pos c9] at H
     have c9b0 : (a0_1.toList == ([] : List UInt8)) = true:=beq_iff_eq.mpr c9
     have c9b1 : (a0_1.toList != ([] : List UInt8)) = false:=bne_eq_false_iff_eq.mpr c9
     clear c9
     replace H:=Option.bind_eq_some_iff.mp H
     obtain ⟨t197,A100,H⟩:=H
     replace H : (if t197 = true then (if (l0_3.length : Int) > 0 then (some 401) else (impl_sized.j0 k a1 a0_0 a0_1 a0_2 l0_3)) else (some 401)) = some r:=H
     have A10:=asd A100
     clear A100
     by_cases c11 : t197 = true
     ·subst c11
      have H1 : (if (l0_3.length : Int) > 0 then (some 401) else (impl_sized.j0 k a1 a0_0 a0_1 a0_2 l0_3)) = some r:=by rw [if_pos rfl] at H;exact H
      clear H
      have H:=H1
      clear H1
      by_cases c12 : (l0_3.length : Int) > 0
      ·rw [if_pos c12] at H
       have c12b0 : decide (0 < (l0_3.length : Int)) = true:=decide_eq_true c12
       have c12b1 : decide (0 < l0_3.length) = true:=decide_eq_true (by omega)
       clear c12
       obtain rfl:=Option.some.inj H
       have hcz13_0 : w6.cell? ⟨gb196,0,none⟩ = some (.int .i64 a0_0):=(blk_cell BK196.out 0).trans rfl
       have hcz13_1 : w6.cell? ⟨gb196,1,none⟩ = some (.string a0_1):=(blk_cell BK196.out 1).trans rfl
       have hcz13_2 : w6.cell? ⟨gb196,2,none⟩ = some (.int .i64 a0_2):=(blk_cell BK196.out 2).trans rfl
       have hcz13_3 : w6.cell? ⟨gb196,3,none⟩ = some (.slice A0_3 l0_3.length c0_3):=(blk_cell BK196.out 3).trans rfl
       have hfz13_0:=blk_frozen BK196.out 0
       have hfz13_1:=blk_frozen BK196.out 1
       have hfz13_2:=blk_frozen BK196.out 2
       have hfz13_3:=blk_frozen BK196.out 3
       go_wp2_with (first|(go_at_call 110;(with_reducible refine (impl_within.calls a0_2 0 99999 true _ A10.out).mono ?_);rintro e w' ⟨rfl,⟨nd,rfl⟩⟩))
       go_ret
       exact ⟨by first|rfl|(simp [errW_none,errW_some] <;> rfl)|(simp [*,errW_none,errW_some] <;> rfl),by repeat (first|(with_reducible first|exact HB.out|apply below_alloc|apply pw_below_drewN|apply below_drew1|refine below_set ?_ GE196.out)|exact HB.out)⟩
      ·rw [if_neg c12] at H
       have c12b0 : decide (0 < (l0_3.length : Int)) = false:=decide_eq_false c12
       have c12b1 : decide (0 < l0_3.length) = false:=decide_eq_false (by omega)
       clear c12
       have H':=asd H
       clear H
       have hcz14_0 : w6.cell? ⟨gb196,0,none⟩ = some (.int .i64 a0_0):=(blk_cell BK196.out 0).trans rfl
       have hcz14_1 : w6.cell? ⟨gb196,1,none⟩ = some (.string a0_1):=(blk_cell BK196.out 1).trans rfl
       have hcz14_2 : w6.cell? ⟨gb196,2,none⟩ = some (.int .i64 a0_2):=(blk_cell BK196.out 2).trans rfl
       have hcz14_3 : w6.cell? ⟨gb196,3,none⟩ = some (.slice A0_3 l0_3.length c0_3):=(blk_cell BK196.out 3).trans rfl
       have hfz14_0:=blk_frozen BK196.out 0
       have hfz14_1:=blk_frozen BK196.out 1
       have hfz14_2:=blk_frozen BK196.out 2
       have hfz14_3:=blk_frozen BK196.out 3
       go_wp2_with (first|(go_at_call 110;(with_reducible refine (impl_within.calls a0_2 0 99999 true _ A10.out).mono ?_);rintro e w' ⟨rfl,⟨nd,rfl⟩⟩))
       go_meet
       case rel => exact ⟨_,H',⟨by first|omega|exact Nat.le_refl _⟩,⟨by (with_reducible repeat (first|refine blk_drewN ?_ _|refine blk_drew ?_|refine blk_alloc ?_ _));exact BK196.out⟩,⟨by repeat (first|(with_reducible first|exact HB.out|apply below_alloc|apply pw_below_drewN|apply below_drew1|refine below_set ?_ GE196.out)|exact HB.out)⟩⟩
     ·replace c11:=Bool.eq_false_iff.mpr c11
      subst c11
      have H1 : (some 401) = some r:=by rw [if_neg (show ¬ (false = true) by decide)] at H;exact H
      clear H
      have H:=H1
      clear H1
      obtain rfl:=Option.some.inj H
      have hcz15_0 : w6.cell? ⟨gb196,0,none⟩ = some (.int .i64 a0_0):=(blk_cell BK196.out 0).trans rfl
      have hcz15_1 : w6.cell? ⟨gb196,1,none⟩ = some (.string a0_1):=(blk_cell BK196.out 1).trans rfl
      have hcz15_2 : w6.cell? ⟨gb196,2,none⟩ = some (.int .i64 a0_2):=(blk_cell BK196.out 2).trans rfl
      have hcz15_3 : w6.cell? ⟨gb196,3,none⟩ = some (.slice A0_3 l0_3.length c0_3):=(blk_cell BK196.out 3).trans rfl
      have hfz15_0:=blk_frozen BK196.out 0
      have hfz15_1:=blk_frozen BK196.out 1
      have hfz15_2:=blk_frozen BK196.out 2
      have hfz15_3:=blk_frozen BK196.out 3
      go_wp2_with (first|(go_at_call 110;(with_reducible refine (impl_within.calls a0_2 0 99999 false _ A10.out).mono ?_);rintro e w' ⟨rfl,⟨nd,rfl⟩⟩))
      go_ret
      exact ⟨by first|rfl|(simp [errW_none,errW_some] <;> rfl)|(simp [*,errW_none,errW_some] <;> rfl),by repeat (first|(with_reducible first|exact HB.out|apply below_alloc|apply pw_below_drewN|apply below_drew1|refine below_set ?_ GE196.out)|exact HB.out)⟩
    ·rw [if_neg c9] at H
     have c9b0 : (a0_1.toList == ([] : List UInt8)) = false:=beq_eq_false_iff_ne.mpr c9
     have c9b1 : (a0_1.toList != ([] : List UInt8)) = true:=bne_iff_ne.mpr c9
     obtain rfl:=Option.some.inj H
     have hcz16_0 : w6.cell? ⟨gb196,0,none⟩ = some (.int .i64 a0_0):=(blk_cell BK196.out 0).trans rfl
     have hcz16_1 : w6.cell? ⟨gb196,1,none⟩ = some (.string a0_1):=(blk_cell BK196.out 1).trans rfl
     have hcz16_2 : w6.cell? ⟨gb196,2,none⟩ = some (.int .i64 a0_2):=(blk_cell BK196.out 2).trans rfl
     have hcz16_3 : w6.cell? ⟨gb196,3,none⟩ = some (.slice A0_3 l0_3.length c0_3):=(blk_cell BK196.out 3).trans rfl
     have hfz16_0:=blk_frozen BK196.out 0
     have hfz16_1:=blk_frozen BK196.out 1
     have hfz16_2:=blk_frozen BK196.out 2
     have hfz16_3:=blk_frozen BK196.out 3
     go_wp2
     go_ret
     exact ⟨by first|rfl|(simp [errW_none,errW_some] <;> rfl)|(simp [*,errW_none,errW_some] <;> rfl),by repeat (first|(with_reducible first|exact HB.out|apply below_alloc|apply pw_below_drewN|apply below_drew1|refine below_set ?_ GE196.out)|exact HB.out)⟩
   ·rw [if_neg c8] at H
    have c8b0 : (a0_0 == 1) = false:=beq_eq_false_iff_ne.mpr c8
    have c8b1 : (a0_0 != 1) = true:=bne_iff_ne.mpr c8
    (first|rw [c8b0]|(simp only [i64_w,i32_w];rw [c8b0])|skip)
    by_cases c17 : a0_0 = 2
    ·rw [if_pos c17] at H
     have c17b0 : (a0_0 == 2) = true:=beq_iff_eq.mpr c17
     have c17b1 : (a0_0 != 2) = false:=bne_eq_false_iff_eq.mpr c17
     clear c17
     replace H:=Option.bind_eq_some_iff.mp H
     obtain ⟨t198,A180,H⟩:=H
     replace H : (if t198 = true then (if a0_2 = 0 then (if (l0_3.length : Int) > 0 then (some 401) else (impl_sized.j0 k a1 a0_0 a0_1 a0_2 l0_3)) else (some 401)) else (some 401)) = some r:=H
     have A18:=asd A180
     clear A180
     by_cases c19 : t198 = true
     ·subst c19
      have H1 : (if a0_2 = 0 then (if (l0_3.length : Int) > 0 then (some 401) else (impl_sized.j0 k a1 a0_0 a0_1 a0_2 l0_3)) else (some 401)) = some r:=by rw [if_pos rfl] at H;exact H
      clear H
      have H:=H1
      clear H1
      by_cases c20 : a0_2 = 0
      ·rw [if_pos c20] at H
       have c20b0 : (a0_2 == 0) = true:=beq_iff_eq.mpr c20
       have c20b1 : (a0_2 != 0) = false:=bne_eq_false_iff_eq.mpr c20
       clear c20
       by_cases c21 : (l0_3.length : Int) > 0
       ·rw [if_pos c21] at H
        have c21b0 : decide (0 < (l0_3.length : Int)) = true:=decide_eq_true c21
        have c21b1 : decide (0 < l0_3.length) = true:=decide_eq_true (by omega)
        clear c21
        obtain rfl:=Option.some.inj H
        have hcz22_0 : w6.cell? ⟨gb196,0,none⟩ = some (.int .i64 a0_0):=(blk_cell BK196.out 0).trans rfl
        have hcz22_1 : w6.cell? ⟨gb196,1,none⟩ = some (.string a0_1):=(blk_cell BK196.out 1).trans rfl
        have hcz22_2 : w6.cell? ⟨gb196,2,none⟩ = some (.int .i64 a0_2):=(blk_cell BK196.out 2).trans rfl
        have hcz22_3 : w6.cell? ⟨gb196,3,none⟩ = some (.slice A0_3 l0_3.length c0_3):=(blk_cell BK196.out 3).trans rfl
        have hfz22_0:=blk_frozen BK196.out 0
        have hfz22_1:=blk_frozen BK196.out 1
        have hfz22_2:=blk_frozen BK196.out 2
        have hfz22_3:=blk_frozen BK196.out 3
        go_wp2_with (first|((with_reducible refine gate_callee (f:=111) rfl ?_);refine goesL_ (some 33) rfl rfl Tryd.func111 (by kernel_rfl) rfl #[.string a0_1] rfl (by (try simp only [List.map_toArray,List.map_cons,List.map_nil]);first|done|rfl|(simp only [List.length_drop,List.length_take];rfl)) ?_;(with_reducible refine (impl_nameOk.calls k a0_1 true _ A18.out).mono ?_);rintro e w' ⟨rfl,⟨nd,rfl⟩⟩;refine ⟨_,rfl,?_⟩))
        go_ret
        exact ⟨by first|rfl|(simp [errW_none,errW_some] <;> rfl)|(simp [*,errW_none,errW_some] <;> rfl),by repeat (first|(with_reducible first|exact HB.out|apply below_alloc|apply pw_below_drewN|apply below_drew1|refine below_set ?_ GE196.out)|exact HB.out)⟩
       ·rw [if_neg c21] at H
        have c21b0 : decide (0 < (l0_3.length : Int)) = false:=decide_eq_false c21
        have c21b1 : decide (0 < l0_3.length) = false:=decide_eq_false (by omega)
        clear c21
        have H':=asd H
        clear H
        have hcz23_0 : w6.cell? ⟨gb196,0,none⟩ = some (.int .i64 a0_0):=(blk_cell BK196.out 0).trans rfl
        have hcz23_1 : w6.cell? ⟨gb196,1,none⟩ = some (.string a0_1):=(blk_cell BK196.out 1).trans rfl
        have hcz23_2 : w6.cell? ⟨gb196,2,none⟩ = some (.int .i64 a0_2):=(blk_cell BK196.out 2).trans rfl
        have hcz23_3 : w6.cell? ⟨gb196,3,none⟩ = some (.slice A0_3 l0_3.length c0_3):=(blk_cell BK196.out 3).trans rfl
        have hfz23_0:=blk_frozen BK196.out 0
        have hfz23_1:=blk_frozen BK196.out 1
        have hfz23_2:=blk_frozen BK196.out 2
        have hfz23_3:=blk_frozen BK196.out 3
        go_wp2_with (first|((with_reducible refine gate_callee (f:=111) rfl ?_);refine goesL_ (some 33) rfl rfl Tryd.func111 (by kernel_rfl) rfl #[.string a0_1] rfl (by (try simp only [List.map_toArray,List.map_cons,List.map_nil]);first|done|rfl|(simp only [List.length_drop,List.length_take];rfl)) ?_;(with_reducible refine (impl_nameOk.calls k a0_1 true _ A18.out).mono ?_);rintro e w' ⟨rfl,⟨nd,rfl⟩⟩;refine ⟨_,rfl,?_⟩))
        go_meet
        case rel => exact ⟨_,H',⟨by first|omega|exact Nat.le_refl _⟩,⟨by (with_reducible repeat (first|refine blk_drewN ?_ _|refine blk_drew ?_|refine blk_alloc ?_ _));exact BK196.out⟩,⟨by repeat (first|(with_reducible first|exact HB.out|apply below_alloc|apply pw_below_drewN|apply below_drew1|refine below_set ?_ GE196.out)|exact HB.out)⟩⟩
      ·rw [if_neg c20] at H
       have c20b0 : (a0_2 == 0) = false:=beq_eq_false_iff_ne.mpr c20
       have c20b1 : (a0_2 != 0) = true:=bne_iff_ne.mpr c20
       obtain rfl:=Option.some.inj H
       have hcz24_0 : w6.cell? ⟨gb196,0,none⟩ = some (.int .i64 a0_0):=(blk_cell BK196.out 0).trans rfl
       have hcz24_1 : w6.cell? ⟨gb196,1,none⟩ = some (.string a0_1):=(blk_cell BK196.out 1).trans rfl
       have hcz24_2 : w6.cell? ⟨gb196,2,none⟩ = some (.int .i64 a0_2):=(blk_cell BK196.out 2).trans rfl
       have hcz24_3 : w6.cell? ⟨gb196,3,none⟩ = some (.slice A0_3 l0_3.length c0_3):=(blk_cell BK196.out 3).trans rfl
       have hfz24_0:=blk_frozen BK196.out 0
       have hfz24_1:=blk_frozen BK196.out 1
       have hfz24_2:=blk_frozen BK196.out 2
       have hfz24_3:=blk_frozen BK196.out 3
       go_wp2_with (first|((with_reducible refine gate_callee (f:=111) rfl ?_);refine goesL_ (some 33) rfl rfl Tryd.func111 (by kernel_rfl) rfl #[.string a0_1] rfl (by (try simp only [List.map_toArray,List.map_cons,List.map_nil]);first|done|rfl|(simp only [List.length_drop,List.length_take];rfl)) ?_;(with_reducible refine (impl_nameOk.calls k a0_1 true _ A18.out).mono ?_);rintro e w' ⟨rfl,⟨nd,rfl⟩⟩;refine ⟨_,rfl,?_⟩))
       go_ret
       exact ⟨by first|rfl|(simp [errW_none,errW_some] <;> rfl)|(simp [*,errW_none,errW_some] <;> rfl),by repeat (first|(with_reducible first|exact HB.out|apply below_alloc|apply pw_below_drewN|apply below_drew1|refine below_set ?_ GE196.out)|exact HB.out)⟩
     ·replace c19:=Bool.eq_false_iff.mpr c19
      subst c19
      have H1 : (some 401) = some r:=by rw [if_neg (show ¬ (false = true) by decide)] at H;exact H
      clear H
      have H:=H1
      clear H1
      obtain rfl:=Option.some.inj H
      have hcz25_0 : w6.cell? ⟨gb196,0,none⟩ = some (.int .i64 a0_0):=(blk_cell BK196.out 0).trans rfl
      have hcz25_1 : w6.cell? ⟨gb196,1,none⟩ = some (.string a0_1):=(blk_cell BK196.out 1).trans rfl
      have hcz25_2 : w6.cell? ⟨gb196,2,none⟩ = some (.int .i64 a0_2):=(blk_cell BK196.out 2).trans rfl
      have hcz25_3 : w6.cell? ⟨gb196,3,none⟩ = some (.slice A0_3 l0_3.length c0_3):=(blk_cell BK196.out 3).trans rfl
      have hfz25_0:=blk_frozen BK196.out 0
      have hfz25_1:=blk_frozen BK196.out 1
      have hfz25_2:=blk_frozen BK196.out 2
      have hfz25_3:=blk_frozen BK196.out 3
      go_wp2_with (first|((with_reducible refine gate_callee (f:=111) rfl ?_);refine goesL_ (some 33) rfl rfl Tryd.func111 (by kernel_rfl) rfl #[.string a0_1] rfl (by (try simp only [List.map_toArray,List.map_cons,List.map_nil]);first|done|rfl|(simp only [List.length_drop,List.length_take];rfl)) ?_;(with_reducible refine (impl_nameOk.calls k a0_1 false _ A18.out).mono ?_);rintro e w' ⟨rfl,⟨nd,rfl⟩⟩;refine ⟨_,rfl,?_⟩))
      go_ret
      exact ⟨by first|rfl|(simp [errW_none,errW_some] <;> rfl)|(simp [*,errW_none,errW_some] <;> rfl),by repeat (first|(with_reducible first|exact HB.out|apply below_alloc|apply pw_below_drewN|apply below_drew1|refine below_set ?_ GE196.out)|exact HB.out)⟩
    ·rw [if_neg c17] at H
     have c17b0 : (a0_0 == 2) = false:=beq_eq_false_iff_ne.mpr c17
     have c17b1 : (a0_0 != 2) = true:=bne_iff_ne.mpr c17
     by_cases c26 : a0_0 = 3
     ·rw [if_pos c26] at H
      have c26b0 : (a0_0 == 3) = true:=beq_iff_eq.mpr c26
      have c26b1 : (a0_0 != 3) = false:=bne_eq_false_iff_eq.mpr c26
      clear c26
      by_cases c27 : a0_1.toList = ([] : List UInt8)
      ·rw [if_pos c27] at H
       have c27b0 : (a0_1.toList == ([] : List UInt8)) = true:=beq_iff_eq.mpr c27
       have c27b1 : (a0_1.toList != ([] : List UInt8)) = false:=bne_eq_false_iff_eq.mpr c27
       clear c27
       replace H:=Option.bind_eq_some_iff.mp H
       obtain ⟨t199,A280,H⟩:=H
       replace H : (if t199 = true then (if (l0_3.length : Int) > 0 then (some 401) else (impl_sized.j0 k a1 a0_0 a0_1 a0_2 l0_3)) else (some 401)) = some r:=H
       have A28:=asd A280
       clear A280
       by_cases c29 : t199 = true
       ·subst c29
        have H1 : (if (l0_3.length : Int) > 0 then (some 401) else (impl_sized.j0 k a1 a0_0 a0_1 a0_2 l0_3)) = some r:=by rw [if_pos rfl] at H;exact H
        clear H
        have H:=H1
        clear H1
        by_cases c30 : (l0_3.length : Int) > 0
        ·rw [if_pos c30] at H
         have c30b0 : decide (0 < (l0_3.length : Int)) = true:=decide_eq_true c30
         have c30b1 : decide (0 < l0_3.length) = true:=decide_eq_true (by omega)
         clear c30
         obtain rfl:=Option.some.inj H
         have hcz31_0 : w6.cell? ⟨gb196,0,none⟩ = some (.int .i64 a0_0):=(blk_cell BK196.out 0).trans rfl
         have hcz31_1 : w6.cell? ⟨gb196,1,none⟩ = some (.string a0_1):=(blk_cell BK196.out 1).trans rfl
         have hcz31_2 : w6.cell? ⟨gb196,2,none⟩ = some (.int .i64 a0_2):=(blk_cell BK196.out 2).trans rfl
         have hcz31_3 : w6.cell? ⟨gb196,3,none⟩ = some (.slice A0_3 l0_3.length c0_3):=(blk_cell BK196.out 3).trans rfl
         have hfz31_0:=blk_frozen BK196.out 0
         have hfz31_1:=blk_frozen BK196.out 1
         have hfz31_2:=blk_frozen BK196.out 2
         have hfz31_3:=blk_frozen BK196.out 3
         go_wp2_with (first|(go_at_call 110;(with_reducible refine (impl_within.calls a0_2 (-999999999) 999999999 true _ A28.out).mono ?_);rintro e w' ⟨rfl,⟨nd,rfl⟩⟩))
         go_ret
         exact ⟨by first|rfl|(simp [errW_none,errW_some] <;> rfl)|(simp [*,errW_none,errW_some] <;> rfl),by repeat (first|(with_reducible first|exact HB.out|apply below_alloc|apply pw_below_drewN|apply below_drew1|refine below_set ?_ GE196.out)|exact HB.out)⟩
        ·rw [if_neg c30] at H
         have c30b0 : decide (0 < (l0_3.length : Int)) = false:=decide_eq_false c30
         have c30b1 : decide (0 < l0_3.length) = false:=decide_eq_false (by omega)
         clear c30
         have H':=asd H
         clear H
         have hcz32_0 : w6.cell? ⟨gb196,0,none⟩ = some (.int .i64 a0_0):=(blk_cell BK196.out 0).trans rfl
         have hcz32_1 : w6.cell? ⟨gb196,1,none⟩ = some (.string a0_1):=(blk_cell BK196.out 1).trans rfl
         have hcz32_2 : w6.cell? ⟨gb196,2,none⟩ = some (.int .i64 a0_2):=(blk_cell BK196.out 2).trans rfl
         have hcz32_3 : w6.cell? ⟨gb196,3,none⟩ = some (.slice A0_3 l0_3.length c0_3):=(blk_cell BK196.out 3).trans rfl
         have hfz32_0:=blk_frozen BK196.out 0
         have hfz32_1:=blk_frozen BK196.out 1
         have hfz32_2:=blk_frozen BK196.out 2
         have hfz32_3:=blk_frozen BK196.out 3
         go_wp2_with (first|(go_at_call 110;(with_reducible refine (impl_within.calls a0_2 (-999999999) 999999999 true _ A28.out).mono ?_);rintro e w' ⟨rfl,⟨nd,rfl⟩⟩))
         go_meet
         case rel => exact ⟨_,H',⟨by first|omega|exact Nat.le_refl _⟩,⟨by (with_reducible repeat (first|refine blk_drewN ?_ _|refine blk_drew ?_|refine blk_alloc ?_ _));exact BK196.out⟩,⟨by repeat (first|(with_reducible first|exact HB.out|apply below_alloc|apply pw_below_drewN|apply below_drew1|refine below_set ?_ GE196.out)|exact HB.out)⟩⟩
       ·replace c29:=Bool.eq_false_iff.mpr c29
        subst c29
        have H1 : (some 401) = some r:=by rw [if_neg (show ¬ (false = true) by decide)] at H;exact H
        clear H
        have H:=H1
        clear H1
        obtain rfl:=Option.some.inj H
        have hcz33_0 : w6.cell? ⟨gb196,0,none⟩ = some (.int .i64 a0_0):=(blk_cell BK196.out 0).trans rfl
        have hcz33_1 : w6.cell? ⟨gb196,1,none⟩ = some (.string a0_1):=(blk_cell BK196.out 1).trans rfl
        have hcz33_2 : w6.cell? ⟨gb196,2,none⟩ = some (.int .i64 a0_2):=(blk_cell BK196.out 2).trans rfl
        have hcz33_3 : w6.cell? ⟨gb196,3,none⟩ = some (.slice A0_3 l0_3.length c0_3):=(blk_cell BK196.out 3).trans rfl
        have hfz33_0:=blk_frozen BK196.out 0
        have hfz33_1:=blk_frozen BK196.out 1
        have hfz33_2:=blk_frozen BK196.out 2
        have hfz33_3:=blk_frozen BK196.out 3
        go_wp2_with (first|(go_at_call 110;(with_reducible refine (impl_within.calls a0_2 (-999999999) 999999999 false _ A28.out).mono ?_);rintro e w' ⟨rfl,⟨nd,rfl⟩⟩))
        go_ret
        exact ⟨by first|rfl|(simp [errW_none,errW_some] <;> rfl)|(simp [*,errW_none,errW_some] <;> rfl),by repeat (first|(with_reducible first|exact HB.out|apply below_alloc|apply pw_below_drewN|apply below_drew1|refine below_set ?_ GE196.out)|exact HB.out)⟩
      ·rw [if_neg c27] at H
       have c27b0 : (a0_1.toList == ([] : List UInt8)) = false:=beq_eq_false_iff_ne.mpr c27
       have c27b1 : (a0_1.toList != ([] : List UInt8)) = true:=bne_iff_ne.mpr c27
       obtain rfl:=Option.some.inj H
       have hcz34_0 : w6.cell? ⟨gb196,0,none⟩ = some (.int .i64 a0_0):=(blk_cell BK196.out 0).trans rfl
       have hcz34_1 : w6.cell? ⟨gb196,1,none⟩ = some (.string a0_1):=(blk_cell BK196.out 1).trans rfl
       have hcz34_2 : w6.cell? ⟨gb196,2,none⟩ = some (.int .i64 a0_2):=(blk_cell BK196.out 2).trans rfl
       have hcz34_3 : w6.cell? ⟨gb196,3,none⟩ = some (.slice A0_3 l0_3.length c0_3):=(blk_cell BK196.out 3).trans rfl
       have hfz34_0:=blk_frozen BK196.out 0
       have hfz34_1:=blk_frozen BK196.out 1
       have hfz34_2:=blk_frozen BK196.out 2
       have hfz34_3:=blk_frozen BK196.out 3
       go_wp2
       go_ret
       exact ⟨by first|rfl|(simp [errW_none,errW_some] <;> rfl)|(simp [*,errW_none,errW_some] <;> rfl),by repeat (first|(with_reducible first|exact HB.out|apply below_alloc|apply pw_below_drewN|apply below_drew1|refine below_set ?_ GE196.out)|exact HB.out)⟩
     ·rw [if_neg c26] at H
      have c26b0 : (a0_0 == 3) = false:=beq_eq_false_iff_ne.mpr c26
      have c26b1 : (a0_0 != 3) = true:=bne_iff_ne.mpr c26
      by_cases c35 : a0_0 = 4
      ·rw [if_pos c35] at H
       have c35b0 : (a0_0 == 4) = true:=beq_iff_eq.mpr c35
       have c35b1 : (a0_0 != 4) = false:=bne_eq_false_iff_eq.mpr c35
       clear c35
       replace H:=Option.bind_eq_some_iff.mp H
       obtain ⟨t200,A360,H⟩:=H
       replace H : (if t200 = true then (if a0_2 = 0 then ((impl_within.f (l0_3.length : Int) 1 5).bind fun t201 => (if t201 = true then (impl_sized.j0 k a1 a0_0 a0_1 a0_2 l0_3) else (some 401))) else (some 401)) else (some 401)) = some r:=H
       have A36:=asd A360
       clear A360
       by_cases c37 : t200 = true
       ·subst c37
        have H1 : (if a0_2 = 0 then ((impl_within.f (l0_3.length : Int) 1 5).bind fun t201 => (if t201 = true then (impl_sized.j0 k a1 a0_0 a0_1 a0_2 l0_3) else (some 401))) else (some 401)) = some r:=by rw [if_pos rfl] at H;exact H
        clear H
        have H:=H1
        clear H1
        by_cases c38 : a0_2 = 0
        ·rw [if_pos c38] at H
         have c38b0 : (a0_2 == 0) = true:=beq_iff_eq.mpr c38
         have c38b1 : (a0_2 != 0) = false:=bne_eq_false_iff_eq.mpr c38
         clear c38
         replace H:=Option.bind_eq_some_iff.mp H
         obtain ⟨t201,A390,H⟩:=H
         replace H : (if t201 = true then (impl_sized.j0 k a1 a0_0 a0_1 a0_2 l0_3) else (some 401)) = some r:=H
         have A39:=asd A390
         clear A390
         by_cases c40 : t201 = true
         ·subst c40
          have H1 : (impl_sized.j0 k a1 a0_0 a0_1 a0_2 l0_3) = some r:=by rw [if_pos rfl] at H;exact H
          clear H
          have H:=H1
          clear H1
          have H':=asd H
          clear H
          have hcz41_0 : w6.cell? ⟨gb196,0,none⟩ = some (.int .i64 a0_0):=(blk_cell BK196.out 0).trans rfl
          have hcz41_1 : w6.cell? ⟨gb196,1,none⟩ = some (.string a0_1):=(blk_cell BK196.out 1).trans rfl
          have hcz41_2 : w6.cell? ⟨gb196,2,none⟩ = some (.int .i64 a0_2):=(blk_cell BK196.out 2).trans rfl
          have hcz41_3 : w6.cell? ⟨gb196,3,none⟩ = some (.slice A0_3 l0_3.length c0_3):=(blk_cell BK196.out 3).trans rfl
          have hfz41_0:=blk_frozen BK196.out 0
          have hfz41_1:=blk_frozen BK196.out 1
          have hfz41_2:=blk_frozen BK196.out 2
          have hfz41_3:=blk_frozen BK196.out 3
          go_wp2_with (first|((with_reducible refine gate_callee (f:=111) rfl ?_);refine goesL_ (some 67) rfl rfl Tryd.func111 (by kernel_rfl) rfl #[.string a0_1] rfl (by (try simp only [List.map_toArray,List.map_cons,List.map_nil]);first|done|rfl|(simp only [List.length_drop,List.length_take];rfl)) ?_;(with_reducible refine (impl_nameOk.calls k a0_1 true _ A36.out).mono ?_);rintro e w' ⟨rfl,⟨nd,rfl⟩⟩;refine ⟨_,rfl,?_⟩)|(go_at_call 110;(with_reducible refine (impl_within.calls (l0_3.length : Int) 1 5 true _ A39.out).mono ?_);rintro e w' ⟨rfl,⟨nd,rfl⟩⟩))
          go_meet
          case rel => exact ⟨_,H',⟨by first|omega|exact Nat.le_refl _⟩,⟨by (with_reducible repeat (first|refine blk_drewN ?_ _|refine blk_drew ?_|refine blk_alloc ?_ _));exact BK196.out⟩,⟨by repeat (first|(with_reducible first|exact HB.out|apply below_alloc|apply pw_below_drewN|apply below_drew1|refine below_set ?_ GE196.out)|exact HB.out)⟩⟩
         ·replace c40:=Bool.eq_false_iff.mpr c40
          subst c40
          have H1 : (some 401) = some r:=by rw [if_neg (show ¬ (false = true) by decide)] at H;exact H
          clear H
          have H:=H1
          clear H1
          obtain rfl:=Option.some.inj H
          have hcz42_0 : w6.cell? ⟨gb196,0,none⟩ = some (.int .i64 a0_0):=(blk_cell BK196.out 0).trans rfl
          have hcz42_1 : w6.cell? ⟨gb196,1,none⟩ = some (.string a0_1):=(blk_cell BK196.out 1).trans rfl
          have hcz42_2 : w6.cell? ⟨gb196,2,none⟩ = some (.int .i64 a0_2):=(blk_cell BK196.out 2).trans rfl
          have hcz42_3 : w6.cell? ⟨gb196,3,none⟩ = some (.slice A0_3 l0_3.length c0_3):=(blk_cell BK196.out 3).trans rfl
          have hfz42_0:=blk_frozen BK196.out 0
          have hfz42_1:=blk_frozen BK196.out 1
          have hfz42_2:=blk_frozen BK196.out 2
          have hfz42_3:=blk_frozen BK196.out 3
          go_wp2_with (first|((with_reducible refine gate_callee (f:=111) rfl ?_);refine goesL_ (some 67) rfl rfl Tryd.func111 (by kernel_rfl) rfl #[.string a0_1] rfl (by (try simp only [List.map_toArray,List.map_cons,List.map_nil]);first|done|rfl|(simp only [List.length_drop,List.length_take];rfl)) ?_;(with_reducible refine (impl_nameOk.calls k a0_1 true _ A36.out).mono ?_);rintro e w' ⟨rfl,⟨nd,rfl⟩⟩;refine ⟨_,rfl,?_⟩)|(go_at_call 110;(with_reducible refine (impl_within.calls (l0_3.length : Int) 1 5 false _ A39.out).mono ?_);rintro e w' ⟨rfl,⟨nd,rfl⟩⟩))
          go_ret
          exact ⟨by first|rfl|(simp [errW_none,errW_some] <;> rfl)|(simp [*,errW_none,errW_some] <;> rfl),by repeat (first|(with_reducible first|exact HB.out|apply below_alloc|apply pw_below_drewN|apply below_drew1|refine below_set ?_ GE196.out)|exact HB.out)⟩
        ·rw [if_neg c38] at H
         have c38b0 : (a0_2 == 0) = false:=beq_eq_false_iff_ne.mpr c38
         have c38b1 : (a0_2 != 0) = true:=bne_iff_ne.mpr c38
         obtain rfl:=Option.some.inj H
         have hcz43_0 : w6.cell? ⟨gb196,0,none⟩ = some (.int .i64 a0_0):=(blk_cell BK196.out 0).trans rfl
         have hcz43_1 : w6.cell? ⟨gb196,1,none⟩ = some (.string a0_1):=(blk_cell BK196.out 1).trans rfl
         have hcz43_2 : w6.cell? ⟨gb196,2,none⟩ = some (.int .i64 a0_2):=(blk_cell BK196.out 2).trans rfl
         have hcz43_3 : w6.cell? ⟨gb196,3,none⟩ = some (.slice A0_3 l0_3.length c0_3):=(blk_cell BK196.out 3).trans rfl
         have hfz43_0:=blk_frozen BK196.out 0
         have hfz43_1:=blk_frozen BK196.out 1
         have hfz43_2:=blk_frozen BK196.out 2
         have hfz43_3:=blk_frozen BK196.out 3
         go_wp2_with (first|((with_reducible refine gate_callee (f:=111) rfl ?_);refine goesL_ (some 67) rfl rfl Tryd.func111 (by kernel_rfl) rfl #[.string a0_1] rfl (by (try simp only [List.map_toArray,List.map_cons,List.map_nil]);first|done|rfl|(simp only [List.length_drop,List.length_take];rfl)) ?_;(with_reducible refine (impl_nameOk.calls k a0_1 true _ A36.out).mono ?_);rintro e w' ⟨rfl,⟨nd,rfl⟩⟩;refine ⟨_,rfl,?_⟩))
         go_ret
         exact ⟨by first|rfl|(simp [errW_none,errW_some] <;> rfl)|(simp [*,errW_none,errW_some] <;> rfl),by repeat (first|(with_reducible first|exact HB.out|apply below_alloc|apply pw_below_drewN|apply below_drew1|refine below_set ?_ GE196.out)|exact HB.out)⟩
       ·replace c37:=Bool.eq_false_iff.mpr c37
        subst c37
        have H1 : (some 401) = some r:=by rw [if_neg (show ¬ (false = true) by decide)] at H;exact H
        clear H
        have H:=H1
        clear H1
        obtain rfl:=Option.some.inj H
        have hcz44_0 : w6.cell? ⟨gb196,0,none⟩ = some (.int .i64 a0_0):=(blk_cell BK196.out 0).trans rfl
        have hcz44_1 : w6.cell? ⟨gb196,1,none⟩ = some (.string a0_1):=(blk_cell BK196.out 1).trans rfl
        have hcz44_2 : w6.cell? ⟨gb196,2,none⟩ = some (.int .i64 a0_2):=(blk_cell BK196.out 2).trans rfl
        have hcz44_3 : w6.cell? ⟨gb196,3,none⟩ = some (.slice A0_3 l0_3.length c0_3):=(blk_cell BK196.out 3).trans rfl
        have hfz44_0:=blk_frozen BK196.out 0
        have hfz44_1:=blk_frozen BK196.out 1
        have hfz44_2:=blk_frozen BK196.out 2
        have hfz44_3:=blk_frozen BK196.out 3
        go_wp2_with (first|((with_reducible refine gate_callee (f:=111) rfl ?_);refine goesL_ (some 67) rfl rfl Tryd.func111 (by kernel_rfl) rfl #[.string a0_1] rfl (by (try simp only [List.map_toArray,List.map_cons,List.map_nil]);first|done|rfl|(simp only [List.length_drop,List.length_take];rfl)) ?_;(with_reducible refine (impl_nameOk.calls k a0_1 false _ A36.out).mono ?_);rintro e w' ⟨rfl,⟨nd,rfl⟩⟩;refine ⟨_,rfl,?_⟩))
        go_ret
        exact ⟨by first|rfl|(simp [errW_none,errW_some] <;> rfl)|(simp [*,errW_none,errW_some] <;> rfl),by repeat (first|(with_reducible first|exact HB.out|apply below_alloc|apply pw_below_drewN|apply below_drew1|refine below_set ?_ GE196.out)|exact HB.out)⟩
      ·rw [if_neg c35] at H
       have c35b0 : (a0_0 == 4) = false:=beq_eq_false_iff_ne.mpr c35
       have c35b1 : (a0_0 != 4) = true:=bne_iff_ne.mpr c35
       obtain rfl:=Option.some.inj H
       go_wp2
       go_ret
       exact ⟨by first|rfl|(simp [errW_none,errW_some] <;> rfl)|(simp [*,errW_none,errW_some] <;> rfl),by repeat (first|(with_reducible first|exact HB.out|apply below_alloc|apply pw_below_drewN|apply below_drew1|refine below_set ?_ GE196.out)|exact HB.out)⟩
  case rest =>
   clear HC5
   try clear c3
   try clear c3b0
   try clear c8
   try clear c8b0
   try clear c8b1
   try clear c9
   try clear c9b0
   try clear c9b1
   try clear c11
   try clear c12
   try clear c12b0
   try clear c12b1
   try clear c17
   try clear c17b0
   try clear c17b1
   try clear c19
   try clear c20
   try clear c20b0
   try clear c20b1
   try clear c21
   try clear c21b0
   try clear c21b1
   try clear c26
   try clear c26b0
   try clear c26b1
   try clear c27
   try clear c27b0
   try clear c27b1
   try clear c29
   try clear c30
   try clear c30b0
   try clear c30b1
   try clear c35
   try clear c35b0
   try clear c35b1
   try clear c37
   try clear c38
   try clear c38b0
   try clear c38b1
   try clear c40
   try clear hcz13_0
   try clear hcz13_1
   try clear hcz13_2
   try clear hcz13_3
   try clear hcz14_0
   try clear hcz14_1
   try clear hcz14_2
   try clear hcz14_3
   try clear hcz15_0
   try clear hcz15_1
   try clear hcz15_2
   try clear hcz15_3
   try clear hcz16_0
   try clear hcz16_1
   try clear hcz16_2
   try clear hcz16_3
   try clear hcz22_0
   try clear hcz22_1
   try clear hcz22_2
   try clear hcz22_3
   try clear hcz23_0
   try clear hcz23_1
   try clear hcz23_2
   try clear hcz23_3
   try clear hcz24_0
   try clear hcz24_1
   try clear hcz24_2
   try clear hcz24_3
   try clear hcz25_0
   try clear hcz25_1
   try clear hcz25_2
   try clear hcz25_3
   try clear hcz31_0
   try clear hcz31_1
   try clear hcz31_2
   try clear hcz31_3
   try clear hcz32_0
   try clear hcz32_1
   try clear hcz32_2
   try clear hcz32_3
   try clear hcz33_0
   try clear hcz33_1
   try clear hcz33_2
   try clear hcz33_3
   try clear hcz34_0
   try clear hcz34_1
   try clear hcz34_2
   try clear hcz34_3
   try clear hcz41_0
   try clear hcz41_1
   try clear hcz41_2
   try clear hcz41_3
   try clear hcz42_0
   try clear hcz42_1
   try clear hcz42_2
   try clear hcz42_3
   try clear hcz43_0
   try clear hcz43_1
   try clear hcz43_2
   try clear hcz43_3
   try clear hcz44_0
   try clear hcz44_1
   try clear hcz44_2
   try clear hcz44_3
   try clear hcz7_0
   try clear hcz7_1
   try clear hcz7_2
   try clear hcz7_3
   try clear hfz13_0
   try clear hfz13_1
   try clear hfz13_2
   try clear hfz13_3
   try clear hfz14_0
   try clear hfz14_1
   try clear hfz14_2
   try clear hfz14_3
   try clear hfz15_0
   try clear hfz15_1
   try clear hfz15_2
   try clear hfz15_3
   try clear hfz16_0
   try clear hfz16_1
   try clear hfz16_2
   try clear hfz16_3
   try clear hfz22_0
   try clear hfz22_1
   try clear hfz22_2
   try clear hfz22_3
   try clear hfz23_0
   try clear hfz23_1
   try clear hfz23_2
   try clear hfz23_3
   try clear hfz24_0
   try clear hfz24_1
   try clear hfz24_2
   try clear hfz24_3
   try clear hfz25_0
   try clear hfz25_1
   try clear hfz25_2
   try clear hfz25_3
   try clear hfz31_0
   try clear hfz31_1
   try clear hfz31_2
   try clear hfz31_3
   try clear hfz32_0
   try clear hfz32_1
   try clear hfz32_2
   try clear hfz32_3
   try clear hfz33_0
   try clear hfz33_1
   try clear hfz33_2
   try clear hfz33_3
   try clear hfz34_0
   try clear hfz34_1
   try clear hfz34_2
   try clear hfz34_3
   try clear hfz41_0
   try clear hfz41_1
   try clear hfz41_2
   try clear hfz41_3
   try clear hfz42_0
   try clear hfz42_1
   try clear hfz42_2
   try clear hfz42_3
   try clear hfz43_0
   try clear hfz43_1
   try clear hfz43_2
   try clear hfz43_3
   try clear hfz44_0
   try clear hfz44_1
   try clear hfz44_2
   try clear hfz44_3
   try clear hfz7_0
   try clear hfz7_1
   try clear hfz7_2
   try clear hfz7_3
   try clear BK196
   obtain ⟨kq,HA,HJ4,BK196,HB⟩:=hcut
   cases kq with
   | zero => exact absurd HA.out (by simp [impl_sized.j0])
   | succ kj4 =>
    have H:=HA.out
    clear HA
    simp only [impl_sized.j0] at H
    have H':=asd H
    clear H
    have hcz45_0 : wc.cell? ⟨gb196,0,none⟩ = some (.int .i64 a0_0):=(blk_cell BK196.out 0).trans rfl
    have hcz45_1 : wc.cell? ⟨gb196,1,none⟩ = some (.string a0_1):=(blk_cell BK196.out 1).trans rfl
    have hcz45_2 : wc.cell? ⟨gb196,2,none⟩ = some (.int .i64 a0_2):=(blk_cell BK196.out 2).trans rfl
    have hcz45_3 : wc.cell? ⟨gb196,3,none⟩ = some (.slice A0_3 l0_3.length c0_3):=(blk_cell BK196.out 3).trans rfl
    have hfz45_0:=blk_frozen BK196.out 0
    have hfz45_1:=blk_frozen BK196.out 1
    have hfz45_2:=blk_frozen BK196.out 2
    have hfz45_3:=blk_frozen BK196.out 3
    go_wp2
    go_loopg [5,84] kj4 (fun kq v5 v84 w' => ∃ (x5_2 : Int) (x84_2 : Int),v5 = .int .i64 x5_2 ∧ v84 = .int .i64 x84_2 ∧ Aside0 (impl_sized.l0 kq a1 x5_2 l0_3 (l0_3.length : Int) x84_2 = some r) ∧ Aside0 (kq ≤ kj4) ∧ Aside0 (w'.heap[gb196]? = some (.cells #[.int .i64 a0_0,.string a0_1,.int .i64 a0_2,(.slice A0_3 l0_3.length c0_3)] 29 (0,0))) ∧ Aside0 (Below w.heap.size w w'))
    case atStart => exact ⟨(1),(0),(by first|rfl|(simp;done)|(simp [*];done)),(by first|rfl|(simp;done)|(simp [*];done)),H',⟨Nat.le_refl _⟩,⟨by (with_reducible repeat (first|refine blk_drewN ?_ _|refine blk_drew ?_|refine blk_alloc ?_ _));exact BK196.out⟩,⟨by repeat (first|(with_reducible first|exact HB.out|apply below_alloc|apply pw_below_drewN|apply below_drew1|refine below_set ?_ GE196.out)|exact HB.out)⟩⟩
    case round =>
     clear H'
     try clear c3
     try clear c3b0
     try clear c8
     try clear c8b0
     try clear c8b1
     try clear c9
     try clear c9b0
     try clear c9b1
     try clear c11
     try clear c12
     try clear c12b0
     try clear c12b1
     try clear c17
     try clear c17b0
     try clear c17b1
     try clear c19
     try clear c20
     try clear c20b0
     try clear c20b1
     try clear c21
     try clear c21b0
     try clear c21b1
     try clear c26
     try clear c26b0
     try clear c26b1
     try clear c27
     try clear c27b0
     try clear c27b1
     try clear c29
     try clear c30
     try clear c30b0
     try clear c30b1
     try clear c35
     try clear c35b0
     try clear c35b1
     try clear c37
     try clear c38
     try clear c38b0
     try clear c38b1
     try clear c40
     try clear hcz13_0
     try clear hcz13_1
     try clear hcz13_2
     try clear hcz13_3
     try clear hcz14_0
     try clear hcz14_1
     try clear hcz14_2
     try clear hcz14_3
     try clear hcz15_0
     try clear hcz15_1
     try clear hcz15_2
     try clear hcz15_3
     try clear hcz16_0
     try clear hcz16_1
     try clear hcz16_2
     try clear hcz16_3
     try clear hcz22_0
     try clear hcz22_1
     try clear hcz22_2
     try clear hcz22_3
     try clear hcz23_0
     try clear hcz23_1
     try clear hcz23_2
     try clear hcz23_3
     try clear hcz24_0
     try clear hcz24_1
     try clear hcz24_2
     try clear hcz24_3
     try clear hcz25_0
     try clear hcz25_1
     try clear hcz25_2
     try clear hcz25_3
     try clear hcz31_0
     try clear hcz31_1
     try clear hcz31_2
     try clear hcz31_3
     try clear hcz32_0
     try clear hcz32_1
     try clear hcz32_2
     try clear hcz32_3
     try clear hcz33_0
     try clear hcz33_1
     try clear hcz33_2
     try clear hcz33_3
     try clear hcz34_0
     try clear hcz34_1
     try clear hcz34_2
     try clear hcz34_3
     try clear hcz41_0
     try clear hcz41_1
     try clear hcz41_2
     try clear hcz41_3
     try clear hcz42_0
     try clear hcz42_1
     try clear hcz42_2
     try clear hcz42_3
     try clear hcz43_0
     try clear hcz43_1
     try clear hcz43_2
     try clear hcz43_3
     try clear hcz44_0
     try clear hcz44_1
     try clear hcz44_2
     try clear hcz44_3
     try clear hcz45_0
     try clear hcz45_1
     try clear hcz45_2
     try clear hcz45_3
     try clear hcz7_0
     try clear hcz7_1
     try clear hcz7_2
     try clear hcz7_3
     try clear hfz13_0
     try clear hfz13_1
     try clear hfz13_2
     try clear hfz13_3
     try clear hfz14_0
     try clear hfz14_1
     try clear hfz14_2
     try clear hfz14_3
     try clear hfz15_0
     try clear hfz15_1
     try clear hfz15_2
     try clear hfz15_3
     try clear hfz16_0
     try clear hfz16_1
     try clear hfz16_2
     try clear hfz16_3
     try clear hfz22_0
     try clear hfz22_1
     try clear hfz22_2
     try clear hfz22_3
     try clear hfz23_0
     try clear hfz23_1
     try clear hfz23_2
     try clear hfz23_3
     try clear hfz24_0
     try clear hfz24_1
     try clear hfz24_2
     try clear hfz24_3
     try clear hfz25_0
     try clear hfz25_1
     try clear hfz25_2
     try clear hfz25_3
     try clear hfz31_0
     try clear hfz31_1
     try clear hfz31_2
     try clear hfz31_3
     try clear hfz32_0
     try clear hfz32_1
     try clear hfz32_2
     try clear hfz32_3
     try clear hfz33_0
     try clear hfz33_1
     try clear hfz33_2
     try clear hfz33_3
     try clear hfz34_0
     try clear hfz34_1
     try clear hfz34_2
     try clear hfz34_3
     try clear hfz41_0
     try clear hfz41_1
     try clear hfz41_2
     try clear hfz41_3
     try clear hfz42_0
     try clear hfz42_1
     try clear hfz42_2
     try clear hfz42_3
     try clear hfz43_0
     try clear hfz43_1
     try clear hfz43_2
     try clear hfz43_3
     try clear hfz44_0
     try clear hfz44_1
     try clear hfz44_2
     try clear hfz44_3
     try clear hfz45_0
     try clear hfz45_1
     try clear hfz45_2
     try clear hfz45_3
     try clear hfz7_0
     try clear hfz7_1
     try clear hfz7_2
     try clear hfz7_3
     try clear BK196
     obtain ⟨x5_2,x84_2,rfl,rfl,HA,HK2,BK196,HB⟩:=hrel
     cases gk with
     | zero => exact absurd HA.out (by simp [impl_sized.l0])
     | succ k2 =>
      have H:=HA.out
      clear HA
      simp only [impl_sized.l0] at H
      by_cases c46 : x84_2 < (l0_3.length : Int)
      ·rw [if_pos c46] at H
       have c46b0 : decide (x84_2 < (l0_3.length : Int)) = true:=decide_eq_true c46
       clear c46
       by_cases c47 : 0 ≤ x84_2
       rotate_left
       ·rw [if_neg c47] at H
        exact absurd H (by simp)
       rw [if_pos c47] at H
       have c47b0 : decide (0 ≤ x84_2) = true:=decide_eq_true c47
       clear c47
       by_cases c48 : x84_2 < (l0_3.length : Int)
       rotate_left
       ·rw [if_neg c48] at H
        exact absurd H (by simp)
       rw [if_pos c48] at H
       have c48b0 : decide (x84_2 < (l0_3.length : Int)) = true:=decide_eq_true c48
       clear c48
       replace H:=Option.bind_eq_some_iff.mp H
       obtain ⟨t204,A490,H⟩:=H
       replace H : (if (wrap64 (x5_2 + t204)) > 400 then (some 401) else (impl_sized.l0 k2 a1 (wrap64 (x5_2 + t204)) l0_3 (l0_3.length : Int) (wrap64 (x84_2 + 1)))) = some r:=H
       have A49:=asd A490
       clear A490
       by_cases c50 : (wrap64 (x5_2 + t204)) > 400
       ·rw [if_pos c50] at H
        have c50b0 : decide (400 < (wrap64 (x5_2 + t204))) = true:=decide_eq_true c50
        clear c50
        obtain rfl:=Option.some.inj H
        have p202 : 0 ≤ (x84_2 : Int):=of_decide_eq_true (by first|(with_reducible assumption)|assumption)
        have q202 : x84_2 < (l0_3.length : Int):=of_decide_eq_true (by first|(with_reducible assumption)|assumption)
        obtain ⟨ad202,A202_3,c202_3,e202,hx202_0,hx202_1,hx202_2,hx202_3,hl202_3,hi202_3⟩:=at_T29 HR0_3.out x84_2 p202 q202
        cases e202
        replace hx202_0:=(HB.out.cell (World.block_lt_of_cell? w _ hx202_0)).trans hx202_0
        replace hx202_1:=(HB.out.cell (World.block_lt_of_cell? w _ hx202_1)).trans hx202_1
        replace hx202_2:=(HB.out.cell (World.block_lt_of_cell? w _ hx202_2)).trans hx202_2
        replace hx202_3:=(HB.out.cell (World.block_lt_of_cell? w _ hx202_3)).trans hx202_3
        have HR202_3:=asd hi202_3
        have HC202_3:=asd hl202_3
        clear hi202_3 hl202_3
        replace p202:=eq_true p202
        replace q202:=eq_true q202
        go_wp2_with (first|((with_reducible refine gate_dst (N:=7) rfl ?_);(try (refine gate_guard (by rfl) ?_;dsimp only));refine box_event ?hg (N:=7) ?hd (cs:=#[.int .i64 0,.string (⟨#[]⟩ : ByteArray),.int .i64 0,.slice none 0 0]) (t:=29) ?hr ?_;(case hd => rfl);(case hg => rfl);(case hr => first|(go_simp;done)|(go_simp;rfl));intro gb203 hg w51 hbox hb;have n0_:=asd (blk_below (g:=gb196) (o:=.cells #[.int .i64 a0_0,.string a0_1,.int .i64 a0_2,.slice (some ad202) l0_3.length c0_3] 29 (0,0)) (by (with_reducible repeat (first|refine blk_drewN ?_ _|refine blk_drew ?_|refine blk_alloc ?_ _));exact BK196.out) hb);have n1_:=asd (below_step (by repeat (first|(with_reducible first|exact HB.out|apply below_alloc|apply pw_below_drewN|apply below_drew1|refine below_set ?_ GE196.out)|exact HB.out)) hb);have n2_:=asd (hbox);have n3_:=asd ((by rw [hg];exact (below_size (by repeat (first|(with_reducible first|exact HB.out|apply below_alloc|apply pw_below_drewN|apply below_drew1|refine below_set ?_ GE196.out)|exact HB.out))) : w.heap.size ≤ gb203));have n4_:=asd ((by rw [hg];exact (below_size (by repeat (first|(with_reducible first|exact HB.out|apply below_alloc|apply pw_below_drewN|apply below_drew1|refine below_set ?_ GE196.out)|exact HB.out))) : w.heap.size ≤ gb203));have n5_:=asd ((by rw [hg];exact Nat.ne_of_lt (blk_lt (g:=gb196) (o:=.cells #[.int .i64 a0_0,.string a0_1,.int .i64 a0_2,.slice (some ad202) l0_3.length c0_3] 29 (0,0)) (by (with_reducible repeat (first|refine blk_drewN ?_ _|refine blk_drew ?_|refine blk_alloc ?_ _));exact BK196.out)) : gb196 ≠ gb203));have n6_:=asd ((by rw [hg];exact Nat.ne_of_gt (blk_lt (g:=gb196) (o:=.cells #[.int .i64 a0_0,.string a0_1,.int .i64 a0_2,.slice (some ad202) l0_3.length c0_3] 29 (0,0)) (by (with_reducible repeat (first|refine blk_drewN ?_ _|refine blk_drew ?_|refine blk_alloc ?_ _));exact BK196.out)) : gb203 ≠ gb196));clear BK196;clear HB;have BK196:=n0_;have HB:=n1_;have BK203:=n2_;have GW203:=n3_;have GE203:=n4_;have NB196_203:=n5_;have NB203_196:=n6_;clear n0_ n1_ n2_ n3_ n4_ n5_ n6_;clear hb hbox hg;have hnb52:=NB203_196.out;have hnc52:=NB196_203.out;have hcz53_0 : w51.cell? ⟨gb203,0,none⟩ = some (.int .i64 0):=(blk_cell BK203.out 0).trans rfl;have hcz53_1 : w51.cell? ⟨gb203,1,none⟩ = some (.string (⟨#[]⟩ : ByteArray)):=(blk_cell BK203.out 1).trans rfl;have hcz53_2 : w51.cell? ⟨gb203,2,none⟩ = some (.int .i64 0):=(blk_cell BK203.out 2).trans rfl;have hcz53_3 : w51.cell? ⟨gb203,3,none⟩ = some (.slice none 0 0):=(blk_cell BK203.out 3).trans rfl;have hfz53_0:=blk_frozen BK203.out 0;have hfz53_1:=blk_frozen BK203.out 1;have hfz53_2:=blk_frozen BK203.out 2;have hfz53_3:=blk_frozen BK203.out 3)|((with_reducible refine gate_callee (f:=88) rfl ?_);refine goesL_ (some 92) rfl rfl Tryd.func88 (by kernel_rfl) rfl #[.agg #[.int .i64 ((rd_T29 l0_3 x84_2).f0),.string ((rd_T29 l0_3 x84_2).f1),.int .i64 ((rd_T29 l0_3 x84_2).f2),.slice A202_3 ((rd_T29 l0_3 x84_2).f3).length c202_3],.int .i64 (wrap64 (a1 + 1))] rfl (by (try simp only [List.map_toArray,List.map_cons,List.map_nil]);first|done|rfl|(simp only [List.length_drop,List.length_take];rfl)) ?_;(with_reducible refine (ih k2 (by have:=HJ4.out;have:=HK2.out;omega) ((rd_T29 l0_3 x84_2).f0) ((rd_T29 l0_3 x84_2).f1) ((rd_T29 l0_3 x84_2).f2) _ _ ((rd_T29 l0_3 x84_2).f3) (wrap64 (a1 + 1)) t204 _ ?side1 ?side2 A49.out).mono ?_);(case side1 => exact Kd.C_below HR202_3.out (by repeat (first|(with_reducible first|exact HB.out|apply below_alloc|apply pw_below_drewN|apply below_drew1|refine below_set ?_ GE196.out|refine below_set ?_ GE203.out)|exact HB.out)));(case side2 => exact HC202_3.out);rintro e w54 ⟨rfl,hb⟩;refine ⟨_,rfl,?_⟩;have n0_:=asd (blk_below (g:=gb196) (o:=.cells #[.int .i64 a0_0,.string a0_1,.int .i64 a0_2,.slice (some ad202) l0_3.length c0_3] 29 (0,0)) (by (with_reducible repeat (first|refine blk_drewN ?_ _|refine blk_drew ?_|refine blk_alloc ?_ _));refine blk_far ?_ NB196_203.out _;(with_reducible repeat (first|refine blk_drewN ?_ _|refine blk_drew ?_|refine blk_alloc ?_ _));refine blk_far ?_ NB196_203.out _;(with_reducible repeat (first|refine blk_drewN ?_ _|refine blk_drew ?_|refine blk_alloc ?_ _));refine blk_far ?_ NB196_203.out _;(with_reducible repeat (first|refine blk_drewN ?_ _|refine blk_drew ?_|refine blk_alloc ?_ _));refine blk_far ?_ NB196_203.out _;(with_reducible repeat (first|refine blk_drewN ?_ _|refine blk_drew ?_|refine blk_alloc ?_ _));exact BK196.out) hb);have n1_:=asd (blk_below (g:=gb203) (o:=.cells #[.int .i64 ((rd_T29 l0_3 x84_2).f0),.string ((rd_T29 l0_3 x84_2).f1),.int .i64 ((rd_T29 l0_3 x84_2).f2),.slice A202_3 ((rd_T29 l0_3 x84_2).f3).length c202_3] 29 (0,0)) (by (with_reducible repeat (first|refine blk_drewN ?_ _|refine blk_drew ?_|refine blk_alloc ?_ _));refine blk_put (cs:=#[.int .i64 ((rd_T29 l0_3 x84_2).f0),.string ((rd_T29 l0_3 x84_2).f1),.int .i64 ((rd_T29 l0_3 x84_2).f2),.slice none 0 0]) ?_ 3 _ rfl;(with_reducible repeat (first|refine blk_drewN ?_ _|refine blk_drew ?_|refine blk_alloc ?_ _));refine blk_put (cs:=#[.int .i64 ((rd_T29 l0_3 x84_2).f0),.string ((rd_T29 l0_3 x84_2).f1),.int .i64 0,.slice none 0 0]) ?_ 2 _ rfl;(with_reducible repeat (first|refine blk_drewN ?_ _|refine blk_drew ?_|refine blk_alloc ?_ _));refine blk_put (cs:=#[.int .i64 ((rd_T29 l0_3 x84_2).f0),.string (⟨#[]⟩ : ByteArray),.int .i64 0,.slice none 0 0]) ?_ 1 _ rfl;(with_reducible repeat (first|refine blk_drewN ?_ _|refine blk_drew ?_|refine blk_alloc ?_ _));refine blk_put (cs:=#[.int .i64 0,.string (⟨#[]⟩ : ByteArray),.int .i64 0,.slice none 0 0]) ?_ 0 _ rfl;(with_reducible repeat (first|refine blk_drewN ?_ _|refine blk_drew ?_|refine blk_alloc ?_ _));exact BK203.out) hb);have n2_:=asd (below_step (by repeat (first|(with_reducible first|exact HB.out|apply below_alloc|apply pw_below_drewN|apply below_drew1|refine below_set ?_ GE196.out|refine below_set ?_ GE203.out)|exact HB.out)) hb);clear BK196;clear BK203;clear HB;have BK196:=n0_;have BK203:=n1_;have HB:=n2_;clear n0_ n1_ n2_;(try clear hb)))
        go_ret
        exact ⟨by first|rfl|(simp [errW_none,errW_some] <;> rfl)|(simp [*,errW_none,errW_some] <;> rfl),by repeat (first|(with_reducible first|exact HB.out|apply below_alloc|apply pw_below_drewN|apply below_drew1|refine below_set ?_ GE196.out|refine below_set ?_ GE203.out)|exact HB.out)⟩
       ·rw [if_neg c50] at H
        have c50b0 : decide (400 < (wrap64 (x5_2 + t204))) = false:=decide_eq_false c50
        clear c50
        have H':=asd H
        clear H
        have p202 : 0 ≤ (x84_2 : Int):=of_decide_eq_true (by first|(with_reducible assumption)|assumption)
        have q202 : x84_2 < (l0_3.length : Int):=of_decide_eq_true (by first|(with_reducible assumption)|assumption)
        obtain ⟨ad202,A202_3,c202_3,e202,hx202_0,hx202_1,hx202_2,hx202_3,hl202_3,hi202_3⟩:=at_T29 HR0_3.out x84_2 p202 q202
        cases e202
        replace hx202_0:=(HB.out.cell (World.block_lt_of_cell? w _ hx202_0)).trans hx202_0
        replace hx202_1:=(HB.out.cell (World.block_lt_of_cell? w _ hx202_1)).trans hx202_1
        replace hx202_2:=(HB.out.cell (World.block_lt_of_cell? w _ hx202_2)).trans hx202_2
        replace hx202_3:=(HB.out.cell (World.block_lt_of_cell? w _ hx202_3)).trans hx202_3
        have HR202_3:=asd hi202_3
        have HC202_3:=asd hl202_3
        clear hi202_3 hl202_3
        replace p202:=eq_true p202
        replace q202:=eq_true q202
        go_wp2_with (first|((with_reducible refine gate_dst (N:=7) rfl ?_);(try (refine gate_guard (by rfl) ?_;dsimp only));refine box_event ?hg (N:=7) ?hd (cs:=#[.int .i64 0,.string (⟨#[]⟩ : ByteArray),.int .i64 0,.slice none 0 0]) (t:=29) ?hr ?_;(case hd => rfl);(case hg => rfl);(case hr => first|(go_simp;done)|(go_simp;rfl));intro gb203 hg w55 hbox hb;have n0_:=asd (blk_below (g:=gb196) (o:=.cells #[.int .i64 a0_0,.string a0_1,.int .i64 a0_2,.slice (some ad202) l0_3.length c0_3] 29 (0,0)) (by (with_reducible repeat (first|refine blk_drewN ?_ _|refine blk_drew ?_|refine blk_alloc ?_ _));exact BK196.out) hb);have n1_:=asd (below_step (by repeat (first|(with_reducible first|exact HB.out|apply below_alloc|apply pw_below_drewN|apply below_drew1|refine below_set ?_ GE196.out)|exact HB.out)) hb);have n2_:=asd (hbox);have n3_:=asd ((by rw [hg];exact (below_size (by repeat (first|(with_reducible first|exact HB.out|apply below_alloc|apply pw_below_drewN|apply below_drew1|refine below_set ?_ GE196.out)|exact HB.out))) : w.heap.size ≤ gb203));have n4_:=asd ((by rw [hg];exact (below_size (by repeat (first|(with_reducible first|exact HB.out|apply below_alloc|apply pw_below_drewN|apply below_drew1|refine below_set ?_ GE196.out)|exact HB.out))) : w.heap.size ≤ gb203));have n5_:=asd ((by rw [hg];exact Nat.ne_of_lt (blk_lt (g:=gb196) (o:=.cells #[.int .i64 a0_0,.string a0_1,.int .i64 a0_2,.slice (some ad202) l0_3.length c0_3] 29 (0,0)) (by (with_reducible repeat (first|refine blk_drewN ?_ _|refine blk_drew ?_|refine blk_alloc ?_ _));exact BK196.out)) : gb196 ≠ gb203));have n6_:=asd ((by rw [hg];exact Nat.ne_of_gt (blk_lt (g:=gb196) (o:=.cells #[.int .i64 a0_0,.string a0_1,.int .i64 a0_2,.slice (some ad202) l0_3.length c0_3] 29 (0,0)) (by (with_reducible repeat (first|refine blk_drewN ?_ _|refine blk_drew ?_|refine blk_alloc ?_ _));exact BK196.out)) : gb203 ≠ gb196));clear BK196;clear HB;have BK196:=n0_;have HB:=n1_;have BK203:=n2_;have GW203:=n3_;have GE203:=n4_;have NB196_203:=n5_;have NB203_196:=n6_;clear n0_ n1_ n2_ n3_ n4_ n5_ n6_;clear hb hbox hg;have hnb56:=NB203_196.out;have hnc56:=NB196_203.out;have hcz57_0 : w55.cell? ⟨gb203,0,none⟩ = some (.int .i64 0):=(blk_cell BK203.out 0).trans rfl;have hcz57_1 : w55.cell? ⟨gb203,1,none⟩ = some (.string (⟨#[]⟩ : ByteArray)):=(blk_cell BK203.out 1).trans rfl;have hcz57_2 : w55.cell? ⟨gb203,2,none⟩ = some (.int .i64 0):=(blk_cell BK203.out 2).trans rfl;have hcz57_3 : w55.cell? ⟨gb203,3,none⟩ = some (.slice none 0 0):=(blk_cell BK203.out 3).trans rfl;have hfz57_0:=blk_frozen BK203.out 0;have hfz57_1:=blk_frozen BK203.out 1;have hfz57_2:=blk_frozen BK203.out 2;have hfz57_3:=blk_frozen BK203.out 3)|((with_reducible refine gate_callee (f:=88) rfl ?_);refine goesL_ (some 92) rfl rfl Tryd.func88 (by kernel_rfl) rfl #[.agg #[.int .i64 ((rd_T29 l0_3 x84_2).f0),.string ((rd_T29 l0_3 x84_2).f1),.int .i64 ((rd_T29 l0_3 x84_2).f2),.slice A202_3 ((rd_T29 l0_3 x84_2).f3).length c202_3],.int .i64 (wrap64 (a1 + 1))] rfl (by (try simp only [List.map_toArray,List.map_cons,List.map_nil]);first|done|rfl|(simp only [List.length_drop,List.length_take];rfl)) ?_;(with_reducible refine (ih k2 (by have:=HJ4.out;have:=HK2.out;omega) ((rd_T29 l0_3 x84_2).f0) ((rd_T29 l0_3 x84_2).f1) ((rd_T29 l0_3 x84_2).f2) _ _ ((rd_T29 l0_3 x84_2).f3) (wrap64 (a1 + 1)) t204 _ ?side1 ?side2 A49.out).mono ?_);(case side1 => exact Kd.C_below HR202_3.out (by repeat (first|(with_reducible first|exact HB.out|apply below_alloc|apply pw_below_drewN|apply below_drew1|refine below_set ?_ GE196.out|refine below_set ?_ GE203.out)|exact HB.out)));(case side2 => exact HC202_3.out);rintro e w58 ⟨rfl,hb⟩;refine ⟨_,rfl,?_⟩;have n0_:=asd (blk_below (g:=gb196) (o:=.cells #[.int .i64 a0_0,.string a0_1,.int .i64 a0_2,.slice (some ad202) l0_3.length c0_3] 29 (0,0)) (by (with_reducible repeat (first|refine blk_drewN ?_ _|refine blk_drew ?_|refine blk_alloc ?_ _));refine blk_far ?_ NB196_203.out _;(with_reducible repeat (first|refine blk_drewN ?_ _|refine blk_drew ?_|refine blk_alloc ?_ _));refine blk_far ?_ NB196_203.out _;(with_reducible repeat (first|refine blk_drewN ?_ _|refine blk_drew ?_|refine blk_alloc ?_ _));refine blk_far ?_ NB196_203.out _;(with_reducible repeat (first|refine blk_drewN ?_ _|refine blk_drew ?_|refine blk_alloc ?_ _));refine blk_far ?_ NB196_203.out _;(with_reducible repeat (first|refine blk_drewN ?_ _|refine blk_drew ?_|refine blk_alloc ?_ _));exact BK196.out) hb);have n1_:=asd (blk_below (g:=gb203) (o:=.cells #[.int .i64 ((rd_T29 l0_3 x84_2).f0),.string ((rd_T29 l0_3 x84_2).f1),.int .i64 ((rd_T29 l0_3 x84_2).f2),.slice A202_3 ((rd_T29 l0_3 x84_2).f3).length c202_3] 29 (0,0)) (by (with_reducible repeat (first|refine blk_drewN ?_ _|refine blk_drew ?_|refine blk_alloc ?_ _));refine blk_put (cs:=#[.int .i64 ((rd_T29 l0_3 x84_2).f0),.string ((rd_T29 l0_3 x84_2).f1),.int .i64 ((rd_T29 l0_3 x84_2).f2),.slice none 0 0]) ?_ 3 _ rfl;(with_reducible repeat (first|refine blk_drewN ?_ _|refine blk_drew ?_|refine blk_alloc ?_ _));refine blk_put (cs:=#[.int .i64 ((rd_T29 l0_3 x84_2).f0),.string ((rd_T29 l0_3 x84_2).f1),.int .i64 0,.slice none 0 0]) ?_ 2 _ rfl;(with_reducible repeat (first|refine blk_drewN ?_ _|refine blk_drew ?_|refine blk_alloc ?_ _));refine blk_put (cs:=#[.int .i64 ((rd_T29 l0_3 x84_2).f0),.string (⟨#[]⟩ : ByteArray),.int .i64 0,.slice none 0 0]) ?_ 1 _ rfl;(with_reducible repeat (first|refine blk_drewN ?_ _|refine blk_drew ?_|refine blk_alloc ?_ _));refine blk_put (cs:=#[.int .i64 0,.string (⟨#[]⟩ : ByteArray),.int .i64 0,.slice none 0 0]) ?_ 0 _ rfl;(with_reducible repeat (first|refine blk_drewN ?_ _|refine blk_drew ?_|refine blk_alloc ?_ _));exact BK203.out) hb);have n2_:=asd (below_step (by repeat (first|(with_reducible first|exact HB.out|apply below_alloc|apply pw_below_drewN|apply below_drew1|refine below_set ?_ GE196.out|refine below_set ?_ GE203.out)|exact HB.out)) hb);clear BK196;clear BK203;clear HB;have BK196:=n0_;have BK203:=n1_;have HB:=n2_;clear n0_ n1_ n2_;(try clear hb)))
        go_roundg k2
        case measure => have:=HJ4.out;have:=HK2.out;omega
        case rel => exact ⟨(wrap64 (x5_2 + t204)),(wrap64 (x84_2 + 1)),(by first|rfl|(simp;done)|(simp [*];done)),(by first|rfl|(simp;done)|(simp [*];done)),H',⟨by have:=HJ4.out;have:=HK2.out;omega⟩,⟨by (with_reducible repeat (first|refine blk_drewN ?_ _|refine blk_drew ?_|refine blk_alloc ?_ _));exact BK196.out⟩,⟨by repeat (first|(with_reducible first|exact HB.out|apply below_alloc|apply pw_below_drewN|apply below_drew1|refine below_set ?_ GE196.out|refine below_set ?_ GE203.out)|exact HB.out)⟩⟩
      ·rw [if_neg c46] at H
       have c46b0 : decide (x84_2 < (l0_3.length : Int)) = false:=decide_eq_false c46
       clear c46
       obtain rfl:=Option.some.inj H
       go_wp2
       go_ret
       exact ⟨by first|rfl|(simp [errW_none,errW_some] <;> rfl)|(simp [*,errW_none,errW_some] <;> rfl),by repeat (first|(with_reducible first|exact HB.out|apply below_alloc|apply pw_below_drewN|apply below_drew1|refine below_set ?_ GE196.out)|exact HB.out)⟩
end Go.Proofs.YtojedbogbodkiaaDoor.KGr
