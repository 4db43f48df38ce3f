/- Contracts of functions of the program and of the reference, each a Lean function and the proof that Go comes to its answer. Written by wip/pp/pp.py out of the kit's print, for this claim; nothing of it is trusted: Lean checks it. -/
import Derived.Test.YtbkibnjpolnajaaKSnx0
import Derived.Test.YtbkibnjpolnajaaKSnx2
namespace Go.Proofs.Ytbkibnjpolnajaa.KSn
open Go.RowKit Go.Proofs.YtbkibnjpolnajaaW.PrintWords Go.Proofs.YtbkibnjpolnajaaW.PrintLast Go.Proofs.YtbkibnjpolnajaaW.PrintMore
attribute [local go_sem] max2_int min2_int max_two min_two max_three min_three max_four min_four   -- for this text's walks alone
set_option linter.unusedVariables false
set_option linter.unusedSimpArgs false

set_option linter.unusedSectionVars false
variable [fk_impl_run] [fk_strings_IndexByte] [fk_spec_SymbolByte]
/-! ### spec_l05End: function 69 -/
def spec_l05End.f (k : Nat) (a0 : ByteArray) (a1 : Int) : Option (Bool):=if 0 ≤ a1 then (if a1 < (a0.size : Int) then (if (bt a0 a1) = 46 then (if a1 = 0 then (if (wrap64 (a1 + 1)) = (a0.size : Int) then (some true) else (if 0 ≤ (wrap64 (a1 + 1)) then (if (wrap64 (a1 + 1)) < (a0.size : Int) then ((spec_l05Blank.f (bt a0 (wrap64 (a1 + 1)))).bind fun t108 => (if t108 = true then (some true) else (some ((bt a0 (wrap64 (a1 + 1))) == 37)))) else (none)) else (none))) else (if 0 ≤ (wrap64 (a1 - 1)) then (if (wrap64 (a1 - 1)) < (a0.size : Int) then ((fk_spec_SymbolByte.f k (bt a0 (wrap64 (a1 - 1)))).bind fun t109 => (if t109 = true then (some false) else (if (wrap64 (a1 + 1)) = (a0.size : Int) then (some true) else (if 0 ≤ (wrap64 (a1 + 1)) then (if (wrap64 (a1 + 1)) < (a0.size : Int) then ((spec_l05Blank.f (bt a0 (wrap64 (a1 + 1)))).bind fun t110 => (if t110 = true then (some true) else (some ((bt a0 (wrap64 (a1 + 1))) == 37)))) else (none)) else (none))))) else (none)) else (none))) else (some false)) else (none)) else (none)
theorem spec_l05End.mono : ∀ a0 a1 k,LeO (spec_l05End.f k a0 a1) (spec_l05End.f (k + 1) a0 a1):=by
 intro a0 a1 k
 unfold spec_l05End.f
 repeat' first
   | (with_reducible exact fk_spec_SymbolByte.mono _ _)
   | (with_reducible exact LeO.refl _)
   | (with_reducible exact LeO.none _)
   | (with_reducible refine LeO.ite ?_ ?_)
   | (with_reducible refine LeO.bind ?_ (fun _ => ?_))
   | exact fk_spec_SymbolByte.mono _ _
   | exact LeO.none _
   | refine LeO.ite ?_ ?_
   | refine LeO.bind ?_ (fun _ => ?_)
set_option maxHeartbeats 8000000 in
set_option maxRecDepth 100000 in
theorem spec_l05End.calls (k : Nat) (a0 : ByteArray) (a1 : Int) (r : Bool) (w : World) (h : spec_l05End.f k a0 a1 = some r) :
  Calls Try.prog 69 #[.string a0,.int .i64 a1] w fun e w' => e = .returned (.bool r) ∧ Below w.heap.size w w':=by
 have HB:=Aside0.mk (Below.refl w.heap.size w)
 have H : (if 0 ≤ a1 then (if a1 < (a0.size : Int) then (if (bt a0 a1) = 46 then (if a1 = 0 then (if (wrap64 (a1 + 1)) = (a0.size : Int) then (some true) else (if 0 ≤ (wrap64 (a1 + 1)) then (if (wrap64 (a1 + 1)) < (a0.size : Int) then ((spec_l05Blank.f (bt a0 (wrap64 (a1 + 1)))).bind fun t108 => (if t108 = true then (some true) else (some ((bt a0 (wrap64 (a1 + 1))) == 37)))) else (none)) else (none))) else (if 0 ≤ (wrap64 (a1 - 1)) then (if (wrap64 (a1 - 1)) < (a0.size : Int) then ((fk_spec_SymbolByte.f k (bt a0 (wrap64 (a1 - 1)))).bind fun t109 => (if t109 = true then (some false) else (if (wrap64 (a1 + 1)) = (a0.size : Int) then (some true) else (if 0 ≤ (wrap64 (a1 + 1)) then (if (wrap64 (a1 + 1)) < (a0.size : Int) then ((spec_l05Blank.f (bt a0 (wrap64 (a1 + 1)))).bind fun t110 => (if t110 = true then (some true) else (some ((bt a0 (wrap64 (a1 + 1))) == 37)))) else (none)) else (none))))) else (none)) else (none))) else (some false)) else (none)) else (none)) = some r:=h
 clear h
 by_cases c3 : 0 ≤ a1
 rotate_left
 ·rw [if_neg c3] at H
  exact absurd H (by simp)
 rw [if_pos c3] at H
 have c3b0 : decide (0 ≤ a1) = true:=decide_eq_true c3
 clear c3
 by_cases c4 : a1 < (a0.size : Int)
 rotate_left
 ·rw [if_neg c4] at H
  exact absurd H (by simp)
 rw [if_pos c4] at H
 have c4b0 : decide (a1 < (a0.size : Int)) = true:=decide_eq_true c4
 clear c4
 by_cases c6 : (bt a0 a1) = 46
 ·rw [if_pos c6] at H
  have c6b0 : ((bt a0 a1) == 46) = true:=beq_iff_eq.mpr c6
  have c6b1 : ((bt a0 a1) != 46) = false:=bne_eq_false_iff_eq.mpr c6
  clear c6
  by_cases c7 : a1 = 0
  ·rw [if_pos c7] at H
   have c7b0 : (a1 == 0) = true:=beq_iff_eq.mpr c7
   have c7b1 : (a1 != 0) = false:=bne_eq_false_iff_eq.mpr c7
   clear c7
   by_cases c8 : (wrap64 (a1 + 1)) = (a0.size : Int)
   ·rw [if_pos c8] at H
    have c8b0 : ((wrap64 (a1 + 1)) == (a0.size : Int)) = true:=beq_iff_eq.mpr c8
    have c8b1 : ((wrap64 (a1 + 1)) != (a0.size : Int)) = false:=bne_eq_false_iff_eq.mpr c8
    clear c8
    obtain rfl:=Option.some.inj H
    have p5 : 0 ≤ (a1 : Int):=of_decide_eq_true (by first|(with_reducible assumption)|assumption)
    have q5 : a1 < (a0.size : Int):=of_decide_eq_true (by first|(with_reducible assumption)|assumption)
    have hx5:=bt_at a0 a1
    replace p5:=eq_true p5
    replace q5:=eq_true q5
    go_enter Try.func69,Try.ntmps69
    go_wp2
    go_ret
    exact ⟨by first|rfl|(simp [errW_none,errW_some] <;> rfl)|(simp [*,errW_none,errW_some] <;> rfl),by repeat (first|(with_reducible first|exact HB.out|apply below_alloc|apply pw_below_drewN|apply below_drew1)|exact HB.out)⟩
   ·rw [if_neg c8] at H
    have c8b0 : ((wrap64 (a1 + 1)) == (a0.size : Int)) = false:=beq_eq_false_iff_ne.mpr c8
    have c8b1 : ((wrap64 (a1 + 1)) != (a0.size : Int)) = true:=bne_iff_ne.mpr c8
    obtain ⟨ji9,hji9⟩ : ∃ j_ : Int,(wrap64 (a1 + 1)) = j_:=⟨_,rfl⟩
    replace H : (if 0 ≤ (ji9) then (if (ji9) < (a0.size : Int) then ((spec_l05Blank.f (bt a0 (ji9))).bind fun t108 => (if t108 = true then (some true) else (some ((bt a0 (ji9)) == 37)))) else (none)) else (none)) = some r:=by first|(rw [hji9] at H;exact H)|(simp only [hji9] at H ⊢;exact H)
    (try rw [hji9] at c8b0)
    (try rw [hji9] at c8b1)
    have hji9w : (IntKind.i64.wrap (a1 + 1)) = ji9:=(i64_w _).trans hji9
    by_cases c10 : 0 ≤ (ji9)
    rotate_left
    ·rw [if_neg c10] at H
     exact absurd H (by simp)
    rw [if_pos c10] at H
    have c10b0 : decide (0 ≤ (ji9)) = true:=decide_eq_true c10
    clear c10
    by_cases c11 : (ji9) < (a0.size : Int)
    rotate_left
    ·rw [if_neg c11] at H
     exact absurd H (by simp)
    rw [if_pos c11] at H
    have c11b0 : decide ((ji9) < (a0.size : Int)) = true:=decide_eq_true c11
    clear c11
    replace H:=Option.bind_eq_some_iff.mp H
    obtain ⟨t108,A130,H⟩:=H
    replace H : (if t108 = true then (some true) else (some ((bt a0 (ji9)) == 37))) = some r:=H
    have A13:=Aside0.mk A130
    clear A130
    by_cases c14 : t108 = true
    ·subst c14
     have H1 : (some true) = some r:=by rw [if_pos rfl] at H;exact H
     clear H
     have H:=H1
     clear H1
     obtain rfl:=Option.some.inj H
     have p5 : 0 ≤ (a1 : Int):=of_decide_eq_true (by first|(with_reducible assumption)|assumption)
     have q5 : a1 < (a0.size : Int):=of_decide_eq_true (by first|(with_reducible assumption)|assumption)
     have hx5:=bt_at a0 a1
     replace p5:=eq_true p5
     replace q5:=eq_true q5
     have p12 : 0 ≤ ((ji9) : Int):=of_decide_eq_true (by first|(with_reducible assumption)|assumption)
     have q12 : (ji9) < (a0.size : Int):=of_decide_eq_true (by first|(with_reducible assumption)|assumption)
     have hx12:=bt_at a0 (ji9)
     replace p12:=eq_true p12
     replace q12:=eq_true q12
     go_enter Try.func69,Try.ntmps69
     go_wp2_with (first|(go_at_call 53;(with_reducible refine (spec_l05Blank.calls (bt a0 (ji9)) true _ A13.out).mono ?_);rintro e w' ⟨rfl,⟨nd,rfl⟩⟩))
     go_ret
     exact ⟨by first|rfl|(simp [errW_none,errW_some] <;> rfl)|(simp only [← hji9];first|rfl|(simp [errW_none,errW_some] <;> rfl))|(simp [*,errW_none,errW_some] <;> rfl),by repeat (first|(with_reducible first|exact HB.out|apply below_alloc|apply pw_below_drewN|apply below_drew1)|exact HB.out)⟩
    ·replace c14:=Bool.eq_false_iff.mpr c14
     subst c14
     have H1 : (some ((bt a0 (ji9)) == 37)) = some r:=by rw [if_neg (show ¬ (false = true) by decide)] at H;exact H
     clear H
     have H:=H1
     clear H1
     obtain rfl:=Option.some.inj H
     have p5 : 0 ≤ (a1 : Int):=of_decide_eq_true (by first|(with_reducible assumption)|assumption)
     have q5 : a1 < (a0.size : Int):=of_decide_eq_true (by first|(with_reducible assumption)|assumption)
     have hx5:=bt_at a0 a1
     replace p5:=eq_true p5
     replace q5:=eq_true q5
     have p12 : 0 ≤ ((ji9) : Int):=of_decide_eq_true (by first|(with_reducible assumption)|assumption)
     have q12 : (ji9) < (a0.size : Int):=of_decide_eq_true (by first|(with_reducible assumption)|assumption)
     have hx12:=bt_at a0 (ji9)
     replace p12:=eq_true p12
     replace q12:=eq_true q12
     go_enter Try.func69,Try.ntmps69
     go_wp2_with (first|(go_at_call 53;(with_reducible refine (spec_l05Blank.calls (bt a0 (ji9)) false _ A13.out).mono ?_);rintro e w' ⟨rfl,⟨nd,rfl⟩⟩;have p15 : 0 ≤ ((ji9) : Int):=of_decide_eq_true (by first|(with_reducible assumption)|assumption);have q15 : (ji9) < (a0.size : Int):=of_decide_eq_true (by first|(with_reducible assumption)|assumption);have hx15:=bt_at a0 (ji9);replace p15:=eq_true p15;replace q15:=eq_true q15))
     go_ret
     exact ⟨by first|rfl|(simp [errW_none,errW_some] <;> rfl)|(simp only [← hji9];first|rfl|(simp [errW_none,errW_some] <;> rfl))|(simp [*,errW_none,errW_some] <;> rfl),by repeat (first|(with_reducible first|exact HB.out|apply below_alloc|apply pw_below_drewN|apply below_drew1)|exact HB.out)⟩
  ·rw [if_neg c7] at H
   have c7b0 : (a1 == 0) = false:=beq_eq_false_iff_ne.mpr c7
   have c7b1 : (a1 != 0) = true:=bne_iff_ne.mpr c7
   obtain ⟨ji16,hji16⟩ : ∃ j_ : Int,(wrap64 (a1 - 1)) = j_:=⟨_,rfl⟩
   replace H : (if 0 ≤ (ji16) then (if (ji16) < (a0.size : Int) then ((fk_spec_SymbolByte.f k (bt a0 (ji16))).bind fun t109 => (if t109 = true then (some false) else (if (wrap64 (a1 + 1)) = (a0.size : Int) then (some true) else (if 0 ≤ (wrap64 (a1 + 1)) then (if (wrap64 (a1 + 1)) < (a0.size : Int) then ((spec_l05Blank.f (bt a0 (wrap64 (a1 + 1)))).bind fun t110 => (if t110 = true then (some true) else (some ((bt a0 (wrap64 (a1 + 1))) == 37)))) else (none)) else (none))))) else (none)) else (none)) = some r:=by first|(rw [hji16] at H;exact H)|(simp only [hji16] at H ⊢;exact H)
   have hji16w : (IntKind.i64.wrap (a1 - 1)) = ji16:=(i64_w _).trans hji16
   by_cases c17 : 0 ≤ (ji16)
   rotate_left
   ·rw [if_neg c17] at H
    exact absurd H (by simp)
   rw [if_pos c17] at H
   have c17b0 : decide (0 ≤ (ji16)) = true:=decide_eq_true c17
   clear c17
   by_cases c18 : (ji16) < (a0.size : Int)
   rotate_left
   ·rw [if_neg c18] at H
    exact absurd H (by simp)
   rw [if_pos c18] at H
   have c18b0 : decide ((ji16) < (a0.size : Int)) = true:=decide_eq_true c18
   clear c18
   replace H:=Option.bind_eq_some_iff.mp H
   obtain ⟨t109,A200,H⟩:=H
   replace H : (if t109 = true then (some false) else (if (wrap64 (a1 + 1)) = (a0.size : Int) then (some true) else (if 0 ≤ (wrap64 (a1 + 1)) then (if (wrap64 (a1 + 1)) < (a0.size : Int) then ((spec_l05Blank.f (bt a0 (wrap64 (a1 + 1)))).bind fun t110 => (if t110 = true then (some true) else (some ((bt a0 (wrap64 (a1 + 1))) == 37)))) else (none)) else (none)))) = some r:=H
   have A20:=Aside0.mk A200
   clear A200
   by_cases c21 : t109 = true
   ·subst c21
    have H1 : (some false) = some r:=by rw [if_pos rfl] at H;exact H
    clear H
    have H:=H1
    clear H1
    obtain rfl:=Option.some.inj H
    have p5 : 0 ≤ (a1 : Int):=of_decide_eq_true (by first|(with_reducible assumption)|assumption)
    have q5 : a1 < (a0.size : Int):=of_decide_eq_true (by first|(with_reducible assumption)|assumption)
    have hx5:=bt_at a0 a1
    replace p5:=eq_true p5
    replace q5:=eq_true q5
    have p19 : 0 ≤ ((ji16) : Int):=of_decide_eq_true (by first|(with_reducible assumption)|assumption)
    have q19 : (ji16) < (a0.size : Int):=of_decide_eq_true (by first|(with_reducible assumption)|assumption)
    have hx19:=bt_at a0 (ji16)
    replace p19:=eq_true p19
    replace q19:=eq_true q19
    go_enter Try.func69,Try.ntmps69
    go_wp2_with (first|(go_at_call 13;(with_reducible refine (fk_spec_SymbolByte.calls k (bt a0 (ji16)) true _ A20.out).mono ?_);rintro e w22 ⟨rfl,hb⟩;have n0_:=Aside0.mk (below_step (by repeat (first|(with_reducible first|exact HB.out|apply below_alloc|apply pw_below_drewN|apply below_drew1)|exact HB.out)) hb);clear HB;have HB:=n0_;clear n0_;(try clear hb)))
    go_ret
    exact ⟨by first|rfl|(simp [errW_none,errW_some] <;> rfl)|(simp only [← hji16];first|rfl|(simp [errW_none,errW_some] <;> rfl))|(simp [*,errW_none,errW_some] <;> rfl),by repeat (first|(with_reducible first|exact HB.out|apply below_alloc|apply pw_below_drewN|apply below_drew1)|exact HB.out)⟩
   ·replace c21:=Bool.eq_false_iff.mpr c21
    subst c21
    have H1 : (if (wrap64 (a1 + 1)) = (a0.size : Int) then (some true) else (if 0 ≤ (wrap64 (a1 + 1)) then (if (wrap64 (a1 + 1)) < (a0.size : Int) then ((spec_l05Blank.f (bt a0 (wrap64 (a1 + 1)))).bind fun t110 => (if t110 = true then (some true) else (some ((bt a0 (wrap64 (a1 + 1))) == 37)))) else (none)) else (none))) = some r:=by rw [if_neg (show ¬ (false = true) by decide)] at H;exact H
    clear H
    have H:=H1
    clear H1
    by_cases c23 : (wrap64 (a1 + 1)) = (a0.size : Int)
    ·rw [if_pos c23] at H
     have c23b0 : ((wrap64 (a1 + 1)) == (a0.size : Int)) = true:=beq_iff_eq.mpr c23
     have c23b1 : ((wrap64 (a1 + 1)) != (a0.size : Int)) = false:=bne_eq_false_iff_eq.mpr c23
     clear c23
     obtain rfl:=Option.some.inj H
     have p5 : 0 ≤ (a1 : Int):=of_decide_eq_true (by first|(with_reducible assumption)|assumption)
     have q5 : a1 < (a0.size : Int):=of_decide_eq_true (by first|(with_reducible assumption)|assumption)
     have hx5:=bt_at a0 a1
     replace p5:=eq_true p5
     replace q5:=eq_true q5
     have p19 : 0 ≤ ((ji16) : Int):=of_decide_eq_true (by first|(with_reducible assumption)|assumption)
     have q19 : (ji16) < (a0.size : Int):=of_decide_eq_true (by first|(with_reducible assumption)|assumption)
     have hx19:=bt_at a0 (ji16)
     replace p19:=eq_true p19
     replace q19:=eq_true q19
     go_enter Try.func69,Try.ntmps69
     go_wp2_with (first|(go_at_call 13;(with_reducible refine (fk_spec_SymbolByte.calls k (bt a0 (ji16)) false _ A20.out).mono ?_);rintro e w24 ⟨rfl,hb⟩;have n0_:=Aside0.mk (below_step (by repeat (first|(with_reducible first|exact HB.out|apply below_alloc|apply pw_below_drewN|apply below_drew1)|exact HB.out)) hb);clear HB;have HB:=n0_;clear n0_;(try clear hb)))
     go_ret
     exact ⟨by first|rfl|(simp [errW_none,errW_some] <;> rfl)|(simp only [← hji16];first|rfl|(simp [errW_none,errW_some] <;> rfl))|(simp [*,errW_none,errW_some] <;> rfl),by repeat (first|(with_reducible first|exact HB.out|apply below_alloc|apply pw_below_drewN|apply below_drew1)|exact HB.out)⟩
    ·rw [if_neg c23] at H
     have c23b0 : ((wrap64 (a1 + 1)) == (a0.size : Int)) = false:=beq_eq_false_iff_ne.mpr c23
     have c23b1 : ((wrap64 (a1 + 1)) != (a0.size : Int)) = true:=bne_iff_ne.mpr c23
     obtain ⟨ji25,hji25⟩ : ∃ j_ : Int,(wrap64 (a1 + 1)) = j_:=⟨_,rfl⟩
     replace H : (if 0 ≤ (ji25) then (if (ji25) < (a0.size : Int) then ((spec_l05Blank.f (bt a0 (ji25))).bind fun t110 => (if t110 = true then (some true) else (some ((bt a0 (ji25)) == 37)))) else (none)) else (none)) = some r:=by first|(rw [hji25] at H;exact H)|(simp only [hji25] at H ⊢;exact H)
     (try rw [hji25] at c23b0)
     (try rw [hji25] at c23b1)
     (try rw [hji25] at A20)
     have hji25w : (IntKind.i64.wrap (a1 + 1)) = ji25:=(i64_w _).trans hji25
     by_cases c26 : 0 ≤ (ji25)
     rotate_left
     ·rw [if_neg c26] at H
      exact absurd H (by simp)
     rw [if_pos c26] at H
     have c26b0 : decide (0 ≤ (ji25)) = true:=decide_eq_true c26
     clear c26
     by_cases c27 : (ji25) < (a0.size : Int)
     rotate_left
     ·rw [if_neg c27] at H
      exact absurd H (by simp)
     rw [if_pos c27] at H
     have c27b0 : decide ((ji25) < (a0.size : Int)) = true:=decide_eq_true c27
     clear c27
     replace H:=Option.bind_eq_some_iff.mp H
     obtain ⟨t110,A290,H⟩:=H
     replace H : (if t110 = true then (some true) else (some ((bt a0 (ji25)) == 37))) = some r:=H
     have A29:=Aside0.mk A290
     clear A290
     by_cases c30 : t110 = true
     ·subst c30
      have H1 : (some true) = some r:=by rw [if_pos rfl] at H;exact H
      clear H
      have H:=H1
      clear H1
      obtain rfl:=Option.some.inj H
      have p5 : 0 ≤ (a1 : Int):=of_decide_eq_true (by first|(with_reducible assumption)|assumption)
      have q5 : a1 < (a0.size : Int):=of_decide_eq_true (by first|(with_reducible assumption)|assumption)
      have hx5:=bt_at a0 a1
      replace p5:=eq_true p5
      replace q5:=eq_true q5
      have p19 : 0 ≤ ((ji16) : Int):=of_decide_eq_true (by first|(with_reducible assumption)|assumption)
      have q19 : (ji16) < (a0.size : Int):=of_decide_eq_true (by first|(with_reducible assumption)|assumption)
      have hx19:=bt_at a0 (ji16)
      replace p19:=eq_true p19
      replace q19:=eq_true q19
      go_enter Try.func69,Try.ntmps69
      go_wp2_with (first|(go_at_call 13;(with_reducible refine (fk_spec_SymbolByte.calls k (bt a0 (ji16)) false _ A20.out).mono ?_);rintro e w31 ⟨rfl,hb⟩;have n0_:=Aside0.mk (below_step (by repeat (first|(with_reducible first|exact HB.out|apply below_alloc|apply pw_below_drewN|apply below_drew1)|exact HB.out)) hb);clear HB;have HB:=n0_;clear n0_;(try clear hb);(try clear hb2);(try clear hk);(try clear hi);have p28 : 0 ≤ ((ji25) : Int):=of_decide_eq_true (by first|(with_reducible assumption)|assumption);have q28 : (ji25) < (a0.size : Int):=of_decide_eq_true (by first|(with_reducible assumption)|assumption);have hx28:=bt_at a0 (ji25);replace p28:=eq_true p28;replace q28:=eq_true q28)|(go_at_call 53;(with_reducible refine (spec_l05Blank.calls (bt a0 (ji25)) true _ A29.out).mono ?_);rintro e w' ⟨rfl,⟨nd,rfl⟩⟩))
      go_ret
      exact ⟨by first|rfl|(simp [errW_none,errW_some] <;> rfl)|(simp only [← hji16,← hji25];first|rfl|(simp [errW_none,errW_some] <;> rfl))|(simp [*,errW_none,errW_some] <;> rfl),by repeat (first|(with_reducible first|exact HB.out|apply below_alloc|apply pw_below_drewN|apply below_drew1)|exact HB.out)⟩
     ·replace c30:=Bool.eq_false_iff.mpr c30
      subst c30
      have H1 : (some ((bt a0 (ji25)) == 37)) = some r:=by rw [if_neg (show ¬ (false = true) by decide)] at H;exact H
      clear H
      have H:=H1
      clear H1
      obtain rfl:=Option.some.inj H
      have p5 : 0 ≤ (a1 : Int):=of_decide_eq_true (by first|(with_reducible assumption)|assumption)
      have q5 : a1 < (a0.size : Int):=of_decide_eq_true (by first|(with_reducible assumption)|assumption)
      have hx5:=bt_at a0 a1
      replace p5:=eq_true p5
      replace q5:=eq_true q5
      have p19 : 0 ≤ ((ji16) : Int):=of_decide_eq_true (by first|(with_reducible assumption)|assumption)
      have q19 : (ji16) < (a0.size : Int):=of_decide_eq_true (by first|(with_reducible assumption)|assumption)
      have hx19:=bt_at a0 (ji16)
      replace p19:=eq_true p19
      replace q19:=eq_true q19
      go_enter Try.func69,Try.ntmps69
      go_wp2_with (first|(go_at_call 13;(with_reducible refine (fk_spec_SymbolByte.calls k (bt a0 (ji16)) false _ A20.out).mono ?_);rintro e w33 ⟨rfl,hb⟩;have n0_:=Aside0.mk (below_step (by repeat (first|(with_reducible first|exact HB.out|apply below_alloc|apply pw_below_drewN|apply below_drew1)|exact HB.out)) hb);clear HB;have HB:=n0_;clear n0_;(try clear hb);(try clear hb2);(try clear hk);(try clear hi);have p28 : 0 ≤ ((ji25) : Int):=of_decide_eq_true (by first|(with_reducible assumption)|assumption);have q28 : (ji25) < (a0.size : Int):=of_decide_eq_true (by first|(with_reducible assumption)|assumption);have hx28:=bt_at a0 (ji25);replace p28:=eq_true p28;replace q28:=eq_true q28)|(go_at_call 53;(with_reducible refine (spec_l05Blank.calls (bt a0 (ji25)) false _ A29.out).mono ?_);rintro e w' ⟨rfl,⟨nd,rfl⟩⟩;have p32 : 0 ≤ ((ji25) : Int):=of_decide_eq_true (by first|(with_reducible assumption)|assumption);have q32 : (ji25) < (a0.size : Int):=of_decide_eq_true (by first|(with_reducible assumption)|assumption);have hx32:=bt_at a0 (ji25);replace p32:=eq_true p32;replace q32:=eq_true q32))
      go_ret
      exact ⟨by first|rfl|(simp [errW_none,errW_some] <;> rfl)|(simp only [← hji16,← hji25];first|rfl|(simp [errW_none,errW_some] <;> rfl))|(simp [*,errW_none,errW_some] <;> rfl),by repeat (first|(with_reducible first|exact HB.out|apply below_alloc|apply pw_below_drewN|apply below_drew1)|exact HB.out)⟩
 ·rw [if_neg c6] at H
  have c6b0 : ((bt a0 a1) == 46) = false:=beq_eq_false_iff_ne.mpr c6
  have c6b1 : ((bt a0 a1) != 46) = true:=bne_iff_ne.mpr c6
  obtain rfl:=Option.some.inj H
  have p5 : 0 ≤ (a1 : Int):=of_decide_eq_true (by first|(with_reducible assumption)|assumption)
  have q5 : a1 < (a0.size : Int):=of_decide_eq_true (by first|(with_reducible assumption)|assumption)
  have hx5:=bt_at a0 a1
  replace p5:=eq_true p5
  replace q5:=eq_true q5
  go_enter Try.func69,Try.ntmps69
  go_wp2
  go_ret
  exact ⟨by first|rfl|(simp [errW_none,errW_some] <;> rfl)|(simp [*,errW_none,errW_some] <;> rfl),by repeat (first|(with_reducible first|exact HB.out|apply below_alloc|apply pw_below_drewN|apply below_drew1)|exact HB.out)⟩

end Go.Proofs.Ytbkibnjpolnajaa.KSn
