/- Contracts of functions of the program and of the reference, each a Lean function and the proof that Go comes to its answer. Written by wip/pp/pp.py out of the kit's print, for this claim; nothing of it is trusted: Lean checks it. -/
import Derived.Test.YtojedbogbodkiaaKFlx0
import Derived.Test.YtojedbogbodkiaaKFlx2
namespace Go.Proofs.Ytojedbogbodkiaa.KFl
open Go.RowKit Go.Proofs.YtojedbogbodkiaaW.PrintWords Go.Proofs.YtojedbogbodkiaaW.PrintLast Go.Proofs.YtojedbogbodkiaaW.PrintMore
attribute [local go_sem] max2_int min2_int max_two min_two max_three min_three max_four min_four   -- for this text's walks alone
set_option linter.unusedVariables false
set_option linter.unusedSimpArgs false

set_option linter.unusedSectionVars false
variable [fk_laws_szTerm] [fk_laws_eqTerm]
/-! ### spec_l03Name: function 68 -/
def spec_l03Name.l0 : Nat → ByteArray → Int → Option (Bool)
 | 0,_,_ => none
 | k + 1,x0,x3 => if x3 < (x0.size : Int) then (if 0 ≤ x3 then (if (bt x0 x3) < 33 then (some false) else (if (bt x0 x3) > 126 then (some false) else (if (bt x0 x3) = 39 then (some false) else (if (bt x0 x3) = 34 then (some false) else (spec_l03Name.l0 k x0 (wrap64 (x3 + 1))))))) else (none)) else ((spec_l01In.f (x0.size : Int) 1 20).bind fun t129 => (some t129))
def spec_l03Name.f (k : Nat) (a0 : ByteArray) : Option (Bool):=spec_l03Name.l0 k a0 0
theorem spec_l03Name.mono_l : ∀ k,(∀ y0 y1,LeO (spec_l03Name.l0 k y0 y1) (spec_l03Name.l0 (k + 1) y0 y1))
 | 0 => fun _ _ r h => by simp [spec_l03Name.l0] at h
 | k + 1 => by
  have ih0:=spec_l03Name.mono_l k
  ·intro y0 y1
   unfold spec_l03Name.l0
   repeat' first
   | (with_reducible exact ih0 _ _)
   | (with_reducible exact LeO.refl _)
   | (with_reducible exact LeO.none _)
   | (with_reducible refine LeO.ite ?_ ?_)
   | (with_reducible refine LeO.bind ?_ (fun _ => ?_))
   | exact ih0 _ _
   | exact LeO.none _
   | refine LeO.ite ?_ ?_
   | refine LeO.bind ?_ (fun _ => ?_)
theorem spec_l03Name.mono : ∀ a0 k,LeO (spec_l03Name.f k a0) (spec_l03Name.f (k + 1) a0):=by
 intro a0 k
 have ih0:=spec_l03Name.mono_l k
 unfold spec_l03Name.f
 repeat' first
   | (with_reducible exact ih0 _ _)
   | (with_reducible exact LeO.refl _)
   | (with_reducible exact LeO.none _)
   | (with_reducible refine LeO.ite ?_ ?_)
   | (with_reducible refine LeO.bind ?_ (fun _ => ?_))
   | exact ih0 _ _
   | exact LeO.none _
   | refine LeO.ite ?_ ?_
   | refine LeO.bind ?_ (fun _ => ?_)
set_option maxHeartbeats 8000000 in
set_option maxRecDepth 100000 in
theorem spec_l03Name.calls (k : Nat) (a0 : ByteArray) (r : Bool) (w : World) (h : spec_l03Name.f k a0 = some r) :
  Calls Try.prog 68 #[.string a0] w fun e w' => e = .returned (.bool r) ∧ Drawn0 w w':=by
 have H : (spec_l03Name.l0 k a0 0) = some r:=h
 clear h
 have H':=Aside0.mk H
 clear H
 go_enter Try.func68,Try.ntmps68
 go_wp2
 go_loopg [3] k (fun kq v3 w' => ∃ (x3_1 : Int),v3 = .int .i64 x3_1 ∧ Aside0 (spec_l03Name.l0 kq a0 x3_1 = some r) ∧ Aside0 (kq ≤ k) ∧ Drawn0 w w')
 case atStart => exact ⟨(0),(by first|rfl|(simp;done)|(simp [*];done)),H',⟨Nat.le_refl _⟩,by repeat (first|exact Drawn0.refl _|apply Drawn0.step)⟩
 case round =>
  clear H'
  obtain ⟨x3_1,rfl,HA,HK1,⟨m1,rfl⟩⟩:=hrel
  cases gk with
  | zero => exact absurd HA.out (by simp [spec_l03Name.l0])
  | succ k1 =>
   have H:=HA.out
   clear HA
   simp only [spec_l03Name.l0] at H
   by_cases c2 : x3_1 < (a0.size : Int)
   ·rw [if_pos c2] at H
    have c2b0 : decide (x3_1 < (a0.size : Int)) = true:=decide_eq_true c2
    clear c2
    by_cases c3 : 0 ≤ x3_1
    rotate_left
    ·rw [if_neg c3] at H
     exact absurd H (by simp)
    rw [if_pos c3] at H
    have c3b0 : decide (0 ≤ x3_1) = true:=decide_eq_true c3
    clear c3
    by_cases c5 : (bt a0 x3_1) < 33
    ·rw [if_pos c5] at H
     have c5b0 : decide ((bt a0 x3_1) < 33) = true:=decide_eq_true c5
     clear c5
     obtain rfl:=Option.some.inj H
     have p4 : 0 ≤ (x3_1 : Int):=of_decide_eq_true (by first|(with_reducible assumption)|assumption)
     have q4 : x3_1 < (a0.size : Int):=of_decide_eq_true (by first|(with_reducible assumption)|assumption)
     have hx4:=bt_at a0 x3_1
     replace p4:=eq_true p4
     replace q4:=eq_true q4
     go_wp2
     go_ret
     exact ⟨by first|rfl|(simp;done)|(simp [*];done),by repeat (first|exact Drawn0.refl _|apply Drawn0.step)⟩
    ·rw [if_neg c5] at H
     have c5b0 : decide ((bt a0 x3_1) < 33) = false:=decide_eq_false c5
     clear c5
     by_cases c7 : (bt a0 x3_1) > 126
     ·rw [if_pos c7] at H
      have c7b0 : decide (126 < (bt a0 x3_1)) = true:=decide_eq_true c7
      clear c7
      obtain rfl:=Option.some.inj H
      have p4 : 0 ≤ (x3_1 : Int):=of_decide_eq_true (by first|(with_reducible assumption)|assumption)
      have q4 : x3_1 < (a0.size : Int):=of_decide_eq_true (by first|(with_reducible assumption)|assumption)
      have hx4:=bt_at a0 x3_1
      replace p4:=eq_true p4
      replace q4:=eq_true q4
      have p6 : 0 ≤ (x3_1 : Int):=of_decide_eq_true (by first|(with_reducible assumption)|assumption)
      have q6 : x3_1 < (a0.size : Int):=of_decide_eq_true (by first|(with_reducible assumption)|assumption)
      have hx6:=bt_at a0 x3_1
      replace p6:=eq_true p6
      replace q6:=eq_true q6
      go_wp2
      go_ret
      exact ⟨by first|rfl|(simp;done)|(simp [*];done),by repeat (first|exact Drawn0.refl _|apply Drawn0.step)⟩
     ·rw [if_neg c7] at H
      have c7b0 : decide (126 < (bt a0 x3_1)) = false:=decide_eq_false c7
      clear c7
      by_cases c9 : (bt a0 x3_1) = 39
      ·rw [if_pos c9] at H
       have c9b0 : ((bt a0 x3_1) == 39) = true:=beq_iff_eq.mpr c9
       have c9b1 : ((bt a0 x3_1) != 39) = false:=bne_eq_false_iff_eq.mpr c9
       clear c9
       obtain rfl:=Option.some.inj H
       have p4 : 0 ≤ (x3_1 : Int):=of_decide_eq_true (by first|(with_reducible assumption)|assumption)
       have q4 : x3_1 < (a0.size : Int):=of_decide_eq_true (by first|(with_reducible assumption)|assumption)
       have hx4:=bt_at a0 x3_1
       replace p4:=eq_true p4
       replace q4:=eq_true q4
       have p6 : 0 ≤ (x3_1 : Int):=of_decide_eq_true (by first|(with_reducible assumption)|assumption)
       have q6 : x3_1 < (a0.size : Int):=of_decide_eq_true (by first|(with_reducible assumption)|assumption)
       have hx6:=bt_at a0 x3_1
       replace p6:=eq_true p6
       replace q6:=eq_true q6
       have p8 : 0 ≤ (x3_1 : Int):=of_decide_eq_true (by first|(with_reducible assumption)|assumption)
       have q8 : x3_1 < (a0.size : Int):=of_decide_eq_true (by first|(with_reducible assumption)|assumption)
       have hx8:=bt_at a0 x3_1
       replace p8:=eq_true p8
       replace q8:=eq_true q8
       go_wp2
       go_ret
       exact ⟨by first|rfl|(simp;done)|(simp [*];done),by repeat (first|exact Drawn0.refl _|apply Drawn0.step)⟩
      ·rw [if_neg c9] at H
       have c9b0 : ((bt a0 x3_1) == 39) = false:=beq_eq_false_iff_ne.mpr c9
       have c9b1 : ((bt a0 x3_1) != 39) = true:=bne_iff_ne.mpr c9
       by_cases c11 : (bt a0 x3_1) = 34
       ·rw [if_pos c11] at H
        have c11b0 : ((bt a0 x3_1) == 34) = true:=beq_iff_eq.mpr c11
        have c11b1 : ((bt a0 x3_1) != 34) = false:=bne_eq_false_iff_eq.mpr c11
        clear c11
        obtain rfl:=Option.some.inj H
        have p4 : 0 ≤ (x3_1 : Int):=of_decide_eq_true (by first|(with_reducible assumption)|assumption)
        have q4 : x3_1 < (a0.size : Int):=of_decide_eq_true (by first|(with_reducible assumption)|assumption)
        have hx4:=bt_at a0 x3_1
        replace p4:=eq_true p4
        replace q4:=eq_true q4
        have p6 : 0 ≤ (x3_1 : Int):=of_decide_eq_true (by first|(with_reducible assumption)|assumption)
        have q6 : x3_1 < (a0.size : Int):=of_decide_eq_true (by first|(with_reducible assumption)|assumption)
        have hx6:=bt_at a0 x3_1
        replace p6:=eq_true p6
        replace q6:=eq_true q6
        have p8 : 0 ≤ (x3_1 : Int):=of_decide_eq_true (by first|(with_reducible assumption)|assumption)
        have q8 : x3_1 < (a0.size : Int):=of_decide_eq_true (by first|(with_reducible assumption)|assumption)
        have hx8:=bt_at a0 x3_1
        replace p8:=eq_true p8
        replace q8:=eq_true q8
        have p10 : 0 ≤ (x3_1 : Int):=of_decide_eq_true (by first|(with_reducible assumption)|assumption)
        have q10 : x3_1 < (a0.size : Int):=of_decide_eq_true (by first|(with_reducible assumption)|assumption)
        have hx10:=bt_at a0 x3_1
        replace p10:=eq_true p10
        replace q10:=eq_true q10
        go_wp2
        go_ret
        exact ⟨by first|rfl|(simp;done)|(simp [*];done),by repeat (first|exact Drawn0.refl _|apply Drawn0.step)⟩
       ·rw [if_neg c11] at H
        have c11b0 : ((bt a0 x3_1) == 34) = false:=beq_eq_false_iff_ne.mpr c11
        have c11b1 : ((bt a0 x3_1) != 34) = true:=bne_iff_ne.mpr c11
        have H':=Aside0.mk H
        clear H
        have p4 : 0 ≤ (x3_1 : Int):=of_decide_eq_true (by first|(with_reducible assumption)|assumption)
        have q4 : x3_1 < (a0.size : Int):=of_decide_eq_true (by first|(with_reducible assumption)|assumption)
        have hx4:=bt_at a0 x3_1
        replace p4:=eq_true p4
        replace q4:=eq_true q4
        have p6 : 0 ≤ (x3_1 : Int):=of_decide_eq_true (by first|(with_reducible assumption)|assumption)
        have q6 : x3_1 < (a0.size : Int):=of_decide_eq_true (by first|(with_reducible assumption)|assumption)
        have hx6:=bt_at a0 x3_1
        replace p6:=eq_true p6
        replace q6:=eq_true q6
        have p8 : 0 ≤ (x3_1 : Int):=of_decide_eq_true (by first|(with_reducible assumption)|assumption)
        have q8 : x3_1 < (a0.size : Int):=of_decide_eq_true (by first|(with_reducible assumption)|assumption)
        have hx8:=bt_at a0 x3_1
        replace p8:=eq_true p8
        replace q8:=eq_true q8
        have p10 : 0 ≤ (x3_1 : Int):=of_decide_eq_true (by first|(with_reducible assumption)|assumption)
        have q10 : x3_1 < (a0.size : Int):=of_decide_eq_true (by first|(with_reducible assumption)|assumption)
        have hx10:=bt_at a0 x3_1
        replace p10:=eq_true p10
        replace q10:=eq_true q10
        go_wp2
        go_roundg k1
        case measure => have:=HK1.out;omega
        case rel => exact ⟨(wrap64 (x3_1 + 1)),(by first|rfl|(simp;done)|(simp [*];done)),H',⟨by have:=HK1.out;omega⟩,by repeat (first|exact Drawn0.refl _|apply Drawn0.step)⟩
   ·rw [if_neg c2] at H
    have c2b0 : decide (x3_1 < (a0.size : Int)) = false:=decide_eq_false c2
    clear c2
    replace H:=Option.bind_eq_some_iff.mp H
    obtain ⟨t129,A120,H⟩:=H
    replace H : (some t129) = some r:=H
    have A12:=Aside0.mk A120
    clear A120
    obtain rfl:=Option.some.inj H
    go_wp2_with (first|((with_reducible refine gate_callee (f:=106) rfl ?_);refine goesL_ (some 34) rfl rfl Try.func106 (by kernel_rfl) rfl #[.int .i64 (a0.size : Int),.int .i64 1,.int .i64 20] rfl (by (try simp only [List.map_toArray,List.map_cons,List.map_nil]);first|done|rfl|(simp only [List.length_drop,List.length_take];rfl)) ?_;(with_reducible refine (spec_l01In.calls (a0.size : Int) 1 20 t129 _ A12.out).mono ?_);rintro e w' ⟨rfl,⟨nd,rfl⟩⟩;refine ⟨_,rfl,?_⟩))
    go_ret
    exact ⟨by first|rfl|(simp;done)|(simp [*];done),by repeat (first|exact Drawn0.refl _|apply Drawn0.step)⟩

/-! ### spec_l03One: function 107 -/
def spec_l03One.f (k : Nat) (a0_0 : Int) (a0_1 : ByteArray) (a0_2 : Int) (l0_3 : List (S29)) : Option (Bool):=if a0_0 = 1 then ((spec_l01In.f a0_2 0 99999).bind fun t131 => (if t131 = true then (if a0_1.toList = ([] : List UInt8) then (some ((l0_3.length : Int) == 0)) else (some false)) else (some false))) else (if a0_0 = 2 then ((spec_l03Name.f k a0_1).bind fun t132 => (if t132 = true then (if a0_2 = 0 then (some ((l0_3.length : Int) == 0)) else (some false)) else (some false))) else (if a0_0 = 3 then ((spec_l01In.f a0_2 (-999999999) 999999999).bind fun t133 => (if t133 = true then (if a0_1.toList = ([] : List UInt8) then (some ((l0_3.length : Int) == 0)) else (some false)) else (some false))) else (if a0_0 = 4 then ((spec_l03Name.f k a0_1).bind fun t134 => (if t134 = true then (if a0_2 = 0 then ((spec_l01In.f (l0_3.length : Int) 1 5).bind fun t135 => (some t135)) else (some false)) else (some false))) else (some false))))
set_option maxHeartbeats 8000000 in
set_option maxRecDepth 100000 in
theorem spec_l03One.calls (k : Nat) (a0_0 : Int) (a0_1 : ByteArray) (a0_2 : Int) (A0_3 : Option Addr) (c0_3 : Nat) (l0_3 : List (S29)) (r : Bool) (w : World) (hr0_3 : Kd.C k29 w A0_3 l0_3.length l0_3) (hc0_3 : l0_3.length ≤ c0_3) (h : spec_l03One.f k a0_0 a0_1 a0_2 l0_3 = some r) :
  Calls Try.prog 107 #[.agg #[.int .i64 a0_0,.string a0_1,.int .i64 a0_2,.slice A0_3 l0_3.length c0_3]] w fun e w' => e = .returned (.bool r) ∧ Below w.heap.size w w':=by
 have hu29:=Try.underlying29
 have HR0_3:=Aside0.mk hr0_3
 have HC0_3:=Aside0.mk hc0_3
 clear hr0_3 hc0_3
 have HB:=Aside0.mk (Below.refl w.heap.size w)
 have H : (if a0_0 = 1 then ((spec_l01In.f a0_2 0 99999).bind fun t131 => (if t131 = true then (if a0_1.toList = ([] : List UInt8) then (some ((l0_3.length : Int) == 0)) else (some false)) else (some false))) else (if a0_0 = 2 then ((spec_l03Name.f k a0_1).bind fun t132 => (if t132 = true then (if a0_2 = 0 then (some ((l0_3.length : Int) == 0)) else (some false)) else (some false))) else (if a0_0 = 3 then ((spec_l01In.f a0_2 (-999999999) 999999999).bind fun t133 => (if t133 = true then (if a0_1.toList = ([] : List UInt8) then (some ((l0_3.length : Int) == 0)) else (some false)) else (some false))) else (if a0_0 = 4 then ((spec_l03Name.f k a0_1).bind fun t134 => (if t134 = true then (if a0_2 = 0 then ((spec_l01In.f (l0_3.length : Int) 1 5).bind fun t135 => (some t135)) else (some false)) else (some false))) else (some false))))) = some r:=h
 clear h
 by_cases c2 : a0_0 = 1
 ·rw [if_pos c2] at H
  have c2b0 : (a0_0 == 1) = true:=beq_iff_eq.mpr c2
  have c2b1 : (a0_0 != 1) = false:=bne_eq_false_iff_eq.mpr c2
  clear c2
  replace H:=Option.bind_eq_some_iff.mp H
  obtain ⟨t131,A30,H⟩:=H
  replace H : (if t131 = true then (if a0_1.toList = ([] : List UInt8) then (some ((l0_3.length : Int) == 0)) else (some false)) else (some false)) = some r:=H
  have A3:=Aside0.mk A30
  clear A30
  by_cases c4 : t131 = true
  ·subst c4
   have H1 : (if a0_1.toList = ([] : List UInt8) then (some ((l0_3.length : Int) == 0)) else (some false)) = some r:=by rw [if_pos rfl] at H;exact H
   clear H
   have H:=H1
   clear H1
   by_cases c5 : a0_1.toList = ([] : List UInt8)
   ·rw [if_pos c5] at H
    have c5b0 : (a0_1.toList == ([] : List UInt8)) = true:=beq_iff_eq.mpr c5
    have c5b1 : (a0_1.toList != ([] : List UInt8)) = false:=bne_eq_false_iff_eq.mpr c5
    clear c5
    obtain rfl:=Option.some.inj H
    go_enter Try.func107,Try.ntmps107
    go_wp2_with (first|((with_reducible refine gate_dst (N:=1) rfl ?_);(try (refine gate_guard (by rfl) ?_;dsimp only));refine box_event ?hg (N:=1) ?hd (cs:=#[.int .i64 a0_0,.string a0_1,.int .i64 a0_2,.slice A0_3 l0_3.length c0_3]) (t:=29) ?hr ?_;(case hd => rfl);(case hg => rfl);(case hr => first|(go_simp;done)|(go_simp;rfl));intro gb130 hg w6 hbox hb;have n0_:=Aside0.mk (below_step (by repeat (first|(with_reducible first|exact HB.out|apply below_alloc|apply pw_below_drewN|apply below_drew1)|exact HB.out)) hb);have n1_:=Aside0.mk (hbox);have n2_:=Aside0.mk ((by rw [hg];exact (below_size (by repeat (first|(with_reducible first|exact HB.out|apply below_alloc|apply pw_below_drewN|apply below_drew1)|exact HB.out))) : w.heap.size ≤ gb130));have n3_:=Aside0.mk ((by rw [hg];exact (below_size (by repeat (first|(with_reducible first|exact HB.out|apply below_alloc|apply pw_below_drewN|apply below_drew1)|exact HB.out))) : w.heap.size ≤ gb130));clear HB;have HB:=n0_;have BK130:=n1_;have GW130:=n2_;have GE130:=n3_;clear n0_ n1_ n2_ n3_;clear hb hbox hg;have hcz7_0 : w6.cell? ⟨gb130,0,none⟩ = some (.int .i64 a0_0):=(blk_cell BK130.out 0).trans rfl;have hcz7_1 : w6.cell? ⟨gb130,1,none⟩ = some (.string a0_1):=(blk_cell BK130.out 1).trans rfl;have hcz7_2 : w6.cell? ⟨gb130,2,none⟩ = some (.int .i64 a0_2):=(blk_cell BK130.out 2).trans rfl;have hcz7_3 : w6.cell? ⟨gb130,3,none⟩ = some (.slice A0_3 l0_3.length c0_3):=(blk_cell BK130.out 3).trans rfl;have hfz7_0:=blk_frozen BK130.out 0;have hfz7_1:=blk_frozen BK130.out 1;have hfz7_2:=blk_frozen BK130.out 2;have hfz7_3:=blk_frozen BK130.out 3)|((with_reducible refine gate_callee (f:=106) rfl ?_);refine goesL_ (some 9) rfl rfl Try.func106 (by kernel_rfl) rfl #[.int .i64 a0_2,.int .i64 0,.int .i64 99999] rfl (by (try simp only [List.map_toArray,List.map_cons,List.map_nil]);first|done|rfl|(simp only [List.length_drop,List.length_take];rfl)) ?_;(with_reducible refine (spec_l01In.calls a0_2 0 99999 true _ A3.out).mono ?_);rintro e w' ⟨rfl,⟨nd,rfl⟩⟩;refine ⟨_,rfl,?_⟩))
    go_ret
    exact ⟨by first|rfl|(simp [errW_none,errW_some] <;> rfl)|(simp [*,errW_none,errW_some] <;> rfl),by repeat (first|(with_reducible first|exact HB.out|apply below_alloc|apply pw_below_drewN|apply below_drew1|refine below_set ?_ GE130.out)|exact HB.out)⟩
   ·rw [if_neg c5] at H
    have c5b0 : (a0_1.toList == ([] : List UInt8)) = false:=beq_eq_false_iff_ne.mpr c5
    have c5b1 : (a0_1.toList != ([] : List UInt8)) = true:=bne_iff_ne.mpr c5
    obtain rfl:=Option.some.inj H
    go_enter Try.func107,Try.ntmps107
    go_wp2_with (first|((with_reducible refine gate_dst (N:=1) rfl ?_);(try (refine gate_guard (by rfl) ?_;dsimp only));refine box_event ?hg (N:=1) ?hd (cs:=#[.int .i64 a0_0,.string a0_1,.int .i64 a0_2,.slice A0_3 l0_3.length c0_3]) (t:=29) ?hr ?_;(case hd => rfl);(case hg => rfl);(case hr => first|(go_simp;done)|(go_simp;rfl));intro gb130 hg w8 hbox hb;have n0_:=Aside0.mk (below_step (by repeat (first|(with_reducible first|exact HB.out|apply below_alloc|apply pw_below_drewN|apply below_drew1)|exact HB.out)) hb);have n1_:=Aside0.mk (hbox);have n2_:=Aside0.mk ((by rw [hg];exact (below_size (by repeat (first|(with_reducible first|exact HB.out|apply below_alloc|apply pw_below_drewN|apply below_drew1)|exact HB.out))) : w.heap.size ≤ gb130));have n3_:=Aside0.mk ((by rw [hg];exact (below_size (by repeat (first|(with_reducible first|exact HB.out|apply below_alloc|apply pw_below_drewN|apply below_drew1)|exact HB.out))) : w.heap.size ≤ gb130));clear HB;have HB:=n0_;have BK130:=n1_;have GW130:=n2_;have GE130:=n3_;clear n0_ n1_ n2_ n3_;clear hb hbox hg;have hcz9_0 : w8.cell? ⟨gb130,0,none⟩ = some (.int .i64 a0_0):=(blk_cell BK130.out 0).trans rfl;have hcz9_1 : w8.cell? ⟨gb130,1,none⟩ = some (.string a0_1):=(blk_cell BK130.out 1).trans rfl;have hcz9_2 : w8.cell? ⟨gb130,2,none⟩ = some (.int .i64 a0_2):=(blk_cell BK130.out 2).trans rfl;have hcz9_3 : w8.cell? ⟨gb130,3,none⟩ = some (.slice A0_3 l0_3.length c0_3):=(blk_cell BK130.out 3).trans rfl;have hfz9_0:=blk_frozen BK130.out 0;have hfz9_1:=blk_frozen BK130.out 1;have hfz9_2:=blk_frozen BK130.out 2;have hfz9_3:=blk_frozen BK130.out 3)|((with_reducible refine gate_callee (f:=106) rfl ?_);refine goesL_ (some 9) rfl rfl Try.func106 (by kernel_rfl) rfl #[.int .i64 a0_2,.int .i64 0,.int .i64 99999] rfl (by (try simp only [List.map_toArray,List.map_cons,List.map_nil]);first|done|rfl|(simp only [List.length_drop,List.length_take];rfl)) ?_;(with_reducible refine (spec_l01In.calls a0_2 0 99999 true _ A3.out).mono ?_);rintro e w' ⟨rfl,⟨nd,rfl⟩⟩;refine ⟨_,rfl,?_⟩))
    go_ret
    exact ⟨by first|rfl|(simp [errW_none,errW_some] <;> rfl)|(simp [*,errW_none,errW_some] <;> rfl),by repeat (first|(with_reducible first|exact HB.out|apply below_alloc|apply pw_below_drewN|apply below_drew1|refine below_set ?_ GE130.out)|exact HB.out)⟩
  ·replace c4:=Bool.eq_false_iff.mpr c4
   subst c4
   have H1 : (some false) = some r:=by rw [if_neg (show ¬ (false = true) by decide)] at H;exact H
   clear H
   have H:=H1
   clear H1
   obtain rfl:=Option.some.inj H
   go_enter Try.func107,Try.ntmps107
   go_wp2_with (first|((with_reducible refine gate_dst (N:=1) rfl ?_);(try (refine gate_guard (by rfl) ?_;dsimp only));refine box_event ?hg (N:=1) ?hd (cs:=#[.int .i64 a0_0,.string a0_1,.int .i64 a0_2,.slice A0_3 l0_3.length c0_3]) (t:=29) ?hr ?_;(case hd => rfl);(case hg => rfl);(case hr => first|(go_simp;done)|(go_simp;rfl));intro gb130 hg w10 hbox hb;have n0_:=Aside0.mk (below_step (by repeat (first|(with_reducible first|exact HB.out|apply below_alloc|apply pw_below_drewN|apply below_drew1)|exact HB.out)) hb);have n1_:=Aside0.mk (hbox);have n2_:=Aside0.mk ((by rw [hg];exact (below_size (by repeat (first|(with_reducible first|exact HB.out|apply below_alloc|apply pw_below_drewN|apply below_drew1)|exact HB.out))) : w.heap.size ≤ gb130));have n3_:=Aside0.mk ((by rw [hg];exact (below_size (by repeat (first|(with_reducible first|exact HB.out|apply below_alloc|apply pw_below_drewN|apply below_drew1)|exact HB.out))) : w.heap.size ≤ gb130));clear HB;have HB:=n0_;have BK130:=n1_;have GW130:=n2_;have GE130:=n3_;clear n0_ n1_ n2_ n3_;clear hb hbox hg;have hcz11_0 : w10.cell? ⟨gb130,0,none⟩ = some (.int .i64 a0_0):=(blk_cell BK130.out 0).trans rfl;have hcz11_1 : w10.cell? ⟨gb130,1,none⟩ = some (.string a0_1):=(blk_cell BK130.out 1).trans rfl;have hcz11_2 : w10.cell? ⟨gb130,2,none⟩ = some (.int .i64 a0_2):=(blk_cell BK130.out 2).trans rfl;have hcz11_3 : w10.cell? ⟨gb130,3,none⟩ = some (.slice A0_3 l0_3.length c0_3):=(blk_cell BK130.out 3).trans rfl;have hfz11_0:=blk_frozen BK130.out 0;have hfz11_1:=blk_frozen BK130.out 1;have hfz11_2:=blk_frozen BK130.out 2;have hfz11_3:=blk_frozen BK130.out 3)|((with_reducible refine gate_callee (f:=106) rfl ?_);refine goesL_ (some 9) rfl rfl Try.func106 (by kernel_rfl) rfl #[.int .i64 a0_2,.int .i64 0,.int .i64 99999] rfl (by (try simp only [List.map_toArray,List.map_cons,List.map_nil]);first|done|rfl|(simp only [List.length_drop,List.length_take];rfl)) ?_;(with_reducible refine (spec_l01In.calls a0_2 0 99999 false _ A3.out).mono ?_);rintro e w' ⟨rfl,⟨nd,rfl⟩⟩;refine ⟨_,rfl,?_⟩))
   go_ret
   exact ⟨by first|rfl|(simp [errW_none,errW_some] <;> rfl)|(simp [*,errW_none,errW_some] <;> rfl),by repeat (first|(with_reducible first|exact HB.out|apply below_alloc|apply pw_below_drewN|apply below_drew1|refine below_set ?_ GE130.out)|exact HB.out)⟩
 ·rw [if_neg c2] at H
  have c2b0 : (a0_0 == 1) = false:=beq_eq_false_iff_ne.mpr c2
  have c2b1 : (a0_0 != 1) = true:=bne_iff_ne.mpr c2
  by_cases c12 : a0_0 = 2
  ·rw [if_pos c12] at H
   have c12b0 : (a0_0 == 2) = true:=beq_iff_eq.mpr c12
   have c12b1 : (a0_0 != 2) = false:=bne_eq_false_iff_eq.mpr c12
   clear c12
   replace H:=Option.bind_eq_some_iff.mp H
   obtain ⟨t132,A130,H⟩:=H
   replace H : (if t132 = true then (if a0_2 = 0 then (some ((l0_3.length : Int) == 0)) else (some false)) else (some false)) = some r:=H
   have A13:=Aside0.mk A130
   clear A130
   by_cases c14 : t132 = true
   ·subst c14
    have H1 : (if a0_2 = 0 then (some ((l0_3.length : Int) == 0)) else (some false)) = some r:=by rw [if_pos rfl] at H;exact H
    clear H
    have H:=H1
    clear H1
    by_cases c15 : a0_2 = 0
    ·rw [if_pos c15] at H
     have c15b0 : (a0_2 == 0) = true:=beq_iff_eq.mpr c15
     have c15b1 : (a0_2 != 0) = false:=bne_eq_false_iff_eq.mpr c15
     clear c15
     obtain rfl:=Option.some.inj H
     go_enter Try.func107,Try.ntmps107
     go_wp2_with (first|((with_reducible refine gate_dst (N:=1) rfl ?_);(try (refine gate_guard (by rfl) ?_;dsimp only));refine box_event ?hg (N:=1) ?hd (cs:=#[.int .i64 a0_0,.string a0_1,.int .i64 a0_2,.slice A0_3 l0_3.length c0_3]) (t:=29) ?hr ?_;(case hd => rfl);(case hg => rfl);(case hr => first|(go_simp;done)|(go_simp;rfl));intro gb130 hg w16 hbox hb;have n0_:=Aside0.mk (below_step (by repeat (first|(with_reducible first|exact HB.out|apply below_alloc|apply pw_below_drewN|apply below_drew1)|exact HB.out)) hb);have n1_:=Aside0.mk (hbox);have n2_:=Aside0.mk ((by rw [hg];exact (below_size (by repeat (first|(with_reducible first|exact HB.out|apply below_alloc|apply pw_below_drewN|apply below_drew1)|exact HB.out))) : w.heap.size ≤ gb130));have n3_:=Aside0.mk ((by rw [hg];exact (below_size (by repeat (first|(with_reducible first|exact HB.out|apply below_alloc|apply pw_below_drewN|apply below_drew1)|exact HB.out))) : w.heap.size ≤ gb130));clear HB;have HB:=n0_;have BK130:=n1_;have GW130:=n2_;have GE130:=n3_;clear n0_ n1_ n2_ n3_;clear hb hbox hg;have hcz17_0 : w16.cell? ⟨gb130,0,none⟩ = some (.int .i64 a0_0):=(blk_cell BK130.out 0).trans rfl;have hcz17_1 : w16.cell? ⟨gb130,1,none⟩ = some (.string a0_1):=(blk_cell BK130.out 1).trans rfl;have hcz17_2 : w16.cell? ⟨gb130,2,none⟩ = some (.int .i64 a0_2):=(blk_cell BK130.out 2).trans rfl;have hcz17_3 : w16.cell? ⟨gb130,3,none⟩ = some (.slice A0_3 l0_3.length c0_3):=(blk_cell BK130.out 3).trans rfl;have hfz17_0:=blk_frozen BK130.out 0;have hfz17_1:=blk_frozen BK130.out 1;have hfz17_2:=blk_frozen BK130.out 2;have hfz17_3:=blk_frozen BK130.out 3)|((with_reducible refine gate_callee (f:=68) rfl ?_);refine goesL_ (some 25) rfl rfl Try.func68 (by kernel_rfl) rfl #[.string a0_1] rfl (by (try simp only [List.map_toArray,List.map_cons,List.map_nil]);first|done|rfl|(simp only [List.length_drop,List.length_take];rfl)) ?_;(with_reducible refine (spec_l03Name.calls k a0_1 true _ A13.out).mono ?_);rintro e w' ⟨rfl,⟨nd,rfl⟩⟩;refine ⟨_,rfl,?_⟩))
     go_ret
     exact ⟨by first|rfl|(simp [errW_none,errW_some] <;> rfl)|(simp [*,errW_none,errW_some] <;> rfl),by repeat (first|(with_reducible first|exact HB.out|apply below_alloc|apply pw_below_drewN|apply below_drew1|refine below_set ?_ GE130.out)|exact HB.out)⟩
    ·rw [if_neg c15] at H
     have c15b0 : (a0_2 == 0) = false:=beq_eq_false_iff_ne.mpr c15
     have c15b1 : (a0_2 != 0) = true:=bne_iff_ne.mpr c15
     obtain rfl:=Option.some.inj H
     go_enter Try.func107,Try.ntmps107
     go_wp2_with (first|((with_reducible refine gate_dst (N:=1) rfl ?_);(try (refine gate_guard (by rfl) ?_;dsimp only));refine box_event ?hg (N:=1) ?hd (cs:=#[.int .i64 a0_0,.string a0_1,.int .i64 a0_2,.slice A0_3 l0_3.length c0_3]) (t:=29) ?hr ?_;(case hd => rfl);(case hg => rfl);(case hr => first|(go_simp;done)|(go_simp;rfl));intro gb130 hg w18 hbox hb;have n0_:=Aside0.mk (below_step (by repeat (first|(with_reducible first|exact HB.out|apply below_alloc|apply pw_below_drewN|apply below_drew1)|exact HB.out)) hb);have n1_:=Aside0.mk (hbox);have n2_:=Aside0.mk ((by rw [hg];exact (below_size (by repeat (first|(with_reducible first|exact HB.out|apply below_alloc|apply pw_below_drewN|apply below_drew1)|exact HB.out))) : w.heap.size ≤ gb130));have n3_:=Aside0.mk ((by rw [hg];exact (below_size (by repeat (first|(with_reducible first|exact HB.out|apply below_alloc|apply pw_below_drewN|apply below_drew1)|exact HB.out))) : w.heap.size ≤ gb130));clear HB;have HB:=n0_;have BK130:=n1_;have GW130:=n2_;have GE130:=n3_;clear n0_ n1_ n2_ n3_;clear hb hbox hg;have hcz19_0 : w18.cell? ⟨gb130,0,none⟩ = some (.int .i64 a0_0):=(blk_cell BK130.out 0).trans rfl;have hcz19_1 : w18.cell? ⟨gb130,1,none⟩ = some (.string a0_1):=(blk_cell BK130.out 1).trans rfl;have hcz19_2 : w18.cell? ⟨gb130,2,none⟩ = some (.int .i64 a0_2):=(blk_cell BK130.out 2).trans rfl;have hcz19_3 : w18.cell? ⟨gb130,3,none⟩ = some (.slice A0_3 l0_3.length c0_3):=(blk_cell BK130.out 3).trans rfl;have hfz19_0:=blk_frozen BK130.out 0;have hfz19_1:=blk_frozen BK130.out 1;have hfz19_2:=blk_frozen BK130.out 2;have hfz19_3:=blk_frozen BK130.out 3)|((with_reducible refine gate_callee (f:=68) rfl ?_);refine goesL_ (some 25) rfl rfl Try.func68 (by kernel_rfl) rfl #[.string a0_1] rfl (by (try simp only [List.map_toArray,List.map_cons,List.map_nil]);first|done|rfl|(simp only [List.length_drop,List.length_take];rfl)) ?_;(with_reducible refine (spec_l03Name.calls k a0_1 true _ A13.out).mono ?_);rintro e w' ⟨rfl,⟨nd,rfl⟩⟩;refine ⟨_,rfl,?_⟩))
     go_ret
     exact ⟨by first|rfl|(simp [errW_none,errW_some] <;> rfl)|(simp [*,errW_none,errW_some] <;> rfl),by repeat (first|(with_reducible first|exact HB.out|apply below_alloc|apply pw_below_drewN|apply below_drew1|refine below_set ?_ GE130.out)|exact HB.out)⟩
   ·replace c14:=Bool.eq_false_iff.mpr c14
    subst c14
    have H1 : (some false) = some r:=by rw [if_neg (show ¬ (false = true) by decide)] at H;exact H
    clear H
    have H:=H1
    clear H1
    obtain rfl:=Option.some.inj H
    go_enter Try.func107,Try.ntmps107
    go_wp2_with (first|((with_reducible refine gate_dst (N:=1) rfl ?_);(try (refine gate_guard (by rfl) ?_;dsimp only));refine box_event ?hg (N:=1) ?hd (cs:=#[.int .i64 a0_0,.string a0_1,.int .i64 a0_2,.slice A0_3 l0_3.length c0_3]) (t:=29) ?hr ?_;(case hd => rfl);(case hg => rfl);(case hr => first|(go_simp;done)|(go_simp;rfl));intro gb130 hg w20 hbox hb;have n0_:=Aside0.mk (below_step (by repeat (first|(with_reducible first|exact HB.out|apply below_alloc|apply pw_below_drewN|apply below_drew1)|exact HB.out)) hb);have n1_:=Aside0.mk (hbox);have n2_:=Aside0.mk ((by rw [hg];exact (below_size (by repeat (first|(with_reducible first|exact HB.out|apply below_alloc|apply pw_below_drewN|apply below_drew1)|exact HB.out))) : w.heap.size ≤ gb130));have n3_:=Aside0.mk ((by rw [hg];exact (below_size (by repeat (first|(with_reducible first|exact HB.out|apply below_alloc|apply pw_below_drewN|apply below_drew1)|exact HB.out))) : w.heap.size ≤ gb130));clear HB;have HB:=n0_;have BK130:=n1_;have GW130:=n2_;have GE130:=n3_;clear n0_ n1_ n2_ n3_;clear hb hbox hg;have hcz21_0 : w20.cell? ⟨gb130,0,none⟩ = some (.int .i64 a0_0):=(blk_cell BK130.out 0).trans rfl;have hcz21_1 : w20.cell? ⟨gb130,1,none⟩ = some (.string a0_1):=(blk_cell BK130.out 1).trans rfl;have hcz21_2 : w20.cell? ⟨gb130,2,none⟩ = some (.int .i64 a0_2):=(blk_cell BK130.out 2).trans rfl;have hcz21_3 : w20.cell? ⟨gb130,3,none⟩ = some (.slice A0_3 l0_3.length c0_3):=(blk_cell BK130.out 3).trans rfl;have hfz21_0:=blk_frozen BK130.out 0;have hfz21_1:=blk_frozen BK130.out 1;have hfz21_2:=blk_frozen BK130.out 2;have hfz21_3:=blk_frozen BK130.out 3)|((with_reducible refine gate_callee (f:=68) rfl ?_);refine goesL_ (some 25) rfl rfl Try.func68 (by kernel_rfl) rfl #[.string a0_1] rfl (by (try simp only [List.map_toArray,List.map_cons,List.map_nil]);first|done|rfl|(simp only [List.length_drop,List.length_take];rfl)) ?_;(with_reducible refine (spec_l03Name.calls k a0_1 false _ A13.out).mono ?_);rintro e w' ⟨rfl,⟨nd,rfl⟩⟩;refine ⟨_,rfl,?_⟩))
    go_ret
    exact ⟨by first|rfl|(simp [errW_none,errW_some] <;> rfl)|(simp [*,errW_none,errW_some] <;> rfl),by repeat (first|(with_reducible first|exact HB.out|apply below_alloc|apply pw_below_drewN|apply below_drew1|refine below_set ?_ GE130.out)|exact HB.out)⟩
  ·rw [if_neg c12] at H
   have c12b0 : (a0_0 == 2) = false:=beq_eq_false_iff_ne.mpr c12
   have c12b1 : (a0_0 != 2) = true:=bne_iff_ne.mpr c12
   by_cases c22 : a0_0 = 3
   ·rw [if_pos c22] at H
    have c22b0 : (a0_0 == 3) = true:=beq_iff_eq.mpr c22
    have c22b1 : (a0_0 != 3) = false:=bne_eq_false_iff_eq.mpr c22
    clear c22
    replace H:=Option.bind_eq_some_iff.mp H
    obtain ⟨t133,A230,H⟩:=H
    replace H : (if t133 = true then (if a0_1.toList = ([] : List UInt8) then (some ((l0_3.length : Int) == 0)) else (some false)) else (some false)) = some r:=H
    have A23:=Aside0.mk A230
    clear A230
    by_cases c24 : t133 = true
    ·subst c24
     have H1 : (if a0_1.toList = ([] : List UInt8) then (some ((l0_3.length : Int) == 0)) else (some false)) = some r:=by rw [if_pos rfl] at H;exact H
     clear H
     have H:=H1
     clear H1
     by_cases c25 : a0_1.toList = ([] : List UInt8)
     ·rw [if_pos c25] at H
      have c25b0 : (a0_1.toList == ([] : List UInt8)) = true:=beq_iff_eq.mpr c25
      have c25b1 : (a0_1.toList != ([] : List UInt8)) = false:=bne_eq_false_iff_eq.mpr c25
      clear c25
      obtain rfl:=Option.some.inj H
      go_enter Try.func107,Try.ntmps107
      go_wp2_with (first|((with_reducible refine gate_dst (N:=1) rfl ?_);(try (refine gate_guard (by rfl) ?_;dsimp only));refine box_event ?hg (N:=1) ?hd (cs:=#[.int .i64 a0_0,.string a0_1,.int .i64 a0_2,.slice A0_3 l0_3.length c0_3]) (t:=29) ?hr ?_;(case hd => rfl);(case hg => rfl);(case hr => first|(go_simp;done)|(go_simp;rfl));intro gb130 hg w26 hbox hb;have n0_:=Aside0.mk (below_step (by repeat (first|(with_reducible first|exact HB.out|apply below_alloc|apply pw_below_drewN|apply below_drew1)|exact HB.out)) hb);have n1_:=Aside0.mk (hbox);have n2_:=Aside0.mk ((by rw [hg];exact (below_size (by repeat (first|(with_reducible first|exact HB.out|apply below_alloc|apply pw_below_drewN|apply below_drew1)|exact HB.out))) : w.heap.size ≤ gb130));have n3_:=Aside0.mk ((by rw [hg];exact (below_size (by repeat (first|(with_reducible first|exact HB.out|apply below_alloc|apply pw_below_drewN|apply below_drew1)|exact HB.out))) : w.heap.size ≤ gb130));clear HB;have HB:=n0_;have BK130:=n1_;have GW130:=n2_;have GE130:=n3_;clear n0_ n1_ n2_ n3_;clear hb hbox hg;have hcz27_0 : w26.cell? ⟨gb130,0,none⟩ = some (.int .i64 a0_0):=(blk_cell BK130.out 0).trans rfl;have hcz27_1 : w26.cell? ⟨gb130,1,none⟩ = some (.string a0_1):=(blk_cell BK130.out 1).trans rfl;have hcz27_2 : w26.cell? ⟨gb130,2,none⟩ = some (.int .i64 a0_2):=(blk_cell BK130.out 2).trans rfl;have hcz27_3 : w26.cell? ⟨gb130,3,none⟩ = some (.slice A0_3 l0_3.length c0_3):=(blk_cell BK130.out 3).trans rfl;have hfz27_0:=blk_frozen BK130.out 0;have hfz27_1:=blk_frozen BK130.out 1;have hfz27_2:=blk_frozen BK130.out 2;have hfz27_3:=blk_frozen BK130.out 3)|((with_reducible refine gate_callee (f:=106) rfl ?_);refine goesL_ (some 41) rfl rfl Try.func106 (by kernel_rfl) rfl #[.int .i64 a0_2,.int .i64 (-999999999),.int .i64 999999999] rfl (by (try simp only [List.map_toArray,List.map_cons,List.map_nil]);first|done|rfl|(simp only [List.length_drop,List.length_take];rfl)) ?_;(with_reducible refine (spec_l01In.calls a0_2 (-999999999) 999999999 true _ A23.out).mono ?_);rintro e w' ⟨rfl,⟨nd,rfl⟩⟩;refine ⟨_,rfl,?_⟩))
      go_ret
      exact ⟨by first|rfl|(simp [errW_none,errW_some] <;> rfl)|(simp [*,errW_none,errW_some] <;> rfl),by repeat (first|(with_reducible first|exact HB.out|apply below_alloc|apply pw_below_drewN|apply below_drew1|refine below_set ?_ GE130.out)|exact HB.out)⟩
     ·rw [if_neg c25] at H
      have c25b0 : (a0_1.toList == ([] : List UInt8)) = false:=beq_eq_false_iff_ne.mpr c25
      have c25b1 : (a0_1.toList != ([] : List UInt8)) = true:=bne_iff_ne.mpr c25
      obtain rfl:=Option.some.inj H
      go_enter Try.func107,Try.ntmps107
      go_wp2_with (first|((with_reducible refine gate_dst (N:=1) rfl ?_);(try (refine gate_guard (by rfl) ?_;dsimp only));refine box_event ?hg (N:=1) ?hd (cs:=#[.int .i64 a0_0,.string a0_1,.int .i64 a0_2,.slice A0_3 l0_3.length c0_3]) (t:=29) ?hr ?_;(case hd => rfl);(case hg => rfl);(case hr => first|(go_simp;done)|(go_simp;rfl));intro gb130 hg w28 hbox hb;have n0_:=Aside0.mk (below_step (by repeat (first|(with_reducible first|exact HB.out|apply below_alloc|apply pw_below_drewN|apply below_drew1)|exact HB.out)) hb);have n1_:=Aside0.mk (hbox);have n2_:=Aside0.mk ((by rw [hg];exact (below_size (by repeat (first|(with_reducible first|exact HB.out|apply below_alloc|apply pw_below_drewN|apply below_drew1)|exact HB.out))) : w.heap.size ≤ gb130));have n3_:=Aside0.mk ((by rw [hg];exact (below_size (by repeat (first|(with_reducible first|exact HB.out|apply below_alloc|apply pw_below_drewN|apply below_drew1)|exact HB.out))) : w.heap.size ≤ gb130));clear HB;have HB:=n0_;have BK130:=n1_;have GW130:=n2_;have GE130:=n3_;clear n0_ n1_ n2_ n3_;clear hb hbox hg;have hcz29_0 : w28.cell? ⟨gb130,0,none⟩ = some (.int .i64 a0_0):=(blk_cell BK130.out 0).trans rfl;have hcz29_1 : w28.cell? ⟨gb130,1,none⟩ = some (.string a0_1):=(blk_cell BK130.out 1).trans rfl;have hcz29_2 : w28.cell? ⟨gb130,2,none⟩ = some (.int .i64 a0_2):=(blk_cell BK130.out 2).trans rfl;have hcz29_3 : w28.cell? ⟨gb130,3,none⟩ = some (.slice A0_3 l0_3.length c0_3):=(blk_cell BK130.out 3).trans rfl;have hfz29_0:=blk_frozen BK130.out 0;have hfz29_1:=blk_frozen BK130.out 1;have hfz29_2:=blk_frozen BK130.out 2;have hfz29_3:=blk_frozen BK130.out 3)|((with_reducible refine gate_callee (f:=106) rfl ?_);refine goesL_ (some 41) rfl rfl Try.func106 (by kernel_rfl) rfl #[.int .i64 a0_2,.int .i64 (-999999999),.int .i64 999999999] rfl (by (try simp only [List.map_toArray,List.map_cons,List.map_nil]);first|done|rfl|(simp only [List.length_drop,List.length_take];rfl)) ?_;(with_reducible refine (spec_l01In.calls a0_2 (-999999999) 999999999 true _ A23.out).mono ?_);rintro e w' ⟨rfl,⟨nd,rfl⟩⟩;refine ⟨_,rfl,?_⟩))
      go_ret
      exact ⟨by first|rfl|(simp [errW_none,errW_some] <;> rfl)|(simp [*,errW_none,errW_some] <;> rfl),by repeat (first|(with_reducible first|exact HB.out|apply below_alloc|apply pw_below_drewN|apply below_drew1|refine below_set ?_ GE130.out)|exact HB.out)⟩
    ·replace c24:=Bool.eq_false_iff.mpr c24
     subst c24
     have H1 : (some false) = some r:=by rw [if_neg (show ¬ (false = true) by decide)] at H;exact H
     clear H
     have H:=H1
     clear H1
     obtain rfl:=Option.some.inj H
     go_enter Try.func107,Try.ntmps107
     go_wp2_with (first|((with_reducible refine gate_dst (N:=1) rfl ?_);(try (refine gate_guard (by rfl) ?_;dsimp only));refine box_event ?hg (N:=1) ?hd (cs:=#[.int .i64 a0_0,.string a0_1,.int .i64 a0_2,.slice A0_3 l0_3.length c0_3]) (t:=29) ?hr ?_;(case hd => rfl);(case hg => rfl);(case hr => first|(go_simp;done)|(go_simp;rfl));intro gb130 hg w30 hbox hb;have n0_:=Aside0.mk (below_step (by repeat (first|(with_reducible first|exact HB.out|apply below_alloc|apply pw_below_drewN|apply below_drew1)|exact HB.out)) hb);have n1_:=Aside0.mk (hbox);have n2_:=Aside0.mk ((by rw [hg];exact (below_size (by repeat (first|(with_reducible first|exact HB.out|apply below_alloc|apply pw_below_drewN|apply below_drew1)|exact HB.out))) : w.heap.size ≤ gb130));have n3_:=Aside0.mk ((by rw [hg];exact (below_size (by repeat (first|(with_reducible first|exact HB.out|apply below_alloc|apply pw_below_drewN|apply below_drew1)|exact HB.out))) : w.heap.size ≤ gb130));clear HB;have HB:=n0_;have BK130:=n1_;have GW130:=n2_;have GE130:=n3_;clear n0_ n1_ n2_ n3_;clear hb hbox hg;have hcz31_0 : w30.cell? ⟨gb130,0,none⟩ = some (.int .i64 a0_0):=(blk_cell BK130.out 0).trans rfl;have hcz31_1 : w30.cell? ⟨gb130,1,none⟩ = some (.string a0_1):=(blk_cell BK130.out 1).trans rfl;have hcz31_2 : w30.cell? ⟨gb130,2,none⟩ = some (.int .i64 a0_2):=(blk_cell BK130.out 2).trans rfl;have hcz31_3 : w30.cell? ⟨gb130,3,none⟩ = some (.slice A0_3 l0_3.length c0_3):=(blk_cell BK130.out 3).trans rfl;have hfz31_0:=blk_frozen BK130.out 0;have hfz31_1:=blk_frozen BK130.out 1;have hfz31_2:=blk_frozen BK130.out 2;have hfz31_3:=blk_frozen BK130.out 3)|((with_reducible refine gate_callee (f:=106) rfl ?_);refine goesL_ (some 41) rfl rfl Try.func106 (by kernel_rfl) rfl #[.int .i64 a0_2,.int .i64 (-999999999),.int .i64 999999999] rfl (by (try simp only [List.map_toArray,List.map_cons,List.map_nil]);first|done|rfl|(simp only [List.length_drop,List.length_take];rfl)) ?_;(with_reducible refine (spec_l01In.calls a0_2 (-999999999) 999999999 false _ A23.out).mono ?_);rintro e w' ⟨rfl,⟨nd,rfl⟩⟩;refine ⟨_,rfl,?_⟩))
     go_ret
     exact ⟨by first|rfl|(simp [errW_none,errW_some] <;> rfl)|(simp [*,errW_none,errW_some] <;> rfl),by repeat (first|(with_reducible first|exact HB.out|apply below_alloc|apply pw_below_drewN|apply below_drew1|refine below_set ?_ GE130.out)|exact HB.out)⟩
   ·rw [if_neg c22] at H
    have c22b0 : (a0_0 == 3) = false:=beq_eq_false_iff_ne.mpr c22
    have c22b1 : (a0_0 != 3) = true:=bne_iff_ne.mpr c22
    by_cases c32 : a0_0 = 4
    ·rw [if_pos c32] at H
     have c32b0 : (a0_0 == 4) = true:=beq_iff_eq.mpr c32
     have c32b1 : (a0_0 != 4) = false:=bne_eq_false_iff_eq.mpr c32
     clear c32
     replace H:=Option.bind_eq_some_iff.mp H
     obtain ⟨t134,A330,H⟩:=H
     replace H : (if t134 = true then (if a0_2 = 0 then ((spec_l01In.f (l0_3.length : Int) 1 5).bind fun t135 => (some t135)) else (some false)) else (some false)) = some r:=H
     have A33:=Aside0.mk A330
     clear A330
     by_cases c34 : t134 = true
     ·subst c34
      have H1 : (if a0_2 = 0 then ((spec_l01In.f (l0_3.length : Int) 1 5).bind fun t135 => (some t135)) else (some false)) = some r:=by rw [if_pos rfl] at H;exact H
      clear H
      have H:=H1
      clear H1
      by_cases c35 : a0_2 = 0
      ·rw [if_pos c35] at H
       have c35b0 : (a0_2 == 0) = true:=beq_iff_eq.mpr c35
       have c35b1 : (a0_2 != 0) = false:=bne_eq_false_iff_eq.mpr c35
       clear c35
       replace H:=Option.bind_eq_some_iff.mp H
       obtain ⟨t135,A360,H⟩:=H
       replace H : (some t135) = some r:=H
       have A36:=Aside0.mk A360
       clear A360
       obtain rfl:=Option.some.inj H
       go_enter Try.func107,Try.ntmps107
       go_wp2_with (first|((with_reducible refine gate_dst (N:=1) rfl ?_);(try (refine gate_guard (by rfl) ?_;dsimp only));refine box_event ?hg (N:=1) ?hd (cs:=#[.int .i64 a0_0,.string a0_1,.int .i64 a0_2,.slice A0_3 l0_3.length c0_3]) (t:=29) ?hr ?_;(case hd => rfl);(case hg => rfl);(case hr => first|(go_simp;done)|(go_simp;rfl));intro gb130 hg w37 hbox hb;have n0_:=Aside0.mk (below_step (by repeat (first|(with_reducible first|exact HB.out|apply below_alloc|apply pw_below_drewN|apply below_drew1)|exact HB.out)) hb);have n1_:=Aside0.mk (hbox);have n2_:=Aside0.mk ((by rw [hg];exact (below_size (by repeat (first|(with_reducible first|exact HB.out|apply below_alloc|apply pw_below_drewN|apply below_drew1)|exact HB.out))) : w.heap.size ≤ gb130));have n3_:=Aside0.mk ((by rw [hg];exact (below_size (by repeat (first|(with_reducible first|exact HB.out|apply below_alloc|apply pw_below_drewN|apply below_drew1)|exact HB.out))) : w.heap.size ≤ gb130));clear HB;have HB:=n0_;have BK130:=n1_;have GW130:=n2_;have GE130:=n3_;clear n0_ n1_ n2_ n3_;clear hb hbox hg;have hcz38_0 : w37.cell? ⟨gb130,0,none⟩ = some (.int .i64 a0_0):=(blk_cell BK130.out 0).trans rfl;have hcz38_1 : w37.cell? ⟨gb130,1,none⟩ = some (.string a0_1):=(blk_cell BK130.out 1).trans rfl;have hcz38_2 : w37.cell? ⟨gb130,2,none⟩ = some (.int .i64 a0_2):=(blk_cell BK130.out 2).trans rfl;have hcz38_3 : w37.cell? ⟨gb130,3,none⟩ = some (.slice A0_3 l0_3.length c0_3):=(blk_cell BK130.out 3).trans rfl;have hfz38_0:=blk_frozen BK130.out 0;have hfz38_1:=blk_frozen BK130.out 1;have hfz38_2:=blk_frozen BK130.out 2;have hfz38_3:=blk_frozen BK130.out 3)|((with_reducible refine gate_callee (f:=68) rfl ?_);refine goesL_ (some 57) rfl rfl Try.func68 (by kernel_rfl) rfl #[.string a0_1] rfl (by (try simp only [List.map_toArray,List.map_cons,List.map_nil]);first|done|rfl|(simp only [List.length_drop,List.length_take];rfl)) ?_;(with_reducible refine (spec_l03Name.calls k a0_1 true _ A33.out).mono ?_);rintro e w' ⟨rfl,⟨nd,rfl⟩⟩;refine ⟨_,rfl,?_⟩)|(go_at_call 106;(with_reducible refine (spec_l01In.calls (l0_3.length : Int) 1 5 t135 _ A36.out).mono ?_);rintro e w' ⟨rfl,⟨nd,rfl⟩⟩))
       go_ret
       exact ⟨by first|rfl|(simp [errW_none,errW_some] <;> rfl)|(simp [*,errW_none,errW_some] <;> rfl),by repeat (first|(with_reducible first|exact HB.out|apply below_alloc|apply pw_below_drewN|apply below_drew1|refine below_set ?_ GE130.out)|exact HB.out)⟩
      ·rw [if_neg c35] at H
       have c35b0 : (a0_2 == 0) = false:=beq_eq_false_iff_ne.mpr c35
       have c35b1 : (a0_2 != 0) = true:=bne_iff_ne.mpr c35
       obtain rfl:=Option.some.inj H
       go_enter Try.func107,Try.ntmps107
       go_wp2_with (first|((with_reducible refine gate_dst (N:=1) rfl ?_);(try (refine gate_guard (by rfl) ?_;dsimp only));refine box_event ?hg (N:=1) ?hd (cs:=#[.int .i64 a0_0,.string a0_1,.int .i64 a0_2,.slice A0_3 l0_3.length c0_3]) (t:=29) ?hr ?_;(case hd => rfl);(case hg => rfl);(case hr => first|(go_simp;done)|(go_simp;rfl));intro gb130 hg w39 hbox hb;have n0_:=Aside0.mk (below_step (by repeat (first|(with_reducible first|exact HB.out|apply below_alloc|apply pw_below_drewN|apply below_drew1)|exact HB.out)) hb);have n1_:=Aside0.mk (hbox);have n2_:=Aside0.mk ((by rw [hg];exact (below_size (by repeat (first|(with_reducible first|exact HB.out|apply below_alloc|apply pw_below_drewN|apply below_drew1)|exact HB.out))) : w.heap.size ≤ gb130));have n3_:=Aside0.mk ((by rw [hg];exact (below_size (by repeat (first|(with_reducible first|exact HB.out|apply below_alloc|apply pw_below_drewN|apply below_drew1)|exact HB.out))) : w.heap.size ≤ gb130));clear HB;have HB:=n0_;have BK130:=n1_;have GW130:=n2_;have GE130:=n3_;clear n0_ n1_ n2_ n3_;clear hb hbox hg;have hcz40_0 : w39.cell? ⟨gb130,0,none⟩ = some (.int .i64 a0_0):=(blk_cell BK130.out 0).trans rfl;have hcz40_1 : w39.cell? ⟨gb130,1,none⟩ = some (.string a0_1):=(blk_cell BK130.out 1).trans rfl;have hcz40_2 : w39.cell? ⟨gb130,2,none⟩ = some (.int .i64 a0_2):=(blk_cell BK130.out 2).trans rfl;have hcz40_3 : w39.cell? ⟨gb130,3,none⟩ = some (.slice A0_3 l0_3.length c0_3):=(blk_cell BK130.out 3).trans rfl;have hfz40_0:=blk_frozen BK130.out 0;have hfz40_1:=blk_frozen BK130.out 1;have hfz40_2:=blk_frozen BK130.out 2;have hfz40_3:=blk_frozen BK130.out 3)|((with_reducible refine gate_callee (f:=68) rfl ?_);refine goesL_ (some 57) rfl rfl Try.func68 (by kernel_rfl) rfl #[.string a0_1] rfl (by (try simp only [List.map_toArray,List.map_cons,List.map_nil]);first|done|rfl|(simp only [List.length_drop,List.length_take];rfl)) ?_;(with_reducible refine (spec_l03Name.calls k a0_1 true _ A33.out).mono ?_);rintro e w' ⟨rfl,⟨nd,rfl⟩⟩;refine ⟨_,rfl,?_⟩))
       go_ret
       exact ⟨by first|rfl|(simp [errW_none,errW_some] <;> rfl)|(simp [*,errW_none,errW_some] <;> rfl),by repeat (first|(with_reducible first|exact HB.out|apply below_alloc|apply pw_below_drewN|apply below_drew1|refine below_set ?_ GE130.out)|exact HB.out)⟩
     ·replace c34:=Bool.eq_false_iff.mpr c34
      subst c34
      have H1 : (some false) = some r:=by rw [if_neg (show ¬ (false = true) by decide)] at H;exact H
      clear H
      have H:=H1
      clear H1
      obtain rfl:=Option.some.inj H
      go_enter Try.func107,Try.ntmps107
      go_wp2_with (first|((with_reducible refine gate_dst (N:=1) rfl ?_);(try (refine gate_guard (by rfl) ?_;dsimp only));refine box_event ?hg (N:=1) ?hd (cs:=#[.int .i64 a0_0,.string a0_1,.int .i64 a0_2,.slice A0_3 l0_3.length c0_3]) (t:=29) ?hr ?_;(case hd => rfl);(case hg => rfl);(case hr => first|(go_simp;done)|(go_simp;rfl));intro gb130 hg w41 hbox hb;have n0_:=Aside0.mk (below_step (by repeat (first|(with_reducible first|exact HB.out|apply below_alloc|apply pw_below_drewN|apply below_drew1)|exact HB.out)) hb);have n1_:=Aside0.mk (hbox);have n2_:=Aside0.mk ((by rw [hg];exact (below_size (by repeat (first|(with_reducible first|exact HB.out|apply below_alloc|apply pw_below_drewN|apply below_drew1)|exact HB.out))) : w.heap.size ≤ gb130));have n3_:=Aside0.mk ((by rw [hg];exact (below_size (by repeat (first|(with_reducible first|exact HB.out|apply below_alloc|apply pw_below_drewN|apply below_drew1)|exact HB.out))) : w.heap.size ≤ gb130));clear HB;have HB:=n0_;have BK130:=n1_;have GW130:=n2_;have GE130:=n3_;clear n0_ n1_ n2_ n3_;clear hb hbox hg;have hcz42_0 : w41.cell? ⟨gb130,0,none⟩ = some (.int .i64 a0_0):=(blk_cell BK130.out 0).trans rfl;have hcz42_1 : w41.cell? ⟨gb130,1,none⟩ = some (.string a0_1):=(blk_cell BK130.out 1).trans rfl;have hcz42_2 : w41.cell? ⟨gb130,2,none⟩ = some (.int .i64 a0_2):=(blk_cell BK130.out 2).trans rfl;have hcz42_3 : w41.cell? ⟨gb130,3,none⟩ = some (.slice A0_3 l0_3.length c0_3):=(blk_cell BK130.out 3).trans rfl;have hfz42_0:=blk_frozen BK130.out 0;have hfz42_1:=blk_frozen BK130.out 1;have hfz42_2:=blk_frozen BK130.out 2;have hfz42_3:=blk_frozen BK130.out 3)|((with_reducible refine gate_callee (f:=68) rfl ?_);refine goesL_ (some 57) rfl rfl Try.func68 (by kernel_rfl) rfl #[.string a0_1] rfl (by (try simp only [List.map_toArray,List.map_cons,List.map_nil]);first|done|rfl|(simp only [List.length_drop,List.length_take];rfl)) ?_;(with_reducible refine (spec_l03Name.calls k a0_1 false _ A33.out).mono ?_);rintro e w' ⟨rfl,⟨nd,rfl⟩⟩;refine ⟨_,rfl,?_⟩))
      go_ret
      exact ⟨by first|rfl|(simp [errW_none,errW_some] <;> rfl)|(simp [*,errW_none,errW_some] <;> rfl),by repeat (first|(with_reducible first|exact HB.out|apply below_alloc|apply pw_below_drewN|apply below_drew1|refine below_set ?_ GE130.out)|exact HB.out)⟩
    ·rw [if_neg c32] at H
     have c32b0 : (a0_0 == 4) = false:=beq_eq_false_iff_ne.mpr c32
     have c32b1 : (a0_0 != 4) = true:=bne_iff_ne.mpr c32
     obtain rfl:=Option.some.inj H
     go_enter Try.func107,Try.ntmps107
     go_wp2_with (first|((with_reducible refine gate_dst (N:=1) rfl ?_);(try (refine gate_guard (by rfl) ?_;dsimp only));refine box_event ?hg (N:=1) ?hd (cs:=#[.int .i64 a0_0,.string a0_1,.int .i64 a0_2,.slice A0_3 l0_3.length c0_3]) (t:=29) ?hr ?_;(case hd => rfl);(case hg => rfl);(case hr => first|(go_simp;done)|(go_simp;rfl));intro gb130 hg w43 hbox hb;have n0_:=Aside0.mk (below_step (by repeat (first|(with_reducible first|exact HB.out|apply below_alloc|apply pw_below_drewN|apply below_drew1)|exact HB.out)) hb);have n1_:=Aside0.mk (hbox);have n2_:=Aside0.mk ((by rw [hg];exact (below_size (by repeat (first|(with_reducible first|exact HB.out|apply below_alloc|apply pw_below_drewN|apply below_drew1)|exact HB.out))) : w.heap.size ≤ gb130));have n3_:=Aside0.mk ((by rw [hg];exact (below_size (by repeat (first|(with_reducible first|exact HB.out|apply below_alloc|apply pw_below_drewN|apply below_drew1)|exact HB.out))) : w.heap.size ≤ gb130));clear HB;have HB:=n0_;have BK130:=n1_;have GW130:=n2_;have GE130:=n3_;clear n0_ n1_ n2_ n3_;clear hb hbox hg;have hcz44_0 : w43.cell? ⟨gb130,0,none⟩ = some (.int .i64 a0_0):=(blk_cell BK130.out 0).trans rfl;have hcz44_1 : w43.cell? ⟨gb130,1,none⟩ = some (.string a0_1):=(blk_cell BK130.out 1).trans rfl;have hcz44_2 : w43.cell? ⟨gb130,2,none⟩ = some (.int .i64 a0_2):=(blk_cell BK130.out 2).trans rfl;have hcz44_3 : w43.cell? ⟨gb130,3,none⟩ = some (.slice A0_3 l0_3.length c0_3):=(blk_cell BK130.out 3).trans rfl;have hfz44_0:=blk_frozen BK130.out 0;have hfz44_1:=blk_frozen BK130.out 1;have hfz44_2:=blk_frozen BK130.out 2;have hfz44_3:=blk_frozen BK130.out 3))
     go_ret
     exact ⟨by first|rfl|(simp [errW_none,errW_some] <;> rfl)|(simp [*,errW_none,errW_some] <;> rfl),by repeat (first|(with_reducible first|exact HB.out|apply below_alloc|apply pw_below_drewN|apply below_drew1|refine below_set ?_ GE130.out)|exact HB.out)⟩

/-! ### spec_l04Walk: function 110 -/
def spec_l04Walk.l0 : Nat → List (S29) → Int → Int → ByteArray → Int → List (S29) → Option (Int × ByteArray × Int × (List (S29)))
 | 0,_,_,_,_,_,_ => none
 | k + 1,x0,x5,x137000,x137001,x137002,x137003 => if x5 < 5000 then (if x137000 = 1 then ((spec_l01In.f x137002 0 (wrap64 ((x0.length : Int) - 1))).bind fun t138 => (if t138 = true then (if 0 ≤ x137002 then (if x137002 < (x0.length : Int) then (if ((rd_T29 x0 x137002).f0) = 0 then (some (x137000,x137001,x137002,x137003)) else (spec_l04Walk.l0 k x0 (wrap64 (x5 + 1)) ((rd_T29 x0 x137002).f0) ((rd_T29 x0 x137002).f1) ((rd_T29 x0 x137002).f2) ((rd_T29 x0 x137002).f3))) else (none)) else (none)) else (some (x137000,x137001,x137002,x137003)))) else (some (x137000,x137001,x137002,x137003))) else (some (x137000,x137001,x137002,x137003))
def spec_l04Walk.f (k : Nat) (l0 : List (S29)) (a1_0 : Int) (a1_1 : ByteArray) (a1_2 : Int) (l1_3 : List (S29)) : Option (Int × ByteArray × Int × (List (S29))):=spec_l04Walk.l0 k l0 0 a1_0 a1_1 a1_2 l1_3
theorem spec_l04Walk.mono_l : ∀ k,(∀ y0 y1 y2 y3 y4 y5,LeO (spec_l04Walk.l0 k y0 y1 y2 y3 y4 y5) (spec_l04Walk.l0 (k + 1) y0 y1 y2 y3 y4 y5))
 | 0 => fun _ _ _ _ _ _ r h => by simp [spec_l04Walk.l0] at h
 | k + 1 => by
  have ih0:=spec_l04Walk.mono_l k
  ·intro y0 y1 y2 y3 y4 y5
   unfold spec_l04Walk.l0
   repeat' first
   | (with_reducible exact ih0 _ _ _ _ _ _)
   | (with_reducible exact LeO.refl _)
   | (with_reducible exact LeO.none _)
   | (with_reducible refine LeO.ite ?_ ?_)
   | (with_reducible refine LeO.bind ?_ (fun _ => ?_))
   | exact ih0 _ _ _ _ _ _
   | exact LeO.none _
   | refine LeO.ite ?_ ?_
   | refine LeO.bind ?_ (fun _ => ?_)
set_option maxHeartbeats 8000000 in
set_option maxRecDepth 100000 in
theorem spec_l04Walk.calls (k : Nat) (P0_ : Nat → Prop) (A0 : Option Addr) (c0 : Nat) (l0 : List (S29)) (a1_0 : Int) (a1_1 : ByteArray) (a1_2 : Int) (P1_3_ : Nat → Prop) (A1_3 : Option Addr) (c1_3 : Nat) (l1_3 : List (S29)) (r1 : Int) (r2 : ByteArray) (r3 : Int) (r4 : List (S29)) (w : World) (hs0 : Kd.V k29 29 w w.heap.size (fun k_ => P0_ k_) (.slice A0 l0.length c0) l0) (hs1_3 : Kd.V k29 29 w w.heap.size (fun k_ => P1_3_ k_) (.slice A1_3 l1_3.length c1_3) l1_3) (h : spec_l04Walk.f k l0 a1_0 a1_1 a1_2 l1_3 = some (r1,r2,r3,r4)) :
  Calls Try.prog 110 #[.slice A0 l0.length c0,.agg #[.int .i64 a1_0,.string a1_1,.int .i64 a1_2,.slice A1_3 l1_3.length c1_3]] w fun e w' => ∃ v3_ : Value,e = .returned (.agg #[.int .i64 r1,.string r2,.int .i64 r3,v3_]) ∧ Kd.V k29 29 w' w.heap.size (fun k_ => ((P0_ k_ ∨ P1_3_ k_) ∨ w.heap.size ≤ k_)) v3_ r4 ∧ Below w.heap.size w w':=by
 have hu29:=Try.underlying29
 have HO0:=Aside0.mk (show Kd.V k29 29 w w.heap.size (fun k_ => ((P0_ k_ ∨ P1_3_ k_) ∨ w.heap.size ≤ k_)) (.slice A0 l0.length c0) l0 from Kd.V_mono hs0 (fun k_ hk => .inl (.inl hk)))
 have HO1_3:=Aside0.mk (show Kd.V k29 29 w w.heap.size (fun k_ => ((P0_ k_ ∨ P1_3_ k_) ∨ w.heap.size ≤ k_)) (.slice A1_3 l1_3.length c1_3) l1_3 from Kd.V_mono hs1_3 (fun k_ hk => .inl (.inr hk)))
 have HB:=Aside0.mk (Below.refl w.heap.size w)
 have H : (spec_l04Walk.l0 k l0 0 a1_0 a1_1 a1_2 l1_3) = some (r1,r2,r3,r4):=h
 clear h
 have H':=Aside0.mk H
 clear H
 go_enter Try.func110,Try.ntmps110
 go_wp2_with (first|((with_reducible refine gate_dst (N:=3) rfl ?_);(try (refine gate_guard (by rfl) ?_;dsimp only));refine box_event ?hg (N:=3) ?hd (cs:=#[.int .i64 a1_0,.string a1_1,.int .i64 a1_2,.slice A1_3 l1_3.length c1_3]) (t:=29) ?hr ?_;(case hd => rfl);(case hg => rfl);(case hr => first|(go_simp;done)|(go_simp;rfl));intro gb136 hg w3 hbox hb;have n0_:=Aside0.mk (Kd.V_below (Kd.V_elderB (by (with_reducible repeat (first|apply Kd.V_alloc|apply Kd.V_drewN|apply Kd.V_drew));exact HO0.out) gb136 (Nat.le_of_eq hg.symm)) hb);have n1_:=Aside0.mk (Kd.V_below (Kd.V_elderB (by (with_reducible repeat (first|apply Kd.V_alloc|apply Kd.V_drewN|apply Kd.V_drew));exact HO1_3.out) gb136 (Nat.le_of_eq hg.symm)) hb);have n2_:=Aside0.mk (below_step (by repeat (first|(with_reducible first|exact HB.out|apply below_alloc|apply pw_below_drewN|apply below_drew1)|exact HB.out)) hb);have n3_:=Aside0.mk (hbox);have n4_:=Aside0.mk ((by rw [hg];exact (below_size (by repeat (first|(with_reducible first|exact HB.out|apply below_alloc|apply pw_below_drewN|apply below_drew1)|exact HB.out))) : w.heap.size ≤ gb136));have n5_:=Aside0.mk ((by rw [hg];exact (below_size (by repeat (first|(with_reducible first|exact HB.out|apply below_alloc|apply pw_below_drewN|apply below_drew1)|exact HB.out))) : w.heap.size ≤ gb136));clear HO0;clear HO1_3;clear HB;have HO0:=n0_;have HO1_3:=n1_;have HB:=n2_;have BK136:=n3_;have GW136:=n4_;have GE136:=n5_;clear n0_ n1_ n2_ n3_ n4_ n5_;clear hb hbox hg)|((with_reducible refine gate_dst (N:=4) rfl ?_);(try (refine gate_guard (by rfl) ?_;dsimp only));refine box_event ?hg (N:=4) ?hd (cs:=#[.int .i64 0,.string (⟨#[]⟩ : ByteArray),.int .i64 0,.slice none 0 0]) (t:=29) ?hr ?_;(case hd => rfl);(case hg => rfl);(case hr => first|(go_simp;done)|(go_simp;rfl));intro gb137 hg w4 hbox hb;have n0_:=Aside0.mk (Kd.V_below (Kd.V_elderB (by (with_reducible repeat (first|apply Kd.V_alloc|apply Kd.V_drewN|apply Kd.V_drew));exact HO0.out) gb137 (Nat.le_of_eq hg.symm)) hb);have n1_:=Aside0.mk (Kd.V_below (Kd.V_elderB (by (with_reducible repeat (first|apply Kd.V_alloc|apply Kd.V_drewN|apply Kd.V_drew));exact HO1_3.out) gb137 (Nat.le_of_eq hg.symm)) hb);have n2_:=Aside0.mk (blk_below (g:=gb136) (o:=.cells #[.int .i64 a1_0,.string a1_1,.int .i64 a1_2,.slice A1_3 l1_3.length c1_3] 29 (0,0)) (by (with_reducible repeat (first|refine blk_drewN ?_ _|refine blk_drew ?_|refine blk_alloc ?_ _));exact BK136.out) hb);have n3_:=Aside0.mk (below_step (by repeat (first|(with_reducible first|exact HB.out|apply below_alloc|apply pw_below_drewN|apply below_drew1|refine below_set ?_ GE136.out)|exact HB.out)) hb);have n4_:=Aside0.mk (hbox);have n5_:=Aside0.mk ((by rw [hg];exact (below_size (by repeat (first|(with_reducible first|exact HB.out|apply below_alloc|apply pw_below_drewN|apply below_drew1|refine below_set ?_ GE136.out)|exact HB.out))) : w.heap.size ≤ gb137));have n6_:=Aside0.mk ((by rw [hg];exact (below_size (by repeat (first|(with_reducible first|exact HB.out|apply below_alloc|apply pw_below_drewN|apply below_drew1|refine below_set ?_ GE136.out)|exact HB.out))) : w.heap.size ≤ gb137));have n7_:=Aside0.mk ((by rw [hg];exact Nat.ne_of_lt (blk_lt (g:=gb136) (o:=.cells #[.int .i64 a1_0,.string a1_1,.int .i64 a1_2,.slice A1_3 l1_3.length c1_3] 29 (0,0)) (by (with_reducible repeat (first|refine blk_drewN ?_ _|refine blk_drew ?_|refine blk_alloc ?_ _));exact BK136.out)) : gb136 ≠ gb137));have n8_:=Aside0.mk ((by rw [hg];exact Nat.ne_of_gt (blk_lt (g:=gb136) (o:=.cells #[.int .i64 a1_0,.string a1_1,.int .i64 a1_2,.slice A1_3 l1_3.length c1_3] 29 (0,0)) (by (with_reducible repeat (first|refine blk_drewN ?_ _|refine blk_drew ?_|refine blk_alloc ?_ _));exact BK136.out)) : gb137 ≠ gb136));clear HO0;clear HO1_3;clear BK136;clear HB;have HO0:=n0_;have HO1_3:=n1_;have BK136:=n2_;have HB:=n3_;have BK137:=n4_;have GW137:=n5_;have GE137:=n6_;have NB136_137:=n7_;have NB137_136:=n8_;clear n0_ n1_ n2_ n3_ n4_ n5_ n6_ n7_ n8_;clear hb hbox hg))
 go_loopg [5] k (fun kq v5 w' => ∃ (x5_1 : Int) (x137000_1 : Int) (x137001_1 : ByteArray) (x137002_1 : Int) (x137003_1 : List (S29)) (u137003 : Value),v5 = .int .i64 x5_1 ∧ Aside0 (spec_l04Walk.l0 kq l0 x5_1 x137000_1 x137001_1 x137002_1 x137003_1 = some (r1,r2,r3,r4)) ∧ Aside0 (kq ≤ k) ∧ Aside0 (Kd.V k29 29 w' w.heap.size (fun k_ => ((P0_ k_ ∨ P1_3_ k_) ∨ w.heap.size ≤ k_) ∧ k_ ≠ gb136 ∧ k_ ≠ gb137) (.slice A0 l0.length c0) l0) ∧ Aside0 (Kd.V k29 29 w' w.heap.size (fun k_ => ((P0_ k_ ∨ P1_3_ k_) ∨ w.heap.size ≤ k_) ∧ k_ ≠ gb136 ∧ k_ ≠ gb137) u137003 x137003_1) ∧ Aside0 (w'.heap[gb136]? = some (.cells #[.int .i64 x137000_1,.string x137001_1,.int .i64 x137002_1,u137003] 29 (0,0))) ∧ Aside0 (w'.heap[gb137]? = some (.cells #[.int .i64 0,.string (⟨#[]⟩ : ByteArray),.int .i64 0,(.slice none 0 0)] 29 (0,0))) ∧ Aside0 (Below w.heap.size w w'))
 case atStart => exact ⟨(0),(a1_0),(a1_1),(a1_2),(l1_3),(.slice A1_3 l1_3.length c1_3),(by first|rfl|(simp;done)|(simp [*];done)),H',⟨Nat.le_refl _⟩,⟨by (with_reducible repeat (first|apply Kd.V_alloc|apply Kd.V_drewN|apply Kd.V_drew));exact Kd.V_mono HO0.out (fun _ hk => ⟨hk.1.1,⟨hk.1.2,hk.2⟩⟩)⟩,⟨by (with_reducible repeat (first|apply Kd.V_alloc|apply Kd.V_drewN|apply Kd.V_drew));exact Kd.V_mono HO1_3.out (fun _ hk => ⟨hk.1.1,⟨hk.1.2,hk.2⟩⟩)⟩,⟨by (with_reducible repeat (first|refine blk_drewN ?_ _|refine blk_drew ?_|refine blk_alloc ?_ _));exact BK136.out⟩,⟨by (with_reducible repeat (first|refine blk_drewN ?_ _|refine blk_drew ?_|refine blk_alloc ?_ _));exact BK137.out⟩,⟨by repeat (first|(with_reducible first|exact HB.out|apply below_alloc|apply pw_below_drewN|apply below_drew1|refine below_set ?_ GE136.out|refine below_set ?_ GE137.out)|exact HB.out)⟩⟩
 case round =>
  clear H'
  try clear BK136
  try clear BK137
  obtain ⟨x5_1,x137000_1,x137001_1,x137002_1,x137003_1,u137003,rfl,HA,HK1,HO_0,HO_137003,BK136,BK137,HB⟩:=hrel
  cases gk with
  | zero => exact absurd HA.out (by simp [spec_l04Walk.l0])
  | succ k1 =>
   have H:=HA.out
   clear HA
   simp only [spec_l04Walk.l0] at H
   by_cases c5 : x5_1 < 5000
   ·rw [if_pos c5] at H
    have c5b0 : decide (x5_1 < 5000) = true:=decide_eq_true c5
    clear c5
    by_cases c6 : x137000_1 = 1
    ·rw [if_pos c6] at H
     have c6b0 : (x137000_1 == 1) = true:=beq_iff_eq.mpr c6
     have c6b1 : (x137000_1 != 1) = false:=bne_eq_false_iff_eq.mpr c6
     clear c6
     replace H:=Option.bind_eq_some_iff.mp H
     obtain ⟨t138,A70,H⟩:=H
     replace H : (if t138 = true then (if 0 ≤ x137002_1 then (if x137002_1 < (l0.length : Int) then (if ((rd_T29 l0 x137002_1).f0) = 0 then (some (x137000_1,x137001_1,x137002_1,x137003_1)) else (spec_l04Walk.l0 k1 l0 (wrap64 (x5_1 + 1)) ((rd_T29 l0 x137002_1).f0) ((rd_T29 l0 x137002_1).f1) ((rd_T29 l0 x137002_1).f2) ((rd_T29 l0 x137002_1).f3))) else (none)) else (none)) else (some (x137000_1,x137001_1,x137002_1,x137003_1))) = some (r1,r2,r3,r4):=H
     have A7:=Aside0.mk A70
     clear A70
     by_cases c8 : t138 = true
     ·subst c8
      have H1 : (if 0 ≤ x137002_1 then (if x137002_1 < (l0.length : Int) then (if ((rd_T29 l0 x137002_1).f0) = 0 then (some (x137000_1,x137001_1,x137002_1,x137003_1)) else (spec_l04Walk.l0 k1 l0 (wrap64 (x5_1 + 1)) ((rd_T29 l0 x137002_1).f0) ((rd_T29 l0 x137002_1).f1) ((rd_T29 l0 x137002_1).f2) ((rd_T29 l0 x137002_1).f3))) else (none)) else (none)) = some (r1,r2,r3,r4):=by rw [if_pos rfl] at H;exact H
      clear H
      have H:=H1
      clear H1
      by_cases c9 : 0 ≤ x137002_1
      rotate_left
      ·rw [if_neg c9] at H
       exact absurd H (by simp)
      rw [if_pos c9] at H
      have c9b0 : decide (0 ≤ x137002_1) = true:=decide_eq_true c9
      clear c9
      by_cases c10 : x137002_1 < (l0.length : Int)
      rotate_left
      ·rw [if_neg c10] at H
       exact absurd H (by simp)
      rw [if_pos c10] at H
      have c10b0 : decide (x137002_1 < (l0.length : Int)) = true:=decide_eq_true c10
      clear c10
      by_cases c11 : ((rd_T29 l0 x137002_1).f0) = 0
      ·rw [if_pos c11] at H
       have c11b0 : (((rd_T29 l0 x137002_1).f0) == 0) = true:=beq_iff_eq.mpr c11
       have c11b1 : (((rd_T29 l0 x137002_1).f0) != 0) = false:=bne_eq_false_iff_eq.mpr c11
       clear c11
       simp only [Option.some.injEq,Prod.mk.injEq] at H
       obtain ⟨rfl,rfl,rfl,rfl⟩:=H
       have hnb12:=NB136_137.out
       have hnc12:=NB137_136.out
       have hcz13_0 : wr.cell? ⟨gb136,0,none⟩ = some (.int .i64 x137000_1):=(blk_cell BK136.out 0).trans rfl
       have hcz13_1 : wr.cell? ⟨gb136,1,none⟩ = some (.string x137001_1):=(blk_cell BK136.out 1).trans rfl
       have hcz13_2 : wr.cell? ⟨gb136,2,none⟩ = some (.int .i64 x137002_1):=(blk_cell BK136.out 2).trans rfl
       have hcz13_3 : wr.cell? ⟨gb136,3,none⟩ = some (u137003):=(blk_cell BK136.out 3).trans rfl
       have hfz13_0:=blk_frozen BK136.out 0
       have hfz13_1:=blk_frozen BK136.out 1
       have hfz13_2:=blk_frozen BK136.out 2
       have hfz13_3:=blk_frozen BK136.out 3
       go_wp2_with (first|(go_at_call 106;(with_reducible refine (spec_l01In.calls x137002_1 0 (wrap64 ((l0.length : Int) - 1)) true _ A7.out).mono ?_);rintro e w' ⟨rfl,⟨nd,rfl⟩⟩;(try (rw [drewN_self wr];generalize hq_ : World.drewN wr _ = wr;have n0_ : Aside0 (Kd.V k29 29 wr w.heap.size (fun k_ => ((P0_ k_ ∨ P1_3_ k_) ∨ w.heap.size ≤ k_) ∧ k_ ≠ gb136 ∧ k_ ≠ gb137) (.slice A0 l0.length c0) l0):=⟨by rw [← hq_];exact (by (with_reducible repeat (first|apply Kd.V_alloc|apply Kd.V_drewN|apply Kd.V_drew));exact HO_0.out)⟩;have n1_ : Aside0 (Kd.V k29 29 wr w.heap.size (fun k_ => ((P0_ k_ ∨ P1_3_ k_) ∨ w.heap.size ≤ k_) ∧ k_ ≠ gb136 ∧ k_ ≠ gb137) u137003 x137003_1):=⟨by rw [← hq_];exact (by (with_reducible repeat (first|apply Kd.V_alloc|apply Kd.V_drewN|apply Kd.V_drew));exact HO_137003.out)⟩;have n2_ : Aside0 (wr.heap[gb136]? = some (.cells #[.int .i64 x137000_1,.string x137001_1,.int .i64 x137002_1,u137003] 29 (0,0))):=⟨by rw [← hq_];exact (by (with_reducible repeat (first|refine blk_drewN ?_ _|refine blk_drew ?_|refine blk_alloc ?_ _));exact BK136.out)⟩;have n3_ : Aside0 (wr.heap[gb137]? = some (.cells #[.int .i64 0,.string (⟨#[]⟩ : ByteArray),.int .i64 0,.slice none 0 0] 29 (0,0))):=⟨by rw [← hq_];exact (by (with_reducible repeat (first|refine blk_drewN ?_ _|refine blk_drew ?_|refine blk_alloc ?_ _));exact BK137.out)⟩;have n4_ : Aside0 (Below w.heap.size w wr):=⟨by rw [← hq_];exact (by repeat (first|(with_reducible first|exact HB.out|apply below_alloc|apply pw_below_drewN|apply below_drew1|refine below_set ?_ GE136.out|refine below_set ?_ GE137.out)|exact HB.out))⟩;clear HO_0 HO_137003 BK136 BK137 HB hq_;have HO_0:=n0_;have HO_137003:=n1_;have BK136:=n2_;have BK137:=n3_;have HB:=n4_;clear n0_ n1_ n2_ n3_ n4_;(try have hyq136_0:=(blk_cell BK136.out 0).trans (rfl : _ = some _));(try have hyf136_0:=blk_frozen BK136.out 0);(try have hyq136_1:=(blk_cell BK136.out 1).trans (rfl : _ = some _));(try have hyf136_1:=blk_frozen BK136.out 1);(try have hyq136_2:=(blk_cell BK136.out 2).trans (rfl : _ = some _));(try have hyf136_2:=blk_frozen BK136.out 2);(try have hyq136_3:=(blk_cell BK136.out 3).trans (rfl : _ = some _));(try have hyf136_3:=blk_frozen BK136.out 3);(try have hyq137_0:=(blk_cell BK137.out 0).trans (rfl : _ = some _));(try have hyf137_0:=blk_frozen BK137.out 0);(try have hyq137_1:=(blk_cell BK137.out 1).trans (rfl : _ = some _));(try have hyf137_1:=blk_frozen BK137.out 1);(try have hyq137_2:=(blk_cell BK137.out 2).trans (rfl : _ = some _));(try have hyf137_2:=blk_frozen BK137.out 2);(try have hyq137_3:=(blk_cell BK137.out 3).trans (rfl : _ = some _));(try have hyf137_3:=blk_frozen BK137.out 3)));have p139 : 0 ≤ (x137002_1 : Int):=of_decide_eq_true (by first|(with_reducible assumption)|assumption);have q139 : x137002_1 < (l0.length : Int):=of_decide_eq_true (by first|(with_reducible assumption)|assumption);obtain ⟨ad139,A139_3,c139_3,e139,hx139_0,hx139_1,hx139_2,hx139_3,hl139_3,hi139_3⟩:=at_T29 (Kd.V_reads' HO_0.out).2.2 x137002_1 p139 q139;cases e139;obtain ⟨ce139,hce139,hMe139,hcc139⟩:=Kd.V_get HO_0.out z29 x137002_1 p139 (by first|exact q139|exact of_decide_eq_true (by first|(with_reducible assumption)|assumption)|(have e_:=(Kd.V_reads' HO_0.out).1;omega));obtain ⟨ua139_3,uc139_3,rfl,ul139_3,ge139_3⟩:=k29_openF hMe139;have hv139_3:=hcc139 3 _ rfl;rw [add_field _ _ 3 (by omega)] at hv139_3;replace hv139_3:=Option.some.inj (hv139_3.symm.trans hx139_3);injection hv139_3 with hva_ hvn_ hvc_;rw [hva_] at ge139_3;rw [hvc_] at ul139_3;have HL139_3:=Aside0.mk (show Kd.V k29 29 _ w.heap.size _ _ ((rd_T29 l0 x137002_1).f3) from Kd.V_mk ul139_3 ge139_3);clear hva_ hvn_ hvc_ ge139_3 ul139_3;clear hcc139 hce139;have HR139_3:=Aside0.mk hi139_3;have HC139_3:=Aside0.mk hl139_3;clear hi139_3 hl139_3;replace p139:=eq_true p139;replace q139:=eq_true q139;have hcz14_0 : wr.cell? ⟨gb137,0,none⟩ = some (.int .i64 0):=(blk_cell BK137.out 0).trans rfl;have hcz14_1 : wr.cell? ⟨gb137,1,none⟩ = some (.string (⟨#[]⟩ : ByteArray)):=(blk_cell BK137.out 1).trans rfl;have hcz14_2 : wr.cell? ⟨gb137,2,none⟩ = some (.int .i64 0):=(blk_cell BK137.out 2).trans rfl;have hcz14_3 : wr.cell? ⟨gb137,3,none⟩ = some (.slice none 0 0):=(blk_cell BK137.out 3).trans rfl;have hfz14_0:=blk_frozen BK137.out 0;have hfz14_1:=blk_frozen BK137.out 1;have hfz14_2:=blk_frozen BK137.out 2;have hfz14_3:=blk_frozen BK137.out 3;obtain ⟨Ao15,co15,eo15⟩:=Kd.V_slice HO_137003.out;subst eo15))
       refine bodyPost_ret (results_cell_row rfl _ _ gb137 29 #[.int .i64 x137000_1,.string x137001_1,.int .i64 x137002_1,.slice Ao15 x137003_1.length co15] (0,0) _ rfl (by (with_reducible repeat (first|refine blk_drewN ?_ _|refine blk_drew ?_|refine blk_alloc ?_ _));refine blk_put (cs:=#[.int .i64 x137000_1,.string x137001_1,.int .i64 x137002_1,.slice none 0 0]) ?_ 3 _ rfl;(with_reducible repeat (first|refine blk_drewN ?_ _|refine blk_drew ?_|refine blk_alloc ?_ _));refine blk_put (cs:=#[.int .i64 x137000_1,.string x137001_1,.int .i64 0,.slice none 0 0]) ?_ 2 _ rfl;(with_reducible repeat (first|refine blk_drewN ?_ _|refine blk_drew ?_|refine blk_alloc ?_ _));refine blk_put (cs:=#[.int .i64 x137000_1,.string (⟨#[]⟩ : ByteArray),.int .i64 0,.slice none 0 0]) ?_ 1 _ rfl;(with_reducible repeat (first|refine blk_drewN ?_ _|refine blk_drew ?_|refine blk_alloc ?_ _));refine blk_put (cs:=#[.int .i64 0,.string (⟨#[]⟩ : ByteArray),.int .i64 0,.slice none 0 0]) ?_ 0 _ rfl;(with_reducible repeat (first|refine blk_drewN ?_ _|refine blk_drew ?_|refine blk_alloc ?_ _));exact BK137.out) Try.underlying29 rfl (by kernel_rfl)) rfl ?_
       exact ⟨_,by first|rfl|(simp [errW_none,errW_some] <;> rfl)|(simp [*,errW_none,errW_some] <;> rfl),by (with_reducible repeat (first|apply Kd.V_alloc|apply Kd.V_drewN|apply Kd.V_drew));exact Kd.V_mono (Kd.V_far (p:=⟨gb137,3,none⟩) (Kd.V_far (p:=⟨gb137,2,none⟩) (Kd.V_far (p:=⟨gb137,1,none⟩) (Kd.V_far (p:=⟨gb137,0,none⟩) (Kd.V_mono HO_137003.out (fun k_ hk => (⟨hk,hk.2.2⟩ : _ ∧ k_ ≠ gb137))) (fun _ hk => hk.2) (.int .i64 x137000_1)) (fun _ hk => hk.2) (.string x137001_1)) (fun _ hk => hk.2) (.int .i64 x137002_1)) (fun _ hk => hk.2) (.slice Ao15 x137003_1.length co15)) (fun _ hk => hk.1.1),by repeat (first|(with_reducible first|exact HB.out|apply below_alloc|apply pw_below_drewN|apply below_drew1|refine below_set ?_ GE136.out|refine below_set ?_ GE137.out)|exact HB.out)⟩
      ·rw [if_neg c11] at H
       have c11b0 : (((rd_T29 l0 x137002_1).f0) == 0) = false:=beq_eq_false_iff_ne.mpr c11
       have c11b1 : (((rd_T29 l0 x137002_1).f0) != 0) = true:=bne_iff_ne.mpr c11
       have H':=Aside0.mk H
       clear H
       have hnb16:=NB136_137.out
       have hnc16:=NB137_136.out
       have hcz17_0 : wr.cell? ⟨gb136,0,none⟩ = some (.int .i64 x137000_1):=(blk_cell BK136.out 0).trans rfl
       have hcz17_1 : wr.cell? ⟨gb136,1,none⟩ = some (.string x137001_1):=(blk_cell BK136.out 1).trans rfl
       have hcz17_2 : wr.cell? ⟨gb136,2,none⟩ = some (.int .i64 x137002_1):=(blk_cell BK136.out 2).trans rfl
       have hcz17_3 : wr.cell? ⟨gb136,3,none⟩ = some (u137003):=(blk_cell BK136.out 3).trans rfl
       have hfz17_0:=blk_frozen BK136.out 0
       have hfz17_1:=blk_frozen BK136.out 1
       have hfz17_2:=blk_frozen BK136.out 2
       have hfz17_3:=blk_frozen BK136.out 3
       go_wp2_with (first|(go_at_call 106;(with_reducible refine (spec_l01In.calls x137002_1 0 (wrap64 ((l0.length : Int) - 1)) true _ A7.out).mono ?_);rintro e w' ⟨rfl,⟨nd,rfl⟩⟩;(try (rw [drewN_self wr];generalize hq_ : World.drewN wr _ = wr;have n0_ : Aside0 (Kd.V k29 29 wr w.heap.size (fun k_ => ((P0_ k_ ∨ P1_3_ k_) ∨ w.heap.size ≤ k_) ∧ k_ ≠ gb136 ∧ k_ ≠ gb137) (.slice A0 l0.length c0) l0):=⟨by rw [← hq_];exact (by (with_reducible repeat (first|apply Kd.V_alloc|apply Kd.V_drewN|apply Kd.V_drew));exact HO_0.out)⟩;have n1_ : Aside0 (Kd.V k29 29 wr w.heap.size (fun k_ => ((P0_ k_ ∨ P1_3_ k_) ∨ w.heap.size ≤ k_) ∧ k_ ≠ gb136 ∧ k_ ≠ gb137) u137003 x137003_1):=⟨by rw [← hq_];exact (by (with_reducible repeat (first|apply Kd.V_alloc|apply Kd.V_drewN|apply Kd.V_drew));exact HO_137003.out)⟩;have n2_ : Aside0 (wr.heap[gb136]? = some (.cells #[.int .i64 x137000_1,.string x137001_1,.int .i64 x137002_1,u137003] 29 (0,0))):=⟨by rw [← hq_];exact (by (with_reducible repeat (first|refine blk_drewN ?_ _|refine blk_drew ?_|refine blk_alloc ?_ _));exact BK136.out)⟩;have n3_ : Aside0 (wr.heap[gb137]? = some (.cells #[.int .i64 0,.string (⟨#[]⟩ : ByteArray),.int .i64 0,.slice none 0 0] 29 (0,0))):=⟨by rw [← hq_];exact (by (with_reducible repeat (first|refine blk_drewN ?_ _|refine blk_drew ?_|refine blk_alloc ?_ _));exact BK137.out)⟩;have n4_ : Aside0 (Below w.heap.size w wr):=⟨by rw [← hq_];exact (by repeat (first|(with_reducible first|exact HB.out|apply below_alloc|apply pw_below_drewN|apply below_drew1|refine below_set ?_ GE136.out|refine below_set ?_ GE137.out)|exact HB.out))⟩;clear HO_0 HO_137003 BK136 BK137 HB hq_;have HO_0:=n0_;have HO_137003:=n1_;have BK136:=n2_;have BK137:=n3_;have HB:=n4_;clear n0_ n1_ n2_ n3_ n4_;(try have hyq136_0:=(blk_cell BK136.out 0).trans (rfl : _ = some _));(try have hyf136_0:=blk_frozen BK136.out 0);(try have hyq136_1:=(blk_cell BK136.out 1).trans (rfl : _ = some _));(try have hyf136_1:=blk_frozen BK136.out 1);(try have hyq136_2:=(blk_cell BK136.out 2).trans (rfl : _ = some _));(try have hyf136_2:=blk_frozen BK136.out 2);(try have hyq136_3:=(blk_cell BK136.out 3).trans (rfl : _ = some _));(try have hyf136_3:=blk_frozen BK136.out 3);(try have hyq137_0:=(blk_cell BK137.out 0).trans (rfl : _ = some _));(try have hyf137_0:=blk_frozen BK137.out 0);(try have hyq137_1:=(blk_cell BK137.out 1).trans (rfl : _ = some _));(try have hyf137_1:=blk_frozen BK137.out 1);(try have hyq137_2:=(blk_cell BK137.out 2).trans (rfl : _ = some _));(try have hyf137_2:=blk_frozen BK137.out 2);(try have hyq137_3:=(blk_cell BK137.out 3).trans (rfl : _ = some _));(try have hyf137_3:=blk_frozen BK137.out 3)));have p139 : 0 ≤ (x137002_1 : Int):=of_decide_eq_true (by first|(with_reducible assumption)|assumption);have q139 : x137002_1 < (l0.length : Int):=of_decide_eq_true (by first|(with_reducible assumption)|assumption);obtain ⟨ad139,A139_3,c139_3,e139,hx139_0,hx139_1,hx139_2,hx139_3,hl139_3,hi139_3⟩:=at_T29 (Kd.V_reads' HO_0.out).2.2 x137002_1 p139 q139;cases e139;obtain ⟨ce139,hce139,hMe139,hcc139⟩:=Kd.V_get HO_0.out z29 x137002_1 p139 (by first|exact q139|exact of_decide_eq_true (by first|(with_reducible assumption)|assumption)|(have e_:=(Kd.V_reads' HO_0.out).1;omega));obtain ⟨ua139_3,uc139_3,rfl,ul139_3,ge139_3⟩:=k29_openF hMe139;have hv139_3:=hcc139 3 _ rfl;rw [add_field _ _ 3 (by omega)] at hv139_3;replace hv139_3:=Option.some.inj (hv139_3.symm.trans hx139_3);injection hv139_3 with hva_ hvn_ hvc_;rw [hva_] at ge139_3;rw [hvc_] at ul139_3;have HL139_3:=Aside0.mk (show Kd.V k29 29 _ w.heap.size _ _ ((rd_T29 l0 x137002_1).f3) from Kd.V_mk ul139_3 ge139_3);clear hva_ hvn_ hvc_ ge139_3 ul139_3;clear hcc139 hce139;have HR139_3:=Aside0.mk hi139_3;have HC139_3:=Aside0.mk hl139_3;clear hi139_3 hl139_3;replace p139:=eq_true p139;replace q139:=eq_true q139;have p140 : 0 ≤ (x137002_1 : Int):=of_decide_eq_true (by first|(with_reducible assumption)|assumption);have q140 : x137002_1 < (l0.length : Int):=of_decide_eq_true (by first|(with_reducible assumption)|assumption);obtain ⟨ad140,A140_3,c140_3,e140,hx140_0,hx140_1,hx140_2,hx140_3,hl140_3,hi140_3⟩:=at_T29 (Kd.V_reads' HO_0.out).2.2 x137002_1 p140 q140;obtain rfl : ad139 = ad140:=(by injection e140);obtain ⟨ce140,hce140,hMe140,hcc140⟩:=Kd.V_get HO_0.out z29 x137002_1 p140 (by first|exact q140|exact of_decide_eq_true (by first|(with_reducible assumption)|assumption)|(have e_:=(Kd.V_reads' HO_0.out).1;omega));obtain ⟨ua140_3,uc140_3,rfl,ul140_3,ge140_3⟩:=k29_openF hMe140;have hv140_3:=hcc140 3 _ rfl;rw [add_field _ _ 3 (by omega)] at hv140_3;replace hv140_3:=Option.some.inj (hv140_3.symm.trans hx140_3);injection hv140_3 with hva_ hvn_ hvc_;rw [hva_] at ge140_3;rw [hvc_] at ul140_3;have HL140_3:=Aside0.mk (show Kd.V k29 29 _ w.heap.size _ _ ((rd_T29 l0 x137002_1).f3) from Kd.V_mk ul140_3 ge140_3);clear hva_ hvn_ hvc_ ge140_3 ul140_3;clear hcc140 hce140;have HR140_3:=Aside0.mk hi140_3;have HC140_3:=Aside0.mk hl140_3;clear hi140_3 hl140_3;replace p140:=eq_true p140;replace q140:=eq_true q140;have ea_:=Option.some.inj (hx139_3.symm.trans hx140_3);injection ea_ with ea_ en_ ec_;subst ea_;subst ec_;clear en_))
       go_roundg k1
       case measure => have:=HK1.out;omega
       case rel => exact ⟨(wrap64 (x5_1 + 1)),((rd_T29 l0 x137002_1).f0),((rd_T29 l0 x137002_1).f1),((rd_T29 l0 x137002_1).f2),((rd_T29 l0 x137002_1).f3),(.slice A139_3 ((rd_T29 l0 x137002_1).f3).length c139_3),(by first|rfl|(simp;done)|(simp [*];done)),H',⟨by have:=HK1.out;omega⟩,⟨by (with_reducible repeat (first|apply Kd.V_alloc|apply Kd.V_drewN|apply Kd.V_drew));exact Kd.V_mono (Kd.V_far (p:=⟨gb136,3,none⟩) (Kd.V_far (p:=⟨gb136,2,none⟩) (Kd.V_far (p:=⟨gb136,1,none⟩) (Kd.V_far (p:=⟨gb136,0,none⟩) (Kd.V_mono HO_0.out (fun k_ hk => (⟨hk,hk.2.1⟩ : _ ∧ k_ ≠ gb136))) (fun _ hk => hk.2) (.int .i64 ((rd_T29 l0 x137002_1).f0))) (fun _ hk => hk.2) (.string ((rd_T29 l0 x137002_1).f1))) (fun _ hk => hk.2) (.int .i64 ((rd_T29 l0 x137002_1).f2))) (fun _ hk => hk.2) (.slice A139_3 ((rd_T29 l0 x137002_1).f3).length c139_3)) (fun _ hk => ⟨hk.1.1,⟨hk.1.2.1,hk.1.2.2⟩⟩)⟩,⟨by (with_reducible repeat (first|apply Kd.V_alloc|apply Kd.V_drewN|apply Kd.V_drew));exact Kd.V_mono (Kd.V_far (p:=⟨gb136,3,none⟩) (Kd.V_far (p:=⟨gb136,2,none⟩) (Kd.V_far (p:=⟨gb136,1,none⟩) (Kd.V_far (p:=⟨gb136,0,none⟩) (Kd.V_mono HL140_3.out (fun k_ hk => (⟨hk,hk.2.1⟩ : _ ∧ k_ ≠ gb136))) (fun _ hk => hk.2) (.int .i64 ((rd_T29 l0 x137002_1).f0))) (fun _ hk => hk.2) (.string ((rd_T29 l0 x137002_1).f1))) (fun _ hk => hk.2) (.int .i64 ((rd_T29 l0 x137002_1).f2))) (fun _ hk => hk.2) (.slice A139_3 ((rd_T29 l0 x137002_1).f3).length c139_3)) (fun _ hk => ⟨hk.1.1,⟨hk.1.2.1,hk.1.2.2⟩⟩)⟩,⟨by (with_reducible repeat (first|refine blk_drewN ?_ _|refine blk_drew ?_|refine blk_alloc ?_ _));refine blk_put (cs:=#[.int .i64 ((rd_T29 l0 x137002_1).f0),.string ((rd_T29 l0 x137002_1).f1),.int .i64 ((rd_T29 l0 x137002_1).f2),u137003]) ?_ 3 _ rfl;(with_reducible repeat (first|refine blk_drewN ?_ _|refine blk_drew ?_|refine blk_alloc ?_ _));refine blk_put (cs:=#[.int .i64 ((rd_T29 l0 x137002_1).f0),.string ((rd_T29 l0 x137002_1).f1),.int .i64 x137002_1,u137003]) ?_ 2 _ rfl;(with_reducible repeat (first|refine blk_drewN ?_ _|refine blk_drew ?_|refine blk_alloc ?_ _));refine blk_put (cs:=#[.int .i64 ((rd_T29 l0 x137002_1).f0),.string x137001_1,.int .i64 x137002_1,u137003]) ?_ 1 _ rfl;(with_reducible repeat (first|refine blk_drewN ?_ _|refine blk_drew ?_|refine blk_alloc ?_ _));refine blk_put (cs:=#[.int .i64 x137000_1,.string x137001_1,.int .i64 x137002_1,u137003]) ?_ 0 _ rfl;(with_reducible repeat (first|refine blk_drewN ?_ _|refine blk_drew ?_|refine blk_alloc ?_ _));exact BK136.out⟩,⟨by (with_reducible repeat (first|refine blk_drewN ?_ _|refine blk_drew ?_|refine blk_alloc ?_ _));refine blk_far ?_ NB137_136.out _;(with_reducible repeat (first|refine blk_drewN ?_ _|refine blk_drew ?_|refine blk_alloc ?_ _));refine blk_far ?_ NB137_136.out _;(with_reducible repeat (first|refine blk_drewN ?_ _|refine blk_drew ?_|refine blk_alloc ?_ _));refine blk_far ?_ NB137_136.out _;(with_reducible repeat (first|refine blk_drewN ?_ _|refine blk_drew ?_|refine blk_alloc ?_ _));refine blk_far ?_ NB137_136.out _;(with_reducible repeat (first|refine blk_drewN ?_ _|refine blk_drew ?_|refine blk_alloc ?_ _));exact BK137.out⟩,⟨by repeat (first|(with_reducible first|exact HB.out|apply below_alloc|apply pw_below_drewN|apply below_drew1|refine below_set ?_ GE136.out|refine below_set ?_ GE137.out)|exact HB.out)⟩⟩
     ·replace c8:=Bool.eq_false_iff.mpr c8
      subst c8
      have H1 : (some (x137000_1,x137001_1,x137002_1,x137003_1)) = some (r1,r2,r3,r4):=by rw [if_neg (show ¬ (false = true) by decide)] at H;exact H
      clear H
      have H:=H1
      clear H1
      simp only [Option.some.injEq,Prod.mk.injEq] at H
      obtain ⟨rfl,rfl,rfl,rfl⟩:=H
      have hnb18:=NB136_137.out
      have hnc18:=NB137_136.out
      have hcz19_0 : wr.cell? ⟨gb136,0,none⟩ = some (.int .i64 x137000_1):=(blk_cell BK136.out 0).trans rfl
      have hcz19_1 : wr.cell? ⟨gb136,1,none⟩ = some (.string x137001_1):=(blk_cell BK136.out 1).trans rfl
      have hcz19_2 : wr.cell? ⟨gb136,2,none⟩ = some (.int .i64 x137002_1):=(blk_cell BK136.out 2).trans rfl
      have hcz19_3 : wr.cell? ⟨gb136,3,none⟩ = some (u137003):=(blk_cell BK136.out 3).trans rfl
      have hfz19_0:=blk_frozen BK136.out 0
      have hfz19_1:=blk_frozen BK136.out 1
      have hfz19_2:=blk_frozen BK136.out 2
      have hfz19_3:=blk_frozen BK136.out 3
      go_wp2_with (first|(go_at_call 106;(with_reducible refine (spec_l01In.calls x137002_1 0 (wrap64 ((l0.length : Int) - 1)) false _ A7.out).mono ?_);rintro e w' ⟨rfl,⟨nd,rfl⟩⟩;(try (rw [drewN_self wr];generalize hq_ : World.drewN wr _ = wr;have n0_ : Aside0 (Kd.V k29 29 wr w.heap.size (fun k_ => ((P0_ k_ ∨ P1_3_ k_) ∨ w.heap.size ≤ k_) ∧ k_ ≠ gb136 ∧ k_ ≠ gb137) (.slice A0 l0.length c0) l0):=⟨by rw [← hq_];exact (by (with_reducible repeat (first|apply Kd.V_alloc|apply Kd.V_drewN|apply Kd.V_drew));exact HO_0.out)⟩;have n1_ : Aside0 (Kd.V k29 29 wr w.heap.size (fun k_ => ((P0_ k_ ∨ P1_3_ k_) ∨ w.heap.size ≤ k_) ∧ k_ ≠ gb136 ∧ k_ ≠ gb137) u137003 x137003_1):=⟨by rw [← hq_];exact (by (with_reducible repeat (first|apply Kd.V_alloc|apply Kd.V_drewN|apply Kd.V_drew));exact HO_137003.out)⟩;have n2_ : Aside0 (wr.heap[gb136]? = some (.cells #[.int .i64 x137000_1,.string x137001_1,.int .i64 x137002_1,u137003] 29 (0,0))):=⟨by rw [← hq_];exact (by (with_reducible repeat (first|refine blk_drewN ?_ _|refine blk_drew ?_|refine blk_alloc ?_ _));exact BK136.out)⟩;have n3_ : Aside0 (wr.heap[gb137]? = some (.cells #[.int .i64 0,.string (⟨#[]⟩ : ByteArray),.int .i64 0,.slice none 0 0] 29 (0,0))):=⟨by rw [← hq_];exact (by (with_reducible repeat (first|refine blk_drewN ?_ _|refine blk_drew ?_|refine blk_alloc ?_ _));exact BK137.out)⟩;have n4_ : Aside0 (Below w.heap.size w wr):=⟨by rw [← hq_];exact (by repeat (first|(with_reducible first|exact HB.out|apply below_alloc|apply pw_below_drewN|apply below_drew1|refine below_set ?_ GE136.out|refine below_set ?_ GE137.out)|exact HB.out))⟩;clear HO_0 HO_137003 BK136 BK137 HB hq_;have HO_0:=n0_;have HO_137003:=n1_;have BK136:=n2_;have BK137:=n3_;have HB:=n4_;clear n0_ n1_ n2_ n3_ n4_;(try have hyq136_0:=(blk_cell BK136.out 0).trans (rfl : _ = some _));(try have hyf136_0:=blk_frozen BK136.out 0);(try have hyq136_1:=(blk_cell BK136.out 1).trans (rfl : _ = some _));(try have hyf136_1:=blk_frozen BK136.out 1);(try have hyq136_2:=(blk_cell BK136.out 2).trans (rfl : _ = some _));(try have hyf136_2:=blk_frozen BK136.out 2);(try have hyq136_3:=(blk_cell BK136.out 3).trans (rfl : _ = some _));(try have hyf136_3:=blk_frozen BK136.out 3);(try have hyq137_0:=(blk_cell BK137.out 0).trans (rfl : _ = some _));(try have hyf137_0:=blk_frozen BK137.out 0);(try have hyq137_1:=(blk_cell BK137.out 1).trans (rfl : _ = some _));(try have hyf137_1:=blk_frozen BK137.out 1);(try have hyq137_2:=(blk_cell BK137.out 2).trans (rfl : _ = some _));(try have hyf137_2:=blk_frozen BK137.out 2);(try have hyq137_3:=(blk_cell BK137.out 3).trans (rfl : _ = some _));(try have hyf137_3:=blk_frozen BK137.out 3)));have hcz20_0 : wr.cell? ⟨gb137,0,none⟩ = some (.int .i64 0):=(blk_cell BK137.out 0).trans rfl;have hcz20_1 : wr.cell? ⟨gb137,1,none⟩ = some (.string (⟨#[]⟩ : ByteArray)):=(blk_cell BK137.out 1).trans rfl;have hcz20_2 : wr.cell? ⟨gb137,2,none⟩ = some (.int .i64 0):=(blk_cell BK137.out 2).trans rfl;have hcz20_3 : wr.cell? ⟨gb137,3,none⟩ = some (.slice none 0 0):=(blk_cell BK137.out 3).trans rfl;have hfz20_0:=blk_frozen BK137.out 0;have hfz20_1:=blk_frozen BK137.out 1;have hfz20_2:=blk_frozen BK137.out 2;have hfz20_3:=blk_frozen BK137.out 3;obtain ⟨Ao21,co21,eo21⟩:=Kd.V_slice HO_137003.out;subst eo21))
      refine bodyPost_ret (results_cell_row rfl _ _ gb137 29 #[.int .i64 x137000_1,.string x137001_1,.int .i64 x137002_1,.slice Ao21 x137003_1.length co21] (0,0) _ rfl (by (with_reducible repeat (first|refine blk_drewN ?_ _|refine blk_drew ?_|refine blk_alloc ?_ _));refine blk_put (cs:=#[.int .i64 x137000_1,.string x137001_1,.int .i64 x137002_1,.slice none 0 0]) ?_ 3 _ rfl;(with_reducible repeat (first|refine blk_drewN ?_ _|refine blk_drew ?_|refine blk_alloc ?_ _));refine blk_put (cs:=#[.int .i64 x137000_1,.string x137001_1,.int .i64 0,.slice none 0 0]) ?_ 2 _ rfl;(with_reducible repeat (first|refine blk_drewN ?_ _|refine blk_drew ?_|refine blk_alloc ?_ _));refine blk_put (cs:=#[.int .i64 x137000_1,.string (⟨#[]⟩ : ByteArray),.int .i64 0,.slice none 0 0]) ?_ 1 _ rfl;(with_reducible repeat (first|refine blk_drewN ?_ _|refine blk_drew ?_|refine blk_alloc ?_ _));refine blk_put (cs:=#[.int .i64 0,.string (⟨#[]⟩ : ByteArray),.int .i64 0,.slice none 0 0]) ?_ 0 _ rfl;(with_reducible repeat (first|refine blk_drewN ?_ _|refine blk_drew ?_|refine blk_alloc ?_ _));exact BK137.out) Try.underlying29 rfl (by kernel_rfl)) rfl ?_
      exact ⟨_,by first|rfl|(simp [errW_none,errW_some] <;> rfl)|(simp [*,errW_none,errW_some] <;> rfl),by (with_reducible repeat (first|apply Kd.V_alloc|apply Kd.V_drewN|apply Kd.V_drew));exact Kd.V_mono (Kd.V_far (p:=⟨gb137,3,none⟩) (Kd.V_far (p:=⟨gb137,2,none⟩) (Kd.V_far (p:=⟨gb137,1,none⟩) (Kd.V_far (p:=⟨gb137,0,none⟩) (Kd.V_mono HO_137003.out (fun k_ hk => (⟨hk,hk.2.2⟩ : _ ∧ k_ ≠ gb137))) (fun _ hk => hk.2) (.int .i64 x137000_1)) (fun _ hk => hk.2) (.string x137001_1)) (fun _ hk => hk.2) (.int .i64 x137002_1)) (fun _ hk => hk.2) (.slice Ao21 x137003_1.length co21)) (fun _ hk => hk.1.1),by repeat (first|(with_reducible first|exact HB.out|apply below_alloc|apply pw_below_drewN|apply below_drew1|refine below_set ?_ GE136.out|refine below_set ?_ GE137.out)|exact HB.out)⟩
    ·rw [if_neg c6] at H
     have c6b0 : (x137000_1 == 1) = false:=beq_eq_false_iff_ne.mpr c6
     have c6b1 : (x137000_1 != 1) = true:=bne_iff_ne.mpr c6
     simp only [Option.some.injEq,Prod.mk.injEq] at H
     obtain ⟨rfl,rfl,rfl,rfl⟩:=H
     have hnb22:=NB136_137.out
     have hnc22:=NB137_136.out
     have hcz23_0 : wr.cell? ⟨gb136,0,none⟩ = some (.int .i64 x137000_1):=(blk_cell BK136.out 0).trans rfl
     have hcz23_1 : wr.cell? ⟨gb136,1,none⟩ = some (.string x137001_1):=(blk_cell BK136.out 1).trans rfl
     have hcz23_2 : wr.cell? ⟨gb136,2,none⟩ = some (.int .i64 x137002_1):=(blk_cell BK136.out 2).trans rfl
     have hcz23_3 : wr.cell? ⟨gb136,3,none⟩ = some (u137003):=(blk_cell BK136.out 3).trans rfl
     have hfz23_0:=blk_frozen BK136.out 0
     have hfz23_1:=blk_frozen BK136.out 1
     have hfz23_2:=blk_frozen BK136.out 2
     have hfz23_3:=blk_frozen BK136.out 3
     have hcz24_0 : wr.cell? ⟨gb137,0,none⟩ = some (.int .i64 0):=(blk_cell BK137.out 0).trans rfl
     have hcz24_1 : wr.cell? ⟨gb137,1,none⟩ = some (.string (⟨#[]⟩ : ByteArray)):=(blk_cell BK137.out 1).trans rfl
     have hcz24_2 : wr.cell? ⟨gb137,2,none⟩ = some (.int .i64 0):=(blk_cell BK137.out 2).trans rfl
     have hcz24_3 : wr.cell? ⟨gb137,3,none⟩ = some (.slice none 0 0):=(blk_cell BK137.out 3).trans rfl
     have hfz24_0:=blk_frozen BK137.out 0
     have hfz24_1:=blk_frozen BK137.out 1
     have hfz24_2:=blk_frozen BK137.out 2
     have hfz24_3:=blk_frozen BK137.out 3
     obtain ⟨Ao25,co25,eo25⟩:=Kd.V_slice HO_137003.out
     subst eo25
     go_wp2
     refine bodyPost_ret (results_cell_row rfl _ _ gb137 29 #[.int .i64 x137000_1,.string x137001_1,.int .i64 x137002_1,.slice Ao25 x137003_1.length co25] (0,0) _ rfl (by (with_reducible repeat (first|refine blk_drewN ?_ _|refine blk_drew ?_|refine blk_alloc ?_ _));refine blk_put (cs:=#[.int .i64 x137000_1,.string x137001_1,.int .i64 x137002_1,.slice none 0 0]) ?_ 3 _ rfl;(with_reducible repeat (first|refine blk_drewN ?_ _|refine blk_drew ?_|refine blk_alloc ?_ _));refine blk_put (cs:=#[.int .i64 x137000_1,.string x137001_1,.int .i64 0,.slice none 0 0]) ?_ 2 _ rfl;(with_reducible repeat (first|refine blk_drewN ?_ _|refine blk_drew ?_|refine blk_alloc ?_ _));refine blk_put (cs:=#[.int .i64 x137000_1,.string (⟨#[]⟩ : ByteArray),.int .i64 0,.slice none 0 0]) ?_ 1 _ rfl;(with_reducible repeat (first|refine blk_drewN ?_ _|refine blk_drew ?_|refine blk_alloc ?_ _));refine blk_put (cs:=#[.int .i64 0,.string (⟨#[]⟩ : ByteArray),.int .i64 0,.slice none 0 0]) ?_ 0 _ rfl;(with_reducible repeat (first|refine blk_drewN ?_ _|refine blk_drew ?_|refine blk_alloc ?_ _));exact BK137.out) Try.underlying29 rfl (by kernel_rfl)) rfl ?_
     exact ⟨_,by first|rfl|(simp [errW_none,errW_some] <;> rfl)|(simp [*,errW_none,errW_some] <;> rfl),by (with_reducible repeat (first|apply Kd.V_alloc|apply Kd.V_drewN|apply Kd.V_drew));exact Kd.V_mono (Kd.V_far (p:=⟨gb137,3,none⟩) (Kd.V_far (p:=⟨gb137,2,none⟩) (Kd.V_far (p:=⟨gb137,1,none⟩) (Kd.V_far (p:=⟨gb137,0,none⟩) (Kd.V_mono HO_137003.out (fun k_ hk => (⟨hk,hk.2.2⟩ : _ ∧ k_ ≠ gb137))) (fun _ hk => hk.2) (.int .i64 x137000_1)) (fun _ hk => hk.2) (.string x137001_1)) (fun _ hk => hk.2) (.int .i64 x137002_1)) (fun _ hk => hk.2) (.slice Ao25 x137003_1.length co25)) (fun _ hk => hk.1.1),by repeat (first|(with_reducible first|exact HB.out|apply below_alloc|apply pw_below_drewN|apply below_drew1|refine below_set ?_ GE136.out|refine below_set ?_ GE137.out)|exact HB.out)⟩
   ·rw [if_neg c5] at H
    have c5b0 : decide (x5_1 < 5000) = false:=decide_eq_false c5
    clear c5
    simp only [Option.some.injEq,Prod.mk.injEq] at H
    obtain ⟨rfl,rfl,rfl,rfl⟩:=H
    have hnb26:=NB136_137.out
    have hnc26:=NB137_136.out
    have hcz27_0 : wr.cell? ⟨gb136,0,none⟩ = some (.int .i64 x137000_1):=(blk_cell BK136.out 0).trans rfl
    have hcz27_1 : wr.cell? ⟨gb136,1,none⟩ = some (.string x137001_1):=(blk_cell BK136.out 1).trans rfl
    have hcz27_2 : wr.cell? ⟨gb136,2,none⟩ = some (.int .i64 x137002_1):=(blk_cell BK136.out 2).trans rfl
    have hcz27_3 : wr.cell? ⟨gb136,3,none⟩ = some (u137003):=(blk_cell BK136.out 3).trans rfl
    have hfz27_0:=blk_frozen BK136.out 0
    have hfz27_1:=blk_frozen BK136.out 1
    have hfz27_2:=blk_frozen BK136.out 2
    have hfz27_3:=blk_frozen BK136.out 3
    have hcz28_0 : wr.cell? ⟨gb137,0,none⟩ = some (.int .i64 0):=(blk_cell BK137.out 0).trans rfl
    have hcz28_1 : wr.cell? ⟨gb137,1,none⟩ = some (.string (⟨#[]⟩ : ByteArray)):=(blk_cell BK137.out 1).trans rfl
    have hcz28_2 : wr.cell? ⟨gb137,2,none⟩ = some (.int .i64 0):=(blk_cell BK137.out 2).trans rfl
    have hcz28_3 : wr.cell? ⟨gb137,3,none⟩ = some (.slice none 0 0):=(blk_cell BK137.out 3).trans rfl
    have hfz28_0:=blk_frozen BK137.out 0
    have hfz28_1:=blk_frozen BK137.out 1
    have hfz28_2:=blk_frozen BK137.out 2
    have hfz28_3:=blk_frozen BK137.out 3
    obtain ⟨Ao29,co29,eo29⟩:=Kd.V_slice HO_137003.out
    subst eo29
    go_wp2
    refine bodyPost_ret (results_cell_row rfl _ _ gb137 29 #[.int .i64 x137000_1,.string x137001_1,.int .i64 x137002_1,.slice Ao29 x137003_1.length co29] (0,0) _ rfl (by (with_reducible repeat (first|refine blk_drewN ?_ _|refine blk_drew ?_|refine blk_alloc ?_ _));refine blk_put (cs:=#[.int .i64 x137000_1,.string x137001_1,.int .i64 x137002_1,.slice none 0 0]) ?_ 3 _ rfl;(with_reducible repeat (first|refine blk_drewN ?_ _|refine blk_drew ?_|refine blk_alloc ?_ _));refine blk_put (cs:=#[.int .i64 x137000_1,.string x137001_1,.int .i64 0,.slice none 0 0]) ?_ 2 _ rfl;(with_reducible repeat (first|refine blk_drewN ?_ _|refine blk_drew ?_|refine blk_alloc ?_ _));refine blk_put (cs:=#[.int .i64 x137000_1,.string (⟨#[]⟩ : ByteArray),.int .i64 0,.slice none 0 0]) ?_ 1 _ rfl;(with_reducible repeat (first|refine blk_drewN ?_ _|refine blk_drew ?_|refine blk_alloc ?_ _));refine blk_put (cs:=#[.int .i64 0,.string (⟨#[]⟩ : ByteArray),.int .i64 0,.slice none 0 0]) ?_ 0 _ rfl;(with_reducible repeat (first|refine blk_drewN ?_ _|refine blk_drew ?_|refine blk_alloc ?_ _));exact BK137.out) Try.underlying29 rfl (by kernel_rfl)) rfl ?_
    exact ⟨_,by first|rfl|(simp [errW_none,errW_some] <;> rfl)|(simp [*,errW_none,errW_some] <;> rfl),by (with_reducible repeat (first|apply Kd.V_alloc|apply Kd.V_drewN|apply Kd.V_drew));exact Kd.V_mono (Kd.V_far (p:=⟨gb137,3,none⟩) (Kd.V_far (p:=⟨gb137,2,none⟩) (Kd.V_far (p:=⟨gb137,1,none⟩) (Kd.V_far (p:=⟨gb137,0,none⟩) (Kd.V_mono HO_137003.out (fun k_ hk => (⟨hk,hk.2.2⟩ : _ ∧ k_ ≠ gb137))) (fun _ hk => hk.2) (.int .i64 x137000_1)) (fun _ hk => hk.2) (.string x137001_1)) (fun _ hk => hk.2) (.int .i64 x137002_1)) (fun _ hk => hk.2) (.slice Ao29 x137003_1.length co29)) (fun _ hk => hk.1.1),by repeat (first|(with_reducible first|exact HB.out|apply below_alloc|apply pw_below_drewN|apply below_drew1|refine below_set ?_ GE136.out|refine below_set ?_ GE137.out)|exact HB.out)⟩

-- NOT PRINTED: function 120 (spec_l04Fill_fill)

-- NOT PRINTED: function 86 (spec_l04Filled)

-- NOT PRINTED: function 50 (spec_Filled)

/-! ### impl_within: function 71 -/
def impl_within.f (a0 : Int) (a1 : Int) (a2 : Int) : Option (Bool):=if a0 ≥ a1 then (some (decide (a0 ≤ a2))) else (some false)
set_option maxHeartbeats 8000000 in
set_option maxRecDepth 100000 in
theorem impl_within.calls (a0 : Int) (a1 : Int) (a2 : Int) (r : Bool) (w : World) (h : impl_within.f a0 a1 a2 = some r) :
  Calls Try.prog 71 #[.int .i64 a0,.int .i64 a1,.int .i64 a2] w fun e w' => e = .returned (.bool r) ∧ Drawn0 w w':=by
 have H : (if a0 ≥ a1 then (some (decide (a0 ≤ a2))) else (some false)) = some r:=h
 clear h
 by_cases c4 : a0 ≥ a1
 ·rw [if_pos c4] at H
  have c4b0 : decide (a1 ≤ a0) = true:=decide_eq_true c4
  clear c4
  obtain rfl:=Option.some.inj H
  go_enter Try.func71,Try.ntmps71
  go_wp2
  go_ret
  exact ⟨by first|rfl|(simp;done)|(simp [*];done),by repeat (first|exact Drawn0.refl _|apply Drawn0.step)⟩
 ·rw [if_neg c4] at H
  have c4b0 : decide (a1 ≤ a0) = false:=decide_eq_false c4
  clear c4
  obtain rfl:=Option.some.inj H
  go_enter Try.func71,Try.ntmps71
  go_wp2
  go_ret
  exact ⟨by first|rfl|(simp;done)|(simp [*];done),by repeat (first|exact Drawn0.refl _|apply Drawn0.step)⟩

/-! ### impl_nameOk: function 72 -/
def impl_nameOk.l0 : Nat → ByteArray → Int → Option (Bool)
 | 0,_,_ => none
 | k + 1,x0,x3 => if x3 < (x0.size : Int) then (if 0 ≤ x3 then ((impl_within.f (wrap64 (bt x0 x3)) 33 126).bind fun t172 => (if t172 = true then (if (bt x0 x3) = 39 then (some false) else (if (bt x0 x3) = 34 then (some false) else (impl_nameOk.l0 k x0 (wrap64 (x3 + 1))))) else (some false))) else (none)) else ((impl_within.f (x0.size : Int) 1 20).bind fun t173 => (some t173))
def impl_nameOk.f (k : Nat) (a0 : ByteArray) : Option (Bool):=impl_nameOk.l0 k a0 0
theorem impl_nameOk.mono_l : ∀ k,(∀ y0 y1,LeO (impl_nameOk.l0 k y0 y1) (impl_nameOk.l0 (k + 1) y0 y1))
 | 0 => fun _ _ r h => by simp [impl_nameOk.l0] at h
 | k + 1 => by
  have ih0:=impl_nameOk.mono_l k
  ·intro y0 y1
   unfold impl_nameOk.l0
   repeat' first
   | (with_reducible exact ih0 _ _)
   | (with_reducible exact LeO.refl _)
   | (with_reducible exact LeO.none _)
   | (with_reducible refine LeO.ite ?_ ?_)
   | (with_reducible refine LeO.bind ?_ (fun _ => ?_))
   | exact ih0 _ _
   | exact LeO.none _
   | refine LeO.ite ?_ ?_
   | refine LeO.bind ?_ (fun _ => ?_)
theorem impl_nameOk.mono : ∀ a0 k,LeO (impl_nameOk.f k a0) (impl_nameOk.f (k + 1) a0):=by
 intro a0 k
 have ih0:=impl_nameOk.mono_l k
 unfold impl_nameOk.f
 repeat' first
   | (with_reducible exact ih0 _ _)
   | (with_reducible exact LeO.refl _)
   | (with_reducible exact LeO.none _)
   | (with_reducible refine LeO.ite ?_ ?_)
   | (with_reducible refine LeO.bind ?_ (fun _ => ?_))
   | exact ih0 _ _
   | exact LeO.none _
   | refine LeO.ite ?_ ?_
   | refine LeO.bind ?_ (fun _ => ?_)
set_option maxHeartbeats 8000000 in
set_option maxRecDepth 100000 in
theorem impl_nameOk.calls (k : Nat) (a0 : ByteArray) (r : Bool) (w : World) (h : impl_nameOk.f k a0 = some r) :
  Calls Try.prog 72 #[.string a0] w fun e w' => e = .returned (.bool r) ∧ Drawn0 w w':=by
 have H : (impl_nameOk.l0 k a0 0) = some r:=h
 clear h
 have H':=Aside0.mk H
 clear H
 go_enter Try.func72,Try.ntmps72
 go_wp2
 go_loopg [3] k (fun kq v3 w' => ∃ (x3_1 : Int),v3 = .int .i64 x3_1 ∧ Aside0 (impl_nameOk.l0 kq a0 x3_1 = some r) ∧ Aside0 (kq ≤ k) ∧ Drawn0 w w')
 case atStart => exact ⟨(0),(by first|rfl|(simp;done)|(simp [*];done)),H',⟨Nat.le_refl _⟩,by repeat (first|exact Drawn0.refl _|apply Drawn0.step)⟩
 case round =>
  clear H'
  obtain ⟨x3_1,rfl,HA,HK1,⟨m1,rfl⟩⟩:=hrel
  cases gk with
  | zero => exact absurd HA.out (by simp [impl_nameOk.l0])
  | succ k1 =>
   have H:=HA.out
   clear HA
   simp only [impl_nameOk.l0] at H
   by_cases c2 : x3_1 < (a0.size : Int)
   ·rw [if_pos c2] at H
    have c2b0 : decide (x3_1 < (a0.size : Int)) = true:=decide_eq_true c2
    clear c2
    by_cases c3 : 0 ≤ x3_1
    rotate_left
    ·rw [if_neg c3] at H
     exact absurd H (by simp)
    rw [if_pos c3] at H
    have c3b0 : decide (0 ≤ x3_1) = true:=decide_eq_true c3
    clear c3
    replace H:=Option.bind_eq_some_iff.mp H
    obtain ⟨t172,A50,H⟩:=H
    replace H : (if t172 = true then (if (bt a0 x3_1) = 39 then (some false) else (if (bt a0 x3_1) = 34 then (some false) else (impl_nameOk.l0 k1 a0 (wrap64 (x3_1 + 1))))) else (some false)) = some r:=H
    have A5:=Aside0.mk A50
    clear A50
    by_cases c6 : t172 = true
    ·subst c6
     have H1 : (if (bt a0 x3_1) = 39 then (some false) else (if (bt a0 x3_1) = 34 then (some false) else (impl_nameOk.l0 k1 a0 (wrap64 (x3_1 + 1))))) = some r:=by rw [if_pos rfl] at H;exact H
     clear H
     have H:=H1
     clear H1
     by_cases c8 : (bt a0 x3_1) = 39
     ·rw [if_pos c8] at H
      have c8b0 : ((bt a0 x3_1) == 39) = true:=beq_iff_eq.mpr c8
      have c8b1 : ((bt a0 x3_1) != 39) = false:=bne_eq_false_iff_eq.mpr c8
      clear c8
      obtain rfl:=Option.some.inj H
      have p4 : 0 ≤ (x3_1 : Int):=of_decide_eq_true (by first|(with_reducible assumption)|assumption)
      have q4 : x3_1 < (a0.size : Int):=of_decide_eq_true (by first|(with_reducible assumption)|assumption)
      have hx4:=bt_at a0 x3_1
      replace p4:=eq_true p4
      replace q4:=eq_true q4
      go_wp2_with (first|((with_reducible refine gate_callee (f:=71) rfl ?_);refine goesL_ (some 14) rfl rfl Try.func71 (by kernel_rfl) rfl #[.int .i64 (wrap64 (bt a0 x3_1)),.int .i64 33,.int .i64 126] rfl (by (try simp only [List.map_toArray,List.map_cons,List.map_nil]);first|done|rfl|(simp only [List.length_drop,List.length_take];rfl)) ?_;(with_reducible refine (impl_within.calls (wrap64 (bt a0 x3_1)) 33 126 true _ A5.out).mono ?_);rintro e w' ⟨rfl,⟨nd,rfl⟩⟩;refine ⟨_,rfl,?_⟩;have p7 : 0 ≤ (x3_1 : Int):=of_decide_eq_true (by first|(with_reducible assumption)|assumption);have q7 : x3_1 < (a0.size : Int):=of_decide_eq_true (by first|(with_reducible assumption)|assumption);have hx7:=bt_at a0 x3_1;replace p7:=eq_true p7;replace q7:=eq_true q7))
      go_ret
      exact ⟨by first|rfl|(simp;done)|(simp [*];done),by repeat (first|exact Drawn0.refl _|apply Drawn0.step)⟩
     ·rw [if_neg c8] at H
      have c8b0 : ((bt a0 x3_1) == 39) = false:=beq_eq_false_iff_ne.mpr c8
      have c8b1 : ((bt a0 x3_1) != 39) = true:=bne_iff_ne.mpr c8
      by_cases c10 : (bt a0 x3_1) = 34
      ·rw [if_pos c10] at H
       have c10b0 : ((bt a0 x3_1) == 34) = true:=beq_iff_eq.mpr c10
       have c10b1 : ((bt a0 x3_1) != 34) = false:=bne_eq_false_iff_eq.mpr c10
       clear c10
       obtain rfl:=Option.some.inj H
       have p4 : 0 ≤ (x3_1 : Int):=of_decide_eq_true (by first|(with_reducible assumption)|assumption)
       have q4 : x3_1 < (a0.size : Int):=of_decide_eq_true (by first|(with_reducible assumption)|assumption)
       have hx4:=bt_at a0 x3_1
       replace p4:=eq_true p4
       replace q4:=eq_true q4
       go_wp2_with (first|((with_reducible refine gate_callee (f:=71) rfl ?_);refine goesL_ (some 14) rfl rfl Try.func71 (by kernel_rfl) rfl #[.int .i64 (wrap64 (bt a0 x3_1)),.int .i64 33,.int .i64 126] rfl (by (try simp only [List.map_toArray,List.map_cons,List.map_nil]);first|done|rfl|(simp only [List.length_drop,List.length_take];rfl)) ?_;(with_reducible refine (impl_within.calls (wrap64 (bt a0 x3_1)) 33 126 true _ A5.out).mono ?_);rintro e w' ⟨rfl,⟨nd,rfl⟩⟩;refine ⟨_,rfl,?_⟩;have p7 : 0 ≤ (x3_1 : Int):=of_decide_eq_true (by first|(with_reducible assumption)|assumption);have q7 : x3_1 < (a0.size : Int):=of_decide_eq_true (by first|(with_reducible assumption)|assumption);have hx7:=bt_at a0 x3_1;replace p7:=eq_true p7;replace q7:=eq_true q7;have p9 : 0 ≤ (x3_1 : Int):=of_decide_eq_true (by first|(with_reducible assumption)|assumption);have q9 : x3_1 < (a0.size : Int):=of_decide_eq_true (by first|(with_reducible assumption)|assumption);have hx9:=bt_at a0 x3_1;replace p9:=eq_true p9;replace q9:=eq_true q9))
       go_ret
       exact ⟨by first|rfl|(simp;done)|(simp [*];done),by repeat (first|exact Drawn0.refl _|apply Drawn0.step)⟩
      ·rw [if_neg c10] at H
       have c10b0 : ((bt a0 x3_1) == 34) = false:=beq_eq_false_iff_ne.mpr c10
       have c10b1 : ((bt a0 x3_1) != 34) = true:=bne_iff_ne.mpr c10
       have H':=Aside0.mk H
       clear H
       have p4 : 0 ≤ (x3_1 : Int):=of_decide_eq_true (by first|(with_reducible assumption)|assumption)
       have q4 : x3_1 < (a0.size : Int):=of_decide_eq_true (by first|(with_reducible assumption)|assumption)
       have hx4:=bt_at a0 x3_1
       replace p4:=eq_true p4
       replace q4:=eq_true q4
       go_wp2_with (first|((with_reducible refine gate_callee (f:=71) rfl ?_);refine goesL_ (some 14) rfl rfl Try.func71 (by kernel_rfl) rfl #[.int .i64 (wrap64 (bt a0 x3_1)),.int .i64 33,.int .i64 126] rfl (by (try simp only [List.map_toArray,List.map_cons,List.map_nil]);first|done|rfl|(simp only [List.length_drop,List.length_take];rfl)) ?_;(with_reducible refine (impl_within.calls (wrap64 (bt a0 x3_1)) 33 126 true _ A5.out).mono ?_);rintro e w' ⟨rfl,⟨nd,rfl⟩⟩;refine ⟨_,rfl,?_⟩;have p7 : 0 ≤ (x3_1 : Int):=of_decide_eq_true (by first|(with_reducible assumption)|assumption);have q7 : x3_1 < (a0.size : Int):=of_decide_eq_true (by first|(with_reducible assumption)|assumption);have hx7:=bt_at a0 x3_1;replace p7:=eq_true p7;replace q7:=eq_true q7;have p9 : 0 ≤ (x3_1 : Int):=of_decide_eq_true (by first|(with_reducible assumption)|assumption);have q9 : x3_1 < (a0.size : Int):=of_decide_eq_true (by first|(with_reducible assumption)|assumption);have hx9:=bt_at a0 x3_1;replace p9:=eq_true p9;replace q9:=eq_true q9))
       go_roundg k1
       case measure => have:=HK1.out;omega
       case rel => exact ⟨(wrap64 (x3_1 + 1)),(by first|rfl|(simp;done)|(simp [*];done)),H',⟨by have:=HK1.out;omega⟩,by repeat (first|exact Drawn0.refl _|apply Drawn0.step)⟩
    ·replace c6:=Bool.eq_false_iff.mpr c6
     subst c6
     have H1 : (some false) = some r:=by rw [if_neg (show ¬ (false = true) by decide)] at H;exact H
     clear H
     have H:=H1
     clear H1
     obtain rfl:=Option.some.inj H
     have p4 : 0 ≤ (x3_1 : Int):=of_decide_eq_true (by first|(with_reducible assumption)|assumption)
     have q4 : x3_1 < (a0.size : Int):=of_decide_eq_true (by first|(with_reducible assumption)|assumption)
     have hx4:=bt_at a0 x3_1
     replace p4:=eq_true p4
     replace q4:=eq_true q4
     go_wp2_with (first|((with_reducible refine gate_callee (f:=71) rfl ?_);refine goesL_ (some 14) rfl rfl Try.func71 (by kernel_rfl) rfl #[.int .i64 (wrap64 (bt a0 x3_1)),.int .i64 33,.int .i64 126] rfl (by (try simp only [List.map_toArray,List.map_cons,List.map_nil]);first|done|rfl|(simp only [List.length_drop,List.length_take];rfl)) ?_;(with_reducible refine (impl_within.calls (wrap64 (bt a0 x3_1)) 33 126 false _ A5.out).mono ?_);rintro e w' ⟨rfl,⟨nd,rfl⟩⟩;refine ⟨_,rfl,?_⟩))
     go_ret
     exact ⟨by first|rfl|(simp;done)|(simp [*];done),by repeat (first|exact Drawn0.refl _|apply Drawn0.step)⟩
   ·rw [if_neg c2] at H
    have c2b0 : decide (x3_1 < (a0.size : Int)) = false:=decide_eq_false c2
    clear c2
    replace H:=Option.bind_eq_some_iff.mp H
    obtain ⟨t173,A110,H⟩:=H
    replace H : (some t173) = some r:=H
    have A11:=Aside0.mk A110
    clear A110
    obtain rfl:=Option.some.inj H
    go_wp2_with (first|((with_reducible refine gate_callee (f:=71) rfl ?_);refine goesL_ (some 30) rfl rfl Try.func71 (by kernel_rfl) rfl #[.int .i64 (a0.size : Int),.int .i64 1,.int .i64 20] rfl (by (try simp only [List.map_toArray,List.map_cons,List.map_nil]);first|done|rfl|(simp only [List.length_drop,List.length_take];rfl)) ?_;(with_reducible refine (impl_within.calls (a0.size : Int) 1 20 t173 _ A11.out).mono ?_);rintro e w' ⟨rfl,⟨nd,rfl⟩⟩;refine ⟨_,rfl,?_⟩))
    go_ret
    exact ⟨by first|rfl|(simp;done)|(simp [*];done),by repeat (first|exact Drawn0.refl _|apply Drawn0.step)⟩

end Go.Proofs.Ytojedbogbodkiaa.KFl
