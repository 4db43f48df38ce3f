/- Of this claim's own making;what nothing names is struck (fewall.py). -/
import Derived.Test.YtojedbogbodkiaaDoorKGrx0
import Derived.Test.YtojedbogbodkiaaDoorKGrx3
namespace Go.Proofs.YtojedbogbodkiaaDoor.KGr
open Go.RowKit Go.Proofs.YtojedbogbodkiaaDoorW.PrintWords Go.Proofs.YtojedbogbodkiaaDoorW.PrintLast Go.Proofs.YtojedbogbodkiaaDoorW.PrintMore
attribute [local go_sem] max2_int min2_int max_two min_two max_three min_three max_four min_four   -- for this text's walks alone
set_option linter.unusedVariables false
set_option linter.unusedSimpArgs false
set_option linter.unusedSectionVars false
variable [fk_laws_szTerm] [fk_laws_eqTerm] [fk_spec_l34Term] [fk_strconv_Itoa]
def spec_Control.j0 : Nat → ByteArray → Bool → Option (Bool)
 | 0,_,_ => none
 | k + 1,x3,x4 => if x4 = true then (some true) else (if x3.toList = ([61,47,50] : List UInt8) then (some true) else (if x3.toList = ([92,61,47,50] : List UInt8) then (some true) else (if x3.toList = ([61,61,47,50] : List UInt8) then (some true) else (if x3.toList = ([105,115,47,50] : List UInt8) then (some true) else (if x3.toList = ([60,47,50] : List UInt8) then (some true) else (if x3.toList = ([61,58,61,47,50] : List UInt8) then (some true) else (if x3.toList = ([118,97,114,47,49] : List UInt8) then (some true) else (if x3.toList = ([97,116,111,109,47,49] : List UInt8) then (some true) else (if x3.toList = ([119,114,105,116,101,47,49] : List UInt8) then (some true) else (if x3.toList = ([97,115,115,101,114,116,122,47,49] : List UInt8) then (some true) else (if x3.toList = ([114,101,116,114,97,99,116,47,49] : List UInt8) then (some true) else (if x3.toList = ([58,45,47,50] : List UInt8) then (some true) else (if x3.toList = ([58,45,47,49] : List UInt8) then (some true) else (if x3.toList = ([45,45,62,47,50] : List UInt8) then (some true) else (some false)))))))))))))))
def spec_Control.f (k : Nat) (a0 : ByteArray) : Option (Bool):=if a0.toList = ([116,114,117,101,47,48] : List UInt8) then (spec_Control.j0 k a0 (a0.toList == ([116,114,117,101,47,48] : List UInt8))) else (if a0.toList = ([102,97,105,108,47,48] : List UInt8) then (spec_Control.j0 k a0 (a0.toList == ([102,97,105,108,47,48] : List UInt8))) else (if a0.toList = ([33,47,48] : List UInt8) then (spec_Control.j0 k a0 (a0.toList == ([33,47,48] : List UInt8))) else (if a0.toList = ([44,47,50] : List UInt8) then (spec_Control.j0 k a0 (a0.toList == ([44,47,50] : List UInt8))) else (if a0.toList = ([59,47,50] : List UInt8) then (spec_Control.j0 k a0 (a0.toList == ([59,47,50] : List UInt8))) else (if a0.toList = ([45,62,47,50] : List UInt8) then (spec_Control.j0 k a0 (a0.toList == ([45,62,47,50] : List UInt8))) else (if a0.toList = ([92,43,47,49] : List UInt8) then (spec_Control.j0 k a0 (a0.toList == ([92,43,47,49] : List UInt8))) else (if a0.toList = ([99,97,108,108,47,49] : List UInt8) then (spec_Control.j0 k a0 (a0.toList == ([99,97,108,108,47,49] : List UInt8))) else (if a0.toList = ([99,97,108,108,47,50] : List UInt8) then (spec_Control.j0 k a0 (a0.toList == ([99,97,108,108,47,50] : List UInt8))) else (if a0.toList = ([99,97,108,108,47,51] : List UInt8) then (spec_Control.j0 k a0 (a0.toList == ([99,97,108,108,47,51] : List UInt8))) else (if a0.toList = ([99,97,116,99,104,47,51] : List UInt8) then (spec_Control.j0 k a0 (a0.toList == ([99,97,116,99,104,47,51] : List UInt8))) else (spec_Control.j0 k a0 (a0.toList == ([116,104,114,111,119,47,49] : List UInt8)))))))))))))
theorem spec_Control.mono_l : ∀ k,(∀ y0 y1,LeO (spec_Control.j0 k y0 y1) (spec_Control.j0 (k + 1) y0 y1))
 | 0 => fun _ _ r h => by simp [spec_Control.j0] at h
 | k + 1 => by
  have ih0:=spec_Control.mono_l k
  ·intro y0 y1
   unfold spec_Control.j0
   repeat' first
   | (with_reducible exact ih0 _ _)
   | (with_reducible exact LeO.refl _)
   | (with_reducible exact LeO.none _)
   | (with_reducible refine LeO.ite ?_ ?_)
   | (with_reducible refine LeO.bind ?_ (fun _ => ?_))
   | exact ih0 _ _
   | exact LeO.none _
   | refine LeO.ite ?_ ?_
   | refine LeO.bind ?_ (fun _ => ?_)
theorem spec_Control.mono : ∀ a0 k,LeO (spec_Control.f k a0) (spec_Control.f (k + 1) a0):=by
 intro a0 k
 have ih0:=spec_Control.mono_l k
 unfold spec_Control.f
 repeat' first
   | (with_reducible exact ih0 _ _)
   | (with_reducible exact LeO.refl _)
   | (with_reducible exact LeO.none _)
   | (with_reducible refine LeO.ite ?_ ?_)
   | (with_reducible refine LeO.bind ?_ (fun _ => ?_))
   | exact ih0 _ _
   | exact LeO.none _
   | refine LeO.ite ?_ ?_
   | refine LeO.bind ?_ (fun _ => ?_)
set_option maxHeartbeats 8000000 in
set_option maxRecDepth 100000 in
theorem spec_Control.calls (k : Nat) (a0 : ByteArray) (r : Bool) (w : World) (h : spec_Control.f k a0 = some r) :
  Calls Tryd.prog 109 #[.string a0] w fun e w' => e = .returned (.bool r) ∧ Drawn0 w w':=by
 have H : (if a0.toList = ([116,114,117,101,47,48] : List UInt8) then (spec_Control.j0 k a0 (a0.toList == ([116,114,117,101,47,48] : List UInt8))) else (if a0.toList = ([102,97,105,108,47,48] : List UInt8) then (spec_Control.j0 k a0 (a0.toList == ([102,97,105,108,47,48] : List UInt8))) else (if a0.toList = ([33,47,48] : List UInt8) then (spec_Control.j0 k a0 (a0.toList == ([33,47,48] : List UInt8))) else (if a0.toList = ([44,47,50] : List UInt8) then (spec_Control.j0 k a0 (a0.toList == ([44,47,50] : List UInt8))) else (if a0.toList = ([59,47,50] : List UInt8) then (spec_Control.j0 k a0 (a0.toList == ([59,47,50] : List UInt8))) else (if a0.toList = ([45,62,47,50] : List UInt8) then (spec_Control.j0 k a0 (a0.toList == ([45,62,47,50] : List UInt8))) else (if a0.toList = ([92,43,47,49] : List UInt8) then (spec_Control.j0 k a0 (a0.toList == ([92,43,47,49] : List UInt8))) else (if a0.toList = ([99,97,108,108,47,49] : List UInt8) then (spec_Control.j0 k a0 (a0.toList == ([99,97,108,108,47,49] : List UInt8))) else (if a0.toList = ([99,97,108,108,47,50] : List UInt8) then (spec_Control.j0 k a0 (a0.toList == ([99,97,108,108,47,50] : List UInt8))) else (if a0.toList = ([99,97,108,108,47,51] : List UInt8) then (spec_Control.j0 k a0 (a0.toList == ([99,97,108,108,47,51] : List UInt8))) else (if a0.toList = ([99,97,116,99,104,47,51] : List UInt8) then (spec_Control.j0 k a0 (a0.toList == ([99,97,116,99,104,47,51] : List UInt8))) else (spec_Control.j0 k a0 (a0.toList == ([116,104,114,111,119,47,49] : List UInt8)))))))))))))) = some r:=h
 clear h
 have HC2:=asd H
 clear H
 go_enter Tryd.func109,Tryd.ntmps109
 go_upto_if 4 with (fail)
 go_cut [4] (fun v4 wc => ∃ (kq : Nat) (x4_1 : Bool),v4 = .bool x4_1 ∧ Aside0 (spec_Control.j0 kq a0 x4_1 = some r) ∧ Aside0 (kq ≤ k) ∧ Drawn0 w wc)
 case first =>
  have H:=HC2.out
  clear HC2
  by_cases c3 : a0.toList = ([116,114,117,101,47,48] : List UInt8)
  ·rw [if_pos c3] at H
   have c3b0 : (a0.toList == ([116,114,117,101,47,48] : List UInt8)) = true:=beq_iff_eq.mpr c3
   have c3b1 : (a0.toList != ([116,114,117,101,47,48] : List UInt8)) = false:=bne_eq_false_iff_eq.mpr c3
   clear c3
   (first|rw [c3b0]|(simp only [i64_w,i32_w];rw [c3b0])|skip)
   have H':=asd H
   clear H
   go_wp2
   go_meet
   case rel => exact ⟨_,((a0.toList == ([116,114,117,101,47,48] : List UInt8))),(by first|rfl|(simp;done)|(simp [*];done)),H',⟨by first|omega|exact Nat.le_refl _⟩,by repeat (first|exact Drawn0.refl _|apply Drawn0.step)⟩
  ·rw [if_neg c3] at H
   have c3b0 : (a0.toList == ([116,114,117,101,47,48] : List UInt8)) = false:=beq_eq_false_iff_ne.mpr c3
   have c3b1 : (a0.toList != ([116,114,117,101,47,48] : List UInt8)) = true:=bne_iff_ne.mpr c3
   (first|rw [c3b0]|(simp only [i64_w,i32_w];rw [c3b0])|skip)
   by_cases c4 : a0.toList = ([102,97,105,108,47,48] : List UInt8)
   ·rw [if_pos c4] at H
    have c4b0 : (a0.toList == ([102,97,105,108,47,48] : List UInt8)) = true:=beq_iff_eq.mpr c4
    have c4b1 : (a0.toList != ([102,97,105,108,47,48] : List UInt8)) = false:=bne_eq_false_iff_eq.mpr c4
    clear c4
    have H':=asd H
    clear H
    go_wp2
    go_meet
    case rel => exact ⟨_,((a0.toList == ([102,97,105,108,47,48] : List UInt8))),(by first|rfl|(simp;done)|(simp [*];done)),H',⟨by first|omega|exact Nat.le_refl _⟩,by repeat (first|exact Drawn0.refl _|apply Drawn0.step)⟩
   ·rw [if_neg c4] at H
    have c4b0 : (a0.toList == ([102,97,105,108,47,48] : List UInt8)) = false:=beq_eq_false_iff_ne.mpr c4
    have c4b1 : (a0.toList != ([102,97,105,108,47,48] : List UInt8)) = true:=bne_iff_ne.mpr c4
    by_cases c5 : a0.toList = ([33,47,48] : List UInt8)
    ·rw [if_pos c5] at H
     have c5b0 : (a0.toList == ([33,47,48] : List UInt8)) = true:=beq_iff_eq.mpr c5
     have c5b1 : (a0.toList != ([33,47,48] : List UInt8)) = false:=bne_eq_false_iff_eq.mpr c5
     clear c5
     have H':=asd H
     clear H
     go_wp2
     go_meet
     case rel => exact ⟨_,((a0.toList == ([33,47,48] : List UInt8))),(by first|rfl|(simp;done)|(simp [*];done)),H',⟨by first|omega|exact Nat.le_refl _⟩,by repeat (first|exact Drawn0.refl _|apply Drawn0.step)⟩
    ·rw [if_neg c5] at H
     have c5b0 : (a0.toList == ([33,47,48] : List UInt8)) = false:=beq_eq_false_iff_ne.mpr c5
     have c5b1 : (a0.toList != ([33,47,48] : List UInt8)) = true:=bne_iff_ne.mpr c5
     by_cases c6 : a0.toList = ([44,47,50] : List UInt8)
     ·rw [if_pos c6] at H
      have c6b0 : (a0.toList == ([44,47,50] : List UInt8)) = true:=beq_iff_eq.mpr c6
      have c6b1 : (a0.toList != ([44,47,50] : List UInt8)) = false:=bne_eq_false_iff_eq.mpr c6
      clear c6
      have H':=asd H
      clear H
      go_wp2
      go_meet
      case rel => exact ⟨_,((a0.toList == ([44,47,50] : List UInt8))),(by first|rfl|(simp;done)|(simp [*];done)),H',⟨by first|omega|exact Nat.le_refl _⟩,by repeat (first|exact Drawn0.refl _|apply Drawn0.step)⟩
     ·rw [if_neg c6] at H
      have c6b0 : (a0.toList == ([44,47,50] : List UInt8)) = false:=beq_eq_false_iff_ne.mpr c6
      have c6b1 : (a0.toList != ([44,47,50] : List UInt8)) = true:=bne_iff_ne.mpr c6
      by_cases c7 : a0.toList = ([59,47,50] : List UInt8)
      ·rw [if_pos c7] at H
       have c7b0 : (a0.toList == ([59,47,50] : List UInt8)) = true:=beq_iff_eq.mpr c7
       have c7b1 : (a0.toList != ([59,47,50] : List UInt8)) = false:=bne_eq_false_iff_eq.mpr c7
       clear c7
       have H':=asd H
       clear H
       go_wp2
       go_meet
       case rel => exact ⟨_,((a0.toList == ([59,47,50] : List UInt8))),(by first|rfl|(simp;done)|(simp [*];done)),H',⟨by first|omega|exact Nat.le_refl _⟩,by repeat (first|exact Drawn0.refl _|apply Drawn0.step)⟩
      ·rw [if_neg c7] at H
       have c7b0 : (a0.toList == ([59,47,50] : List UInt8)) = false:=beq_eq_false_iff_ne.mpr c7
       have c7b1 : (a0.toList != ([59,47,50] : List UInt8)) = true:=bne_iff_ne.mpr c7
       by_cases c8 : a0.toList = ([45,62,47,50] : List UInt8)
       ·rw [if_pos c8] at H
        have c8b0 : (a0.toList == ([45,62,47,50] : List UInt8)) = true:=beq_iff_eq.mpr c8
        have c8b1 : (a0.toList != ([45,62,47,50] : List UInt8)) = false:=bne_eq_false_iff_eq.mpr c8
        clear c8
        have H':=asd H
        clear H
        go_wp2
        go_meet
        case rel => exact ⟨_,((a0.toList == ([45,62,47,50] : List UInt8))),(by first|rfl|(simp;done)|(simp [*];done)),H',⟨by first|omega|exact Nat.le_refl _⟩,by repeat (first|exact Drawn0.refl _|apply Drawn0.step)⟩
       ·rw [if_neg c8] at H
        have c8b0 : (a0.toList == ([45,62,47,50] : List UInt8)) = false:=beq_eq_false_iff_ne.mpr c8
        have c8b1 : (a0.toList != ([45,62,47,50] : List UInt8)) = true:=bne_iff_ne.mpr c8
        by_cases c9 : a0.toList = ([92,43,47,49] : List UInt8)
        ·rw [if_pos c9] at H
         have c9b0 : (a0.toList == ([92,43,47,49] : List UInt8)) = true:=beq_iff_eq.mpr c9
         have c9b1 : (a0.toList != ([92,43,47,49] : List UInt8)) = false:=bne_eq_false_iff_eq.mpr c9
         clear c9
         have H':=asd H
         clear H
         go_wp2
         go_meet
         case rel => exact ⟨_,((a0.toList == ([92,43,47,49] : List UInt8))),(by first|rfl|(simp;done)|(simp [*];done)),H',⟨by first|omega|exact Nat.le_refl _⟩,by repeat (first|exact Drawn0.refl _|apply Drawn0.step)⟩
        ·rw [if_neg c9] at H
         have c9b0 : (a0.toList == ([92,43,47,49] : List UInt8)) = false:=beq_eq_false_iff_ne.mpr c9
         have c9b1 : (a0.toList != ([92,43,47,49] : List UInt8)) = true:=bne_iff_ne.mpr c9
         by_cases c10 : a0.toList = ([99,97,108,108,47,49] : List UInt8)
         ·rw [if_pos c10] at H
          have c10b0 : (a0.toList == ([99,97,108,108,47,49] : List UInt8)) = true:=beq_iff_eq.mpr c10
          have c10b1 : (a0.toList != ([99,97,108,108,47,49] : List UInt8)) = false:=bne_eq_false_iff_eq.mpr c10
          clear c10
          have H':=asd H
          clear H
          go_wp2
          go_meet
          case rel => exact ⟨_,((a0.toList == ([99,97,108,108,47,49] : List UInt8))),(by first|rfl|(simp;done)|(simp [*];done)),H',⟨by first|omega|exact Nat.le_refl _⟩,by repeat (first|exact Drawn0.refl _|apply Drawn0.step)⟩
         ·rw [if_neg c10] at H
          have c10b0 : (a0.toList == ([99,97,108,108,47,49] : List UInt8)) = false:=beq_eq_false_iff_ne.mpr c10
          have c10b1 : (a0.toList != ([99,97,108,108,47,49] : List UInt8)) = true:=bne_iff_ne.mpr c10
          by_cases c11 : a0.toList = ([99,97,108,108,47,50] : List UInt8)
          ·rw [if_pos c11] at H
           have c11b0 : (a0.toList == ([99,97,108,108,47,50] : List UInt8)) = true:=beq_iff_eq.mpr c11
           have c11b1 : (a0.toList != ([99,97,108,108,47,50] : List UInt8)) = false:=bne_eq_false_iff_eq.mpr c11
           clear c11
           have H':=asd H
           clear H
           go_wp2
           go_meet
           case rel => exact ⟨_,((a0.toList == ([99,97,108,108,47,50] : List UInt8))),(by first|rfl|(simp;done)|(simp [*];done)),H',⟨by first|omega|exact Nat.le_refl _⟩,by repeat (first|exact Drawn0.refl _|apply Drawn0.step)⟩
          ·rw [if_neg c11] at H
           have c11b0 : (a0.toList == ([99,97,108,108,47,50] : List UInt8)) = false:=beq_eq_false_iff_ne.mpr c11
           have c11b1 : (a0.toList != ([99,97,108,108,47,50] : List UInt8)) = true:=bne_iff_ne.mpr c11
           by_cases c12 : a0.toList = ([99,97,108,108,47,51] : List UInt8)
           ·rw [if_pos c12] at H
            have c12b0 : (a0.toList == ([99,97,108,108,47,51] : List UInt8)) = true:=beq_iff_eq.mpr c12
            have c12b1 : (a0.toList != ([99,97,108,108,47,51] : List UInt8)) = false:=bne_eq_false_iff_eq.mpr c12
            clear c12
            have H':=asd H
            clear H
            go_wp2
            go_meet
            case rel => exact ⟨_,((a0.toList == ([99,97,108,108,47,51] : List UInt8))),(by first|rfl|(simp;done)|(simp [*];done)),H',⟨by first|omega|exact Nat.le_refl _⟩,by repeat (first|exact Drawn0.refl _|apply Drawn0.step)⟩
           ·rw [if_neg c12] at H
            have c12b0 : (a0.toList == ([99,97,108,108,47,51] : List UInt8)) = false:=beq_eq_false_iff_ne.mpr c12
            have c12b1 : (a0.toList != ([99,97,108,108,47,51] : List UInt8)) = true:=bne_iff_ne.mpr c12
            by_cases c13 : a0.toList = ([99,97,116,99,104,47,51] : List UInt8)
            ·rw [if_pos c13] at H
             have c13b0 : (a0.toList == ([99,97,116,99,104,47,51] : List UInt8)) = true:=beq_iff_eq.mpr c13
             have c13b1 : (a0.toList != ([99,97,116,99,104,47,51] : List UInt8)) = false:=bne_eq_false_iff_eq.mpr c13
             clear c13
             have H':=asd H
             clear H
             go_wp2
             go_meet
             case rel => exact ⟨_,((a0.toList == ([99,97,116,99,104,47,51] : List UInt8))),(by first|rfl|(simp;done)|(simp [*];done)),H',⟨by first|omega|exact Nat.le_refl _⟩,by repeat (first|exact Drawn0.refl _|apply Drawn0.step)⟩
            ·rw [if_neg c13] at H
             have c13b0 : (a0.toList == ([99,97,116,99,104,47,51] : List UInt8)) = false:=beq_eq_false_iff_ne.mpr c13
             have c13b1 : (a0.toList != ([99,97,116,99,104,47,51] : List UInt8)) = true:=bne_iff_ne.mpr c13
             have H':=asd H
             clear H
             go_wp2
             go_meet
             case rel => exact ⟨_,((a0.toList == ([116,104,114,111,119,47,49] : List UInt8))),(by first|rfl|(simp;done)|(simp [*];done)),H',⟨by first|omega|exact Nat.le_refl _⟩,by repeat (first|exact Drawn0.refl _|apply Drawn0.step)⟩
 case rest =>
  clear HC2
  try clear c3
  try clear c3b0
  try clear c3b1
  try clear c4
  try clear c4b0
  try clear c4b1
  try clear c5
  try clear c5b0
  try clear c5b1
  try clear c6
  try clear c6b0
  try clear c6b1
  try clear c7
  try clear c7b0
  try clear c7b1
  try clear c8
  try clear c8b0
  try clear c8b1
  try clear c9
  try clear c9b0
  try clear c9b1
  try clear c10
  try clear c10b0
  try clear c10b1
  try clear c11
  try clear c11b0
  try clear c11b1
  try clear c12
  try clear c12b0
  try clear c12b1
  try clear c13
  try clear c13b0
  try clear c13b1
  obtain ⟨kq,x4_1,rfl,HA,HJ1,⟨mc1,rfl⟩⟩:=hcut
  cases kq with
  | zero => exact absurd HA.out (by simp [spec_Control.j0])
  | succ kj1 =>
   have H:=HA.out
   clear HA
   simp only [spec_Control.j0] at H
   by_cases c14 : x4_1 = true
   ·subst c14
    have H1 : (some true) = some r:=by rw [if_pos rfl] at H;exact H
    clear H
    have H:=H1
    clear H1
    obtain rfl:=Option.some.inj H
    go_wp2
    go_ret
    exact ⟨by first|rfl|(simp;done)|(simp [*];done),by repeat (first|exact Drawn0.refl _|apply Drawn0.step)⟩
   ·replace c14:=Bool.eq_false_iff.mpr c14
    subst c14
    have H1 : (if a0.toList = ([61,47,50] : List UInt8) then (some true) else (if a0.toList = ([92,61,47,50] : List UInt8) then (some true) else (if a0.toList = ([61,61,47,50] : List UInt8) then (some true) else (if a0.toList = ([105,115,47,50] : List UInt8) then (some true) else (if a0.toList = ([60,47,50] : List UInt8) then (some true) else (if a0.toList = ([61,58,61,47,50] : List UInt8) then (some true) else (if a0.toList = ([118,97,114,47,49] : List UInt8) then (some true) else (if a0.toList = ([97,116,111,109,47,49] : List UInt8) then (some true) else (if a0.toList = ([119,114,105,116,101,47,49] : List UInt8) then (some true) else (if a0.toList = ([97,115,115,101,114,116,122,47,49] : List UInt8) then (some true) else (if a0.toList = ([114,101,116,114,97,99,116,47,49] : List UInt8) then (some true) else (if a0.toList = ([58,45,47,50] : List UInt8) then (some true) else (if a0.toList = ([58,45,47,49] : List UInt8) then (some true) else (if a0.toList = ([45,45,62,47,50] : List UInt8) then (some true) else (some false))))))))))))))) = some r:=by rw [if_neg (show ¬ (false = true) by decide)] at H;exact H
    clear H
    have H:=H1
    clear H1
    by_cases c15 : a0.toList = ([61,47,50] : List UInt8)
    ·rw [if_pos c15] at H
     have c15b0 : (a0.toList == ([61,47,50] : List UInt8)) = true:=beq_iff_eq.mpr c15
     have c15b1 : (a0.toList != ([61,47,50] : List UInt8)) = false:=bne_eq_false_iff_eq.mpr c15
     clear c15
     obtain rfl:=Option.some.inj H
     go_wp2
     go_ret
     exact ⟨by first|rfl|(simp;done)|(simp [*];done),by repeat (first|exact Drawn0.refl _|apply Drawn0.step)⟩
    ·rw [if_neg c15] at H
     have c15b0 : (a0.toList == ([61,47,50] : List UInt8)) = false:=beq_eq_false_iff_ne.mpr c15
     have c15b1 : (a0.toList != ([61,47,50] : List UInt8)) = true:=bne_iff_ne.mpr c15
     by_cases c16 : a0.toList = ([92,61,47,50] : List UInt8)
     ·rw [if_pos c16] at H
      have c16b0 : (a0.toList == ([92,61,47,50] : List UInt8)) = true:=beq_iff_eq.mpr c16
      have c16b1 : (a0.toList != ([92,61,47,50] : List UInt8)) = false:=bne_eq_false_iff_eq.mpr c16
      clear c16
      obtain rfl:=Option.some.inj H
      go_wp2
      go_ret
      exact ⟨by first|rfl|(simp;done)|(simp [*];done),by repeat (first|exact Drawn0.refl _|apply Drawn0.step)⟩
     ·rw [if_neg c16] at H
      have c16b0 : (a0.toList == ([92,61,47,50] : List UInt8)) = false:=beq_eq_false_iff_ne.mpr c16
      have c16b1 : (a0.toList != ([92,61,47,50] : List UInt8)) = true:=bne_iff_ne.mpr c16
      by_cases c17 : a0.toList = ([61,61,47,50] : List UInt8)
      ·rw [if_pos c17] at H
       have c17b0 : (a0.toList == ([61,61,47,50] : List UInt8)) = true:=beq_iff_eq.mpr c17
       have c17b1 : (a0.toList != ([61,61,47,50] : List UInt8)) = false:=bne_eq_false_iff_eq.mpr c17
       clear c17
       obtain rfl:=Option.some.inj H
       go_wp2
       go_ret
       exact ⟨by first|rfl|(simp;done)|(simp [*];done),by repeat (first|exact Drawn0.refl _|apply Drawn0.step)⟩
      ·rw [if_neg c17] at H
       have c17b0 : (a0.toList == ([61,61,47,50] : List UInt8)) = false:=beq_eq_false_iff_ne.mpr c17
       have c17b1 : (a0.toList != ([61,61,47,50] : List UInt8)) = true:=bne_iff_ne.mpr c17
       by_cases c18 : a0.toList = ([105,115,47,50] : List UInt8)
       ·rw [if_pos c18] at H
        have c18b0 : (a0.toList == ([105,115,47,50] : List UInt8)) = true:=beq_iff_eq.mpr c18
        have c18b1 : (a0.toList != ([105,115,47,50] : List UInt8)) = false:=bne_eq_false_iff_eq.mpr c18
        clear c18
        obtain rfl:=Option.some.inj H
        go_wp2
        go_ret
        exact ⟨by first|rfl|(simp;done)|(simp [*];done),by repeat (first|exact Drawn0.refl _|apply Drawn0.step)⟩
       ·rw [if_neg c18] at H
        have c18b0 : (a0.toList == ([105,115,47,50] : List UInt8)) = false:=beq_eq_false_iff_ne.mpr c18
        have c18b1 : (a0.toList != ([105,115,47,50] : List UInt8)) = true:=bne_iff_ne.mpr c18
        by_cases c19 : a0.toList = ([60,47,50] : List UInt8)
        ·rw [if_pos c19] at H
         have c19b0 : (a0.toList == ([60,47,50] : List UInt8)) = true:=beq_iff_eq.mpr c19
         have c19b1 : (a0.toList != ([60,47,50] : List UInt8)) = false:=bne_eq_false_iff_eq.mpr c19
         clear c19
         obtain rfl:=Option.some.inj H
         go_wp2
         go_ret
         exact ⟨by first|rfl|(simp;done)|(simp [*];done),by repeat (first|exact Drawn0.refl _|apply Drawn0.step)⟩
        ·rw [if_neg c19] at H
         have c19b0 : (a0.toList == ([60,47,50] : List UInt8)) = false:=beq_eq_false_iff_ne.mpr c19
         have c19b1 : (a0.toList != ([60,47,50] : List UInt8)) = true:=bne_iff_ne.mpr c19
         by_cases c20 : a0.toList = ([61,58,61,47,50] : List UInt8)
         ·rw [if_pos c20] at H
          have c20b0 : (a0.toList == ([61,58,61,47,50] : List UInt8)) = true:=beq_iff_eq.mpr c20
          have c20b1 : (a0.toList != ([61,58,61,47,50] : List UInt8)) = false:=bne_eq_false_iff_eq.mpr c20
          clear c20
          obtain rfl:=Option.some.inj H
          go_wp2
          go_ret
          exact ⟨by first|rfl|(simp;done)|(simp [*];done),by repeat (first|exact Drawn0.refl _|apply Drawn0.step)⟩
         ·rw [if_neg c20] at H
          have c20b0 : (a0.toList == ([61,58,61,47,50] : List UInt8)) = false:=beq_eq_false_iff_ne.mpr c20
          have c20b1 : (a0.toList != ([61,58,61,47,50] : List UInt8)) = true:=bne_iff_ne.mpr c20
          by_cases c21 : a0.toList = ([118,97,114,47,49] : List UInt8)
          ·rw [if_pos c21] at H
           have c21b0 : (a0.toList == ([118,97,114,47,49] : List UInt8)) = true:=beq_iff_eq.mpr c21
           have c21b1 : (a0.toList != ([118,97,114,47,49] : List UInt8)) = false:=bne_eq_false_iff_eq.mpr c21
           clear c21
           obtain rfl:=Option.some.inj H
           go_wp2
           go_ret
           exact ⟨by first|rfl|(simp;done)|(simp [*];done),by repeat (first|exact Drawn0.refl _|apply Drawn0.step)⟩
          ·rw [if_neg c21] at H
           have c21b0 : (a0.toList == ([118,97,114,47,49] : List UInt8)) = false:=beq_eq_false_iff_ne.mpr c21
           have c21b1 : (a0.toList != ([118,97,114,47,49] : List UInt8)) = true:=bne_iff_ne.mpr c21
           by_cases c22 : a0.toList = ([97,116,111,109,47,49] : List UInt8)
           ·rw [if_pos c22] at H
            have c22b0 : (a0.toList == ([97,116,111,109,47,49] : List UInt8)) = true:=beq_iff_eq.mpr c22
            have c22b1 : (a0.toList != ([97,116,111,109,47,49] : List UInt8)) = false:=bne_eq_false_iff_eq.mpr c22
            clear c22
            obtain rfl:=Option.some.inj H
            go_wp2
            go_ret
            exact ⟨by first|rfl|(simp;done)|(simp [*];done),by repeat (first|exact Drawn0.refl _|apply Drawn0.step)⟩
           ·rw [if_neg c22] at H
            have c22b0 : (a0.toList == ([97,116,111,109,47,49] : List UInt8)) = false:=beq_eq_false_iff_ne.mpr c22
            have c22b1 : (a0.toList != ([97,116,111,109,47,49] : List UInt8)) = true:=bne_iff_ne.mpr c22
            by_cases c23 : a0.toList = ([119,114,105,116,101,47,49] : List UInt8)
            ·rw [if_pos c23] at H
             have c23b0 : (a0.toList == ([119,114,105,116,101,47,49] : List UInt8)) = true:=beq_iff_eq.mpr c23
             have c23b1 : (a0.toList != ([119,114,105,116,101,47,49] : List UInt8)) = false:=bne_eq_false_iff_eq.mpr c23
             clear c23
             obtain rfl:=Option.some.inj H
             go_wp2
             go_ret
             exact ⟨by first|rfl|(simp;done)|(simp [*];done),by repeat (first|exact Drawn0.refl _|apply Drawn0.step)⟩
            ·rw [if_neg c23] at H
             have c23b0 : (a0.toList == ([119,114,105,116,101,47,49] : List UInt8)) = false:=beq_eq_false_iff_ne.mpr c23
             have c23b1 : (a0.toList != ([119,114,105,116,101,47,49] : List UInt8)) = true:=bne_iff_ne.mpr c23
             by_cases c24 : a0.toList = ([97,115,115,101,114,116,122,47,49] : List UInt8)
             ·rw [if_pos c24] at H
              have c24b0 : (a0.toList == ([97,115,115,101,114,116,122,47,49] : List UInt8)) = true:=beq_iff_eq.mpr c24
              have c24b1 : (a0.toList != ([97,115,115,101,114,116,122,47,49] : List UInt8)) = false:=bne_eq_false_iff_eq.mpr c24
              clear c24
              obtain rfl:=Option.some.inj H
              go_wp2
              go_ret
              exact ⟨by first|rfl|(simp;done)|(simp [*];done),by repeat (first|exact Drawn0.refl _|apply Drawn0.step)⟩
             ·rw [if_neg c24] at H
              have c24b0 : (a0.toList == ([97,115,115,101,114,116,122,47,49] : List UInt8)) = false:=beq_eq_false_iff_ne.mpr c24
              have c24b1 : (a0.toList != ([97,115,115,101,114,116,122,47,49] : List UInt8)) = true:=bne_iff_ne.mpr c24
              by_cases c25 : a0.toList = ([114,101,116,114,97,99,116,47,49] : List UInt8)
              ·rw [if_pos c25] at H
               have c25b0 : (a0.toList == ([114,101,116,114,97,99,116,47,49] : List UInt8)) = true:=beq_iff_eq.mpr c25
               have c25b1 : (a0.toList != ([114,101,116,114,97,99,116,47,49] : List UInt8)) = false:=bne_eq_false_iff_eq.mpr c25
               clear c25
               obtain rfl:=Option.some.inj H
               go_wp2
               go_ret
               exact ⟨by first|rfl|(simp;done)|(simp [*];done),by repeat (first|exact Drawn0.refl _|apply Drawn0.step)⟩
              ·rw [if_neg c25] at H
               have c25b0 : (a0.toList == ([114,101,116,114,97,99,116,47,49] : List UInt8)) = false:=beq_eq_false_iff_ne.mpr c25
               have c25b1 : (a0.toList != ([114,101,116,114,97,99,116,47,49] : List UInt8)) = true:=bne_iff_ne.mpr c25
               by_cases c26 : a0.toList = ([58,45,47,50] : List UInt8)
               ·rw [if_pos c26] at H
                have c26b0 : (a0.toList == ([58,45,47,50] : List UInt8)) = true:=beq_iff_eq.mpr c26
                have c26b1 : (a0.toList != ([58,45,47,50] : List UInt8)) = false:=bne_eq_false_iff_eq.mpr c26
                clear c26
                obtain rfl:=Option.some.inj H
                go_wp2
                go_ret
                exact ⟨by first|rfl|(simp;done)|(simp [*];done),by repeat (first|exact Drawn0.refl _|apply Drawn0.step)⟩
               ·rw [if_neg c26] at H
                have c26b0 : (a0.toList == ([58,45,47,50] : List UInt8)) = false:=beq_eq_false_iff_ne.mpr c26
                have c26b1 : (a0.toList != ([58,45,47,50] : List UInt8)) = true:=bne_iff_ne.mpr c26
                by_cases c27 : a0.toList = ([58,45,47,49] : List UInt8)
                ·rw [if_pos c27] at H
                 have c27b0 : (a0.toList == ([58,45,47,49] : List UInt8)) = true:=beq_iff_eq.mpr c27
                 have c27b1 : (a0.toList != ([58,45,47,49] : List UInt8)) = false:=bne_eq_false_iff_eq.mpr c27
                 clear c27
                 obtain rfl:=Option.some.inj H
                 go_wp2
                 go_ret
                 exact ⟨by first|rfl|(simp;done)|(simp [*];done),by repeat (first|exact Drawn0.refl _|apply Drawn0.step)⟩
                ·rw [if_neg c27] at H
                 have c27b0 : (a0.toList == ([58,45,47,49] : List UInt8)) = false:=beq_eq_false_iff_ne.mpr c27
                 have c27b1 : (a0.toList != ([58,45,47,49] : List UInt8)) = true:=bne_iff_ne.mpr c27
                 by_cases c28 : a0.toList = ([45,45,62,47,50] : List UInt8)
                 ·rw [if_pos c28] at H
                  have c28b0 : (a0.toList == ([45,45,62,47,50] : List UInt8)) = true:=beq_iff_eq.mpr c28
                  have c28b1 : (a0.toList != ([45,45,62,47,50] : List UInt8)) = false:=bne_eq_false_iff_eq.mpr c28
                  clear c28
                  obtain rfl:=Option.some.inj H
                  go_wp2
                  go_ret
                  exact ⟨by first|rfl|(simp;done)|(simp [*];done),by repeat (first|exact Drawn0.refl _|apply Drawn0.step)⟩
                 ·rw [if_neg c28] at H
                  have c28b0 : (a0.toList == ([45,45,62,47,50] : List UInt8)) = false:=beq_eq_false_iff_ne.mpr c28
                  have c28b1 : (a0.toList != ([45,45,62,47,50] : List UInt8)) = true:=bne_iff_ne.mpr c28
                  obtain rfl:=Option.some.inj H
                  go_wp2
                  go_ret
                  exact ⟨by first|rfl|(simp;done)|(simp [*];done),by repeat (first|exact Drawn0.refl _|apply Drawn0.step)⟩
def spec_l08Head.f (k : Nat) (a0_0 : Int) (a0_1 : ByteArray) (a0_2 : Int) (l0_3 : List (S29)) : Option (Bool):=(spec_PredOf.f k a0_0 a0_1 a0_2 l0_3).bind fun t143 => (if t143.toList = ([] : List UInt8) then (some false) else ((spec_Control.f k t143).bind fun t144 => (some (!t144))))
theorem spec_l08Head.mono : ∀ a0 a1 a2 a3 k,LeO (spec_l08Head.f k a0 a1 a2 a3) (spec_l08Head.f (k + 1) a0 a1 a2 a3):=by
 intro a0 a1 a2 a3 k
 unfold spec_l08Head.f
 repeat' first
   | (with_reducible exact spec_Control.mono _ _)
   | (with_reducible exact spec_PredOf.mono _ _ _ _ _)
   | (with_reducible exact LeO.refl _)
   | (with_reducible exact LeO.none _)
   | (with_reducible refine LeO.ite ?_ ?_)
   | (with_reducible refine LeO.bind ?_ (fun _ => ?_))
   | exact spec_Control.mono _ _
   | exact spec_PredOf.mono _ _ _ _ _
   | exact LeO.none _
   | refine LeO.ite ?_ ?_
   | refine LeO.bind ?_ (fun _ => ?_)
set_option maxHeartbeats 8000000 in
set_option maxRecDepth 100000 in
theorem spec_l08Head.calls (k : Nat) (a0_0 : Int) (a0_1 : ByteArray) (a0_2 : Int) (A0_3 : Option Addr) (c0_3 : Nat) (l0_3 : List (S29)) (r : Bool) (w : World) (hr0_3 : Kd.C k29 w A0_3 l0_3.length l0_3) (hc0_3 : l0_3.length ≤ c0_3) (h : spec_l08Head.f k a0_0 a0_1 a0_2 l0_3 = some r) :
  Calls Tryd.prog 87 #[.agg #[.int .i64 a0_0,.string a0_1,.int .i64 a0_2,.slice A0_3 l0_3.length c0_3]] w fun e w' => e = .returned (.bool r) ∧ Below w.heap.size w w':=by
 have hu29:=Tryd.underlying29
 have HR0_3:=asd hr0_3
 have HC0_3:=asd hc0_3
 clear hr0_3 hc0_3
 have HB:=asd (Below.refl w.heap.size w)
 have H : ((spec_PredOf.f k a0_0 a0_1 a0_2 l0_3).bind fun t143 => (if t143.toList = ([] : List UInt8) then (some false) else ((spec_Control.f k t143).bind fun t144 => (some (!t144))))) = some r:=h
 clear h
 replace H:=Option.bind_eq_some_iff.mp H
 obtain ⟨t143,A20,H⟩:=H
 replace H : (if t143.toList = ([] : List UInt8) then (some false) else ((spec_Control.f k t143).bind fun t144 => (some (!t144)))) = some r:=H
 have A2:=asd A20
 clear A20
 by_cases c3 : t143.toList = ([] : List UInt8)
 ·rw [if_pos c3] at H
  have c3b0 : (t143.toList == ([] : List UInt8)) = true:=beq_iff_eq.mpr c3
  have c3b1 : (t143.toList != ([] : List UInt8)) = false:=bne_eq_false_iff_eq.mpr c3
  clear c3
  obtain rfl:=Option.some.inj H
  go_enter Tryd.func87,Tryd.ntmps87
  go_wp2_with (first|((with_reducible refine gate_dst (N:=1) rfl ?_);refine box_event ?hg (N:=1) ?hd (cs:=#[.int .i64 a0_0,.string a0_1,.int .i64 a0_2,.slice A0_3 l0_3.length c0_3]) (t:=29) ?hr ?_;(case hd => rfl);(case hg => rfl);(case hr => first|(go_simp;done)|(go_simp;rfl));intro gb142 hg w4 hbox hb;have n0_:=asd (below_step (by repeat (first|(with_reducible first|exact HB.out|apply below_alloc|apply pw_below_drewN|apply below_drew1)|exact HB.out)) hb);have n1_:=asd (hbox);have n2_:=asd ((by rw [hg];exact (below_size (by repeat (first|(with_reducible first|exact HB.out|apply below_alloc|apply pw_below_drewN|apply below_drew1)|exact HB.out))) : w.heap.size ≤ gb142));have n3_:=asd ((by rw [hg];exact (below_size (by repeat (first|(with_reducible first|exact HB.out|apply below_alloc|apply pw_below_drewN|apply below_drew1)|exact HB.out))) : w.heap.size ≤ gb142));clear HB;have HB:=n0_;have BK142:=n1_;have GW142:=n2_;have GE142:=n3_;clear n0_ n1_ n2_ n3_;clear hb hbox hg;have hcz5_0 : w4.cell? ⟨gb142,0,none⟩ = some (.int .i64 a0_0):=(blk_cell BK142.out 0).trans rfl;have hcz5_1 : w4.cell? ⟨gb142,1,none⟩ = some (.string a0_1):=(blk_cell BK142.out 1).trans rfl;have hcz5_2 : w4.cell? ⟨gb142,2,none⟩ = some (.int .i64 a0_2):=(blk_cell BK142.out 2).trans rfl;have hcz5_3 : w4.cell? ⟨gb142,3,none⟩ = some (.slice A0_3 l0_3.length c0_3):=(blk_cell BK142.out 3).trans rfl;have hfz5_0:=blk_frozen BK142.out 0;have hfz5_1:=blk_frozen BK142.out 1;have hfz5_2:=blk_frozen BK142.out 2;have hfz5_3:=blk_frozen BK142.out 3)|((with_reducible refine gate_callee (f:=11) rfl ?_);refine goesL_ (some 5) rfl rfl Tryd.func11 (by kernel_rfl) rfl #[.agg #[.int .i64 a0_0,.string a0_1,.int .i64 a0_2,.slice A0_3 l0_3.length c0_3]] rfl (by (try simp only [List.map_toArray,List.map_cons,List.map_nil]);first|done|rfl|(simp only [List.length_drop,List.length_take];rfl)) ?_;(with_reducible refine (spec_PredOf.calls k a0_0 a0_1 a0_2 _ _ l0_3 t143 _ ?side1 ?side2 A2.out).mono ?_);(case side1 => repeat (first|exact (Kd.C_below HR0_3.out HB.out)|(with_reducible refine Kd.C_alloc ?_ _)|(with_reducible refine Kd.C_drewN ?_ _)|(with_reducible refine Kd.C_drew ?_)));(case side2 => exact HC0_3.out);rintro e w6 ⟨rfl,hb⟩;refine ⟨_,rfl,?_⟩;have n0_:=asd (blk_below (g:=gb142) (o:=.cells #[.int .i64 a0_0,.string a0_1,.int .i64 a0_2,.slice A0_3 l0_3.length c0_3] 29 (0,0)) (by (with_reducible repeat (first|refine blk_drewN ?_ _|refine blk_drew ?_|refine blk_alloc ?_ _));exact BK142.out) hb);have n1_:=asd (below_step (by repeat (first|(with_reducible first|exact HB.out|apply below_alloc|apply pw_below_drewN|apply below_drew1|refine below_set ?_ GE142.out)|exact HB.out)) hb);clear BK142;clear HB;have BK142:=n0_;have HB:=n1_;clear n0_ n1_;(try clear hb)))
  go_ret
  exact ⟨by first|rfl|(simp [errW_none,errW_some] <;> rfl)|(simp [*,errW_none,errW_some] <;> rfl),by repeat (first|(with_reducible first|exact HB.out|apply below_alloc|apply pw_below_drewN|apply below_drew1|refine below_set ?_ GE142.out)|exact HB.out)⟩
 ·rw [if_neg c3] at H
  have c3b0 : (t143.toList == ([] : List UInt8)) = false:=beq_eq_false_iff_ne.mpr c3
  have c3b1 : (t143.toList != ([] : List UInt8)) = true:=bne_iff_ne.mpr c3
  replace H:=Option.bind_eq_some_iff.mp H
  obtain ⟨t144,A70,H⟩:=H
  replace H : (some (!t144)) = some r:=H
  have A7:=asd A70
  clear A70
  obtain rfl:=Option.some.inj H
  go_enter Tryd.func87,Tryd.ntmps87
  go_wp2_with (first|((with_reducible refine gate_dst (N:=1) rfl ?_);refine box_event ?hg (N:=1) ?hd (cs:=#[.int .i64 a0_0,.string a0_1,.int .i64 a0_2,.slice A0_3 l0_3.length c0_3]) (t:=29) ?hr ?_;(case hd => rfl);(case hg => rfl);(case hr => first|(go_simp;done)|(go_simp;rfl));intro gb142 hg w8 hbox hb;have n0_:=asd (below_step (by repeat (first|(with_reducible first|exact HB.out|apply below_alloc|apply pw_below_drewN|apply below_drew1)|exact HB.out)) hb);have n1_:=asd (hbox);have n2_:=asd ((by rw [hg];exact (below_size (by repeat (first|(with_reducible first|exact HB.out|apply below_alloc|apply pw_below_drewN|apply below_drew1)|exact HB.out))) : w.heap.size ≤ gb142));have n3_:=asd ((by rw [hg];exact (below_size (by repeat (first|(with_reducible first|exact HB.out|apply below_alloc|apply pw_below_drewN|apply below_drew1)|exact HB.out))) : w.heap.size ≤ gb142));clear HB;have HB:=n0_;have BK142:=n1_;have GW142:=n2_;have GE142:=n3_;clear n0_ n1_ n2_ n3_;clear hb hbox hg;have hcz9_0 : w8.cell? ⟨gb142,0,none⟩ = some (.int .i64 a0_0):=(blk_cell BK142.out 0).trans rfl;have hcz9_1 : w8.cell? ⟨gb142,1,none⟩ = some (.string a0_1):=(blk_cell BK142.out 1).trans rfl;have hcz9_2 : w8.cell? ⟨gb142,2,none⟩ = some (.int .i64 a0_2):=(blk_cell BK142.out 2).trans rfl;have hcz9_3 : w8.cell? ⟨gb142,3,none⟩ = some (.slice A0_3 l0_3.length c0_3):=(blk_cell BK142.out 3).trans rfl;have hfz9_0:=blk_frozen BK142.out 0;have hfz9_1:=blk_frozen BK142.out 1;have hfz9_2:=blk_frozen BK142.out 2;have hfz9_3:=blk_frozen BK142.out 3)|((with_reducible refine gate_callee (f:=11) rfl ?_);refine goesL_ (some 5) rfl rfl Tryd.func11 (by kernel_rfl) rfl #[.agg #[.int .i64 a0_0,.string a0_1,.int .i64 a0_2,.slice A0_3 l0_3.length c0_3]] rfl (by (try simp only [List.map_toArray,List.map_cons,List.map_nil]);first|done|rfl|(simp only [List.length_drop,List.length_take];rfl)) ?_;(with_reducible refine (spec_PredOf.calls k a0_0 a0_1 a0_2 _ _ l0_3 t143 _ ?side1 ?side2 A2.out).mono ?_);(case side1 => repeat (first|exact (Kd.C_below HR0_3.out HB.out)|(with_reducible refine Kd.C_alloc ?_ _)|(with_reducible refine Kd.C_drewN ?_ _)|(with_reducible refine Kd.C_drew ?_)));(case side2 => exact HC0_3.out);rintro e w10 ⟨rfl,hb⟩;refine ⟨_,rfl,?_⟩;have n0_:=asd (blk_below (g:=gb142) (o:=.cells #[.int .i64 a0_0,.string a0_1,.int .i64 a0_2,.slice A0_3 l0_3.length c0_3] 29 (0,0)) (by (with_reducible repeat (first|refine blk_drewN ?_ _|refine blk_drew ?_|refine blk_alloc ?_ _));exact BK142.out) hb);have n1_:=asd (below_step (by repeat (first|(with_reducible first|exact HB.out|apply below_alloc|apply pw_below_drewN|apply below_drew1|refine below_set ?_ GE142.out)|exact HB.out)) hb);clear BK142;clear HB;have BK142:=n0_;have HB:=n1_;clear n0_ n1_;(try clear hb))|(go_at_call 109;(with_reducible refine (spec_Control.calls k t143 t144 _ A7.out).mono ?_);rintro e w' ⟨rfl,⟨nd,rfl⟩⟩))
  go_ret
  exact ⟨by first|rfl|(simp [errW_none,errW_some] <;> rfl)|(simp [*,errW_none,errW_some] <;> rfl),by repeat (first|(with_reducible first|exact HB.out|apply below_alloc|apply pw_below_drewN|apply below_drew1|refine below_set ?_ GE142.out)|exact HB.out)⟩
def spec_l03Is.f (a0_0 : Int) (a0_1 : ByteArray) (a0_2 : Int) (l0_3 : List (S29)) (a1 : ByteArray) (a2 : Int) : Option (Bool):=if a0_0 = 4 then (if a0_1.toList = a1.toList then (some ((l0_3.length : Int) == a2)) else (some false)) else (some false)
set_option maxHeartbeats 8000000 in
set_option maxRecDepth 100000 in
theorem spec_l03Is.calls (a0_0 : Int) (a0_1 : ByteArray) (a0_2 : Int) (A0_3 : Option Addr) (c0_3 : Nat) (l0_3 : List (S29)) (a1 : ByteArray) (a2 : Int) (r : Bool) (w : World) (hr0_3 : Kd.C k29 w A0_3 l0_3.length l0_3) (hc0_3 : l0_3.length ≤ c0_3) (h : spec_l03Is.f a0_0 a0_1 a0_2 l0_3 a1 a2 = some r) :
  Calls Tryd.prog 90 #[.agg #[.int .i64 a0_0,.string a0_1,.int .i64 a0_2,.slice A0_3 l0_3.length c0_3],.string a1,.int .i64 a2] w fun e w' => e = .returned (.bool r) ∧ Below w.heap.size w w':=by
 have hu29:=Tryd.underlying29
 have HR0_3:=asd hr0_3
 have HC0_3:=asd hc0_3
 clear hr0_3 hc0_3
 have HB:=asd (Below.refl w.heap.size w)
 have H : (if a0_0 = 4 then (if a0_1.toList = a1.toList then (some ((l0_3.length : Int) == a2)) else (some false)) else (some false)) = some r:=h
 clear h
 by_cases c4 : a0_0 = 4
 ·rw [if_pos c4] at H
  have c4b0 : (a0_0 == 4) = true:=beq_iff_eq.mpr c4
  have c4b1 : (a0_0 != 4) = false:=bne_eq_false_iff_eq.mpr c4
  clear c4
  by_cases c5 : a0_1.toList = a1.toList
  ·rw [if_pos c5] at H
   have c5b0 : (a0_1.toList == a1.toList) = true:=beq_iff_eq.mpr c5
   have c5b1 : (a0_1.toList != a1.toList) = false:=bne_eq_false_iff_eq.mpr c5
   clear c5
   obtain rfl:=Option.some.inj H
   go_enter Tryd.func90,Tryd.ntmps90
   go_wp2_with (first|((with_reducible refine gate_dst (N:=3) rfl ?_);(try (refine gate_guard (by rfl) ?_;dsimp only));refine box_event ?hg (N:=3) ?hd (cs:=#[.int .i64 a0_0,.string a0_1,.int .i64 a0_2,.slice A0_3 l0_3.length c0_3]) (t:=29) ?hr ?_;(case hd => rfl);(case hg => rfl);(case hr => first|(go_simp;done)|(go_simp;rfl));intro gb145 hg w6 hbox hb;have n0_:=asd (below_step (by repeat (first|(with_reducible first|exact HB.out|apply below_alloc|apply pw_below_drewN|apply below_drew1)|exact HB.out)) hb);have n1_:=asd (hbox);have n2_:=asd ((by rw [hg];exact (below_size (by repeat (first|(with_reducible first|exact HB.out|apply below_alloc|apply pw_below_drewN|apply below_drew1)|exact HB.out))) : w.heap.size ≤ gb145));have n3_:=asd ((by rw [hg];exact (below_size (by repeat (first|(with_reducible first|exact HB.out|apply below_alloc|apply pw_below_drewN|apply below_drew1)|exact HB.out))) : w.heap.size ≤ gb145));clear HB;have HB:=n0_;have BK145:=n1_;have GW145:=n2_;have GE145:=n3_;clear n0_ n1_ n2_ n3_;clear hb hbox hg;have hcz7_0 : w6.cell? ⟨gb145,0,none⟩ = some (.int .i64 a0_0):=(blk_cell BK145.out 0).trans rfl;have hcz7_1 : w6.cell? ⟨gb145,1,none⟩ = some (.string a0_1):=(blk_cell BK145.out 1).trans rfl;have hcz7_2 : w6.cell? ⟨gb145,2,none⟩ = some (.int .i64 a0_2):=(blk_cell BK145.out 2).trans rfl;have hcz7_3 : w6.cell? ⟨gb145,3,none⟩ = some (.slice A0_3 l0_3.length c0_3):=(blk_cell BK145.out 3).trans rfl;have hfz7_0:=blk_frozen BK145.out 0;have hfz7_1:=blk_frozen BK145.out 1;have hfz7_2:=blk_frozen BK145.out 2;have hfz7_3:=blk_frozen BK145.out 3))
   go_ret
   exact ⟨by first|rfl|(simp [errW_none,errW_some] <;> rfl)|(simp [*,errW_none,errW_some] <;> rfl),by repeat (first|(with_reducible first|exact HB.out|apply below_alloc|apply pw_below_drewN|apply below_drew1|refine below_set ?_ GE145.out)|exact HB.out)⟩
  ·rw [if_neg c5] at H
   have c5b0 : (a0_1.toList == a1.toList) = false:=beq_eq_false_iff_ne.mpr c5
   have c5b1 : (a0_1.toList != a1.toList) = true:=bne_iff_ne.mpr c5
   obtain rfl:=Option.some.inj H
   go_enter Tryd.func90,Tryd.ntmps90
   go_wp2_with (first|((with_reducible refine gate_dst (N:=3) rfl ?_);(try (refine gate_guard (by rfl) ?_;dsimp only));refine box_event ?hg (N:=3) ?hd (cs:=#[.int .i64 a0_0,.string a0_1,.int .i64 a0_2,.slice A0_3 l0_3.length c0_3]) (t:=29) ?hr ?_;(case hd => rfl);(case hg => rfl);(case hr => first|(go_simp;done)|(go_simp;rfl));intro gb145 hg w8 hbox hb;have n0_:=asd (below_step (by repeat (first|(with_reducible first|exact HB.out|apply below_alloc|apply pw_below_drewN|apply below_drew1)|exact HB.out)) hb);have n1_:=asd (hbox);have n2_:=asd ((by rw [hg];exact (below_size (by repeat (first|(with_reducible first|exact HB.out|apply below_alloc|apply pw_below_drewN|apply below_drew1)|exact HB.out))) : w.heap.size ≤ gb145));have n3_:=asd ((by rw [hg];exact (below_size (by repeat (first|(with_reducible first|exact HB.out|apply below_alloc|apply pw_below_drewN|apply below_drew1)|exact HB.out))) : w.heap.size ≤ gb145));clear HB;have HB:=n0_;have BK145:=n1_;have GW145:=n2_;have GE145:=n3_;clear n0_ n1_ n2_ n3_;clear hb hbox hg;have hcz9_0 : w8.cell? ⟨gb145,0,none⟩ = some (.int .i64 a0_0):=(blk_cell BK145.out 0).trans rfl;have hcz9_1 : w8.cell? ⟨gb145,1,none⟩ = some (.string a0_1):=(blk_cell BK145.out 1).trans rfl;have hcz9_2 : w8.cell? ⟨gb145,2,none⟩ = some (.int .i64 a0_2):=(blk_cell BK145.out 2).trans rfl;have hcz9_3 : w8.cell? ⟨gb145,3,none⟩ = some (.slice A0_3 l0_3.length c0_3):=(blk_cell BK145.out 3).trans rfl;have hfz9_0:=blk_frozen BK145.out 0;have hfz9_1:=blk_frozen BK145.out 1;have hfz9_2:=blk_frozen BK145.out 2;have hfz9_3:=blk_frozen BK145.out 3))
   go_ret
   exact ⟨by first|rfl|(simp [errW_none,errW_some] <;> rfl)|(simp [*,errW_none,errW_some] <;> rfl),by repeat (first|(with_reducible first|exact HB.out|apply below_alloc|apply pw_below_drewN|apply below_drew1|refine below_set ?_ GE145.out)|exact HB.out)⟩
 ·rw [if_neg c4] at H
  have c4b0 : (a0_0 == 4) = false:=beq_eq_false_iff_ne.mpr c4
  have c4b1 : (a0_0 != 4) = true:=bne_iff_ne.mpr c4
  obtain rfl:=Option.some.inj H
  go_enter Tryd.func90,Tryd.ntmps90
  go_wp2_with (first|((with_reducible refine gate_dst (N:=3) rfl ?_);(try (refine gate_guard (by rfl) ?_;dsimp only));refine box_event ?hg (N:=3) ?hd (cs:=#[.int .i64 a0_0,.string a0_1,.int .i64 a0_2,.slice A0_3 l0_3.length c0_3]) (t:=29) ?hr ?_;(case hd => rfl);(case hg => rfl);(case hr => first|(go_simp;done)|(go_simp;rfl));intro gb145 hg w10 hbox hb;have n0_:=asd (below_step (by repeat (first|(with_reducible first|exact HB.out|apply below_alloc|apply pw_below_drewN|apply below_drew1)|exact HB.out)) hb);have n1_:=asd (hbox);have n2_:=asd ((by rw [hg];exact (below_size (by repeat (first|(with_reducible first|exact HB.out|apply below_alloc|apply pw_below_drewN|apply below_drew1)|exact HB.out))) : w.heap.size ≤ gb145));have n3_:=asd ((by rw [hg];exact (below_size (by repeat (first|(with_reducible first|exact HB.out|apply below_alloc|apply pw_below_drewN|apply below_drew1)|exact HB.out))) : w.heap.size ≤ gb145));clear HB;have HB:=n0_;have BK145:=n1_;have GW145:=n2_;have GE145:=n3_;clear n0_ n1_ n2_ n3_;clear hb hbox hg;have hcz11_0 : w10.cell? ⟨gb145,0,none⟩ = some (.int .i64 a0_0):=(blk_cell BK145.out 0).trans rfl;have hcz11_1 : w10.cell? ⟨gb145,1,none⟩ = some (.string a0_1):=(blk_cell BK145.out 1).trans rfl;have hcz11_2 : w10.cell? ⟨gb145,2,none⟩ = some (.int .i64 a0_2):=(blk_cell BK145.out 2).trans rfl;have hcz11_3 : w10.cell? ⟨gb145,3,none⟩ = some (.slice A0_3 l0_3.length c0_3):=(blk_cell BK145.out 3).trans rfl;have hfz11_0:=blk_frozen BK145.out 0;have hfz11_1:=blk_frozen BK145.out 1;have hfz11_2:=blk_frozen BK145.out 2;have hfz11_3:=blk_frozen BK145.out 3))
  go_ret
  exact ⟨by first|rfl|(simp [errW_none,errW_some] <;> rfl)|(simp [*,errW_none,errW_some] <;> rfl),by repeat (first|(with_reducible first|exact HB.out|apply below_alloc|apply pw_below_drewN|apply below_drew1|refine below_set ?_ GE145.out)|exact HB.out)⟩
def spec_l09Simple.f (k : Nat) (a0_0 : Int) (a0_1 : ByteArray) (a0_2 : Int) (l0_3 : List (S29)) : Option (Bool):=(spec_l08Head.f k a0_0 a0_1 a0_2 l0_3).bind fun t147 => (if t147 = true then (some (decide ((l0_3.length : Int) ≤ 3))) else (some false))
theorem spec_l09Simple.mono : ∀ a0 a1 a2 a3 k,LeO (spec_l09Simple.f k a0 a1 a2 a3) (spec_l09Simple.f (k + 1) a0 a1 a2 a3):=by
 intro a0 a1 a2 a3 k
 unfold spec_l09Simple.f
 repeat' first
   | (with_reducible exact spec_l08Head.mono _ _ _ _ _)
   | (with_reducible exact LeO.refl _)
   | (with_reducible exact LeO.none _)
   | (with_reducible refine LeO.ite ?_ ?_)
   | (with_reducible refine LeO.bind ?_ (fun _ => ?_))
   | exact spec_l08Head.mono _ _ _ _ _
   | exact LeO.none _
   | refine LeO.ite ?_ ?_
   | refine LeO.bind ?_ (fun _ => ?_)
set_option maxHeartbeats 8000000 in
set_option maxRecDepth 100000 in
theorem spec_l09Simple.calls (k : Nat) (a0_0 : Int) (a0_1 : ByteArray) (a0_2 : Int) (A0_3 : Option Addr) (c0_3 : Nat) (l0_3 : List (S29)) (r : Bool) (w : World) (hr0_3 : Kd.C k29 w A0_3 l0_3.length l0_3) (hc0_3 : l0_3.length ≤ c0_3) (h : spec_l09Simple.f k a0_0 a0_1 a0_2 l0_3 = some r) :
  Calls Tryd.prog 94 #[.agg #[.int .i64 a0_0,.string a0_1,.int .i64 a0_2,.slice A0_3 l0_3.length c0_3]] w fun e w' => e = .returned (.bool r) ∧ Below w.heap.size w w':=by
 have hu29:=Tryd.underlying29
 have HR0_3:=asd hr0_3
 have HC0_3:=asd hc0_3
 clear hr0_3 hc0_3
 have HB:=asd (Below.refl w.heap.size w)
 have H : ((spec_l08Head.f k a0_0 a0_1 a0_2 l0_3).bind fun t147 => (if t147 = true then (some (decide ((l0_3.length : Int) ≤ 3))) else (some false))) = some r:=h
 clear h
 replace H:=Option.bind_eq_some_iff.mp H
 obtain ⟨t147,A20,H⟩:=H
 replace H : (if t147 = true then (some (decide ((l0_3.length : Int) ≤ 3))) else (some false)) = some r:=H
 have A2:=asd A20
 clear A20
 by_cases c3 : t147 = true
 ·subst c3
  have H1 : (some (decide ((l0_3.length : Int) ≤ 3))) = some r:=by rw [if_pos rfl] at H;exact H
  clear H
  have H:=H1
  clear H1
  obtain rfl:=Option.some.inj H
  go_enter Tryd.func94,Tryd.ntmps94
  go_wp2_with (first|((with_reducible refine gate_dst (N:=1) rfl ?_);(try (refine gate_guard (by rfl) ?_;dsimp only));refine box_event ?hg (N:=1) ?hd (cs:=#[.int .i64 a0_0,.string a0_1,.int .i64 a0_2,.slice A0_3 l0_3.length c0_3]) (t:=29) ?hr ?_;(case hd => rfl);(case hg => rfl);(case hr => first|(go_simp;done)|(go_simp;rfl));intro gb146 hg w4 hbox hb;have n0_:=asd (below_step (by repeat (first|(with_reducible first|exact HB.out|apply below_alloc|apply pw_below_drewN|apply below_drew1)|exact HB.out)) hb);have n1_:=asd (hbox);have n2_:=asd ((by rw [hg];exact (below_size (by repeat (first|(with_reducible first|exact HB.out|apply below_alloc|apply pw_below_drewN|apply below_drew1)|exact HB.out))) : w.heap.size ≤ gb146));have n3_:=asd ((by rw [hg];exact (below_size (by repeat (first|(with_reducible first|exact HB.out|apply below_alloc|apply pw_below_drewN|apply below_drew1)|exact HB.out))) : w.heap.size ≤ gb146));clear HB;have HB:=n0_;have BK146:=n1_;have GW146:=n2_;have GE146:=n3_;clear n0_ n1_ n2_ n3_;clear hb hbox hg;have hcz5_0 : w4.cell? ⟨gb146,0,none⟩ = some (.int .i64 a0_0):=(blk_cell BK146.out 0).trans rfl;have hcz5_1 : w4.cell? ⟨gb146,1,none⟩ = some (.string a0_1):=(blk_cell BK146.out 1).trans rfl;have hcz5_2 : w4.cell? ⟨gb146,2,none⟩ = some (.int .i64 a0_2):=(blk_cell BK146.out 2).trans rfl;have hcz5_3 : w4.cell? ⟨gb146,3,none⟩ = some (.slice A0_3 l0_3.length c0_3):=(blk_cell BK146.out 3).trans rfl;have hfz5_0:=blk_frozen BK146.out 0;have hfz5_1:=blk_frozen BK146.out 1;have hfz5_2:=blk_frozen BK146.out 2;have hfz5_3:=blk_frozen BK146.out 3)|((with_reducible refine gate_callee (f:=87) rfl ?_);refine goesL_ (some 4) rfl rfl Tryd.func87 (by kernel_rfl) rfl #[.agg #[.int .i64 a0_0,.string a0_1,.int .i64 a0_2,.slice A0_3 l0_3.length c0_3]] rfl (by (try simp only [List.map_toArray,List.map_cons,List.map_nil]);first|done|rfl|(simp only [List.length_drop,List.length_take];rfl)) ?_;(with_reducible refine (spec_l08Head.calls k a0_0 a0_1 a0_2 _ _ l0_3 true _ ?side1 ?side2 A2.out).mono ?_);(case side1 => repeat (first|exact (Kd.C_below HR0_3.out HB.out)|(with_reducible refine Kd.C_alloc ?_ _)|(with_reducible refine Kd.C_drewN ?_ _)|(with_reducible refine Kd.C_drew ?_)));(case side2 => exact HC0_3.out);rintro e w6 ⟨rfl,hb⟩;refine ⟨_,rfl,?_⟩;have n0_:=asd (blk_below (g:=gb146) (o:=.cells #[.int .i64 a0_0,.string a0_1,.int .i64 a0_2,.slice A0_3 l0_3.length c0_3] 29 (0,0)) (by (with_reducible repeat (first|refine blk_drewN ?_ _|refine blk_drew ?_|refine blk_alloc ?_ _));exact BK146.out) hb);have n1_:=asd (below_step (by repeat (first|(with_reducible first|exact HB.out|apply below_alloc|apply pw_below_drewN|apply below_drew1|refine below_set ?_ GE146.out)|exact HB.out)) hb);clear BK146;clear HB;have BK146:=n0_;have HB:=n1_;clear n0_ n1_;(try clear hb);(try clear hb2);(try clear hk);(try clear hi);have hcz7_0 : w6.cell? ⟨gb146,0,none⟩ = some (.int .i64 a0_0):=(blk_cell BK146.out 0).trans rfl;have hcz7_1 : w6.cell? ⟨gb146,1,none⟩ = some (.string a0_1):=(blk_cell BK146.out 1).trans rfl;have hcz7_2 : w6.cell? ⟨gb146,2,none⟩ = some (.int .i64 a0_2):=(blk_cell BK146.out 2).trans rfl;have hcz7_3 : w6.cell? ⟨gb146,3,none⟩ = some (.slice A0_3 l0_3.length c0_3):=(blk_cell BK146.out 3).trans rfl;have hfz7_0:=blk_frozen BK146.out 0;have hfz7_1:=blk_frozen BK146.out 1;have hfz7_2:=blk_frozen BK146.out 2;have hfz7_3:=blk_frozen BK146.out 3))
  go_ret
  exact ⟨by first|rfl|(simp [errW_none,errW_some] <;> rfl)|(simp [*,errW_none,errW_some] <;> rfl),by repeat (first|(with_reducible first|exact HB.out|apply below_alloc|apply pw_below_drewN|apply below_drew1|refine below_set ?_ GE146.out)|exact HB.out)⟩
 ·replace c3:=Bool.eq_false_iff.mpr c3
  subst c3
  have H1 : (some false) = some r:=by rw [if_neg (show ¬ (false = true) by decide)] at H;exact H
  clear H
  have H:=H1
  clear H1
  obtain rfl:=Option.some.inj H
  go_enter Tryd.func94,Tryd.ntmps94
  go_wp2_with (first|((with_reducible refine gate_dst (N:=1) rfl ?_);(try (refine gate_guard (by rfl) ?_;dsimp only));refine box_event ?hg (N:=1) ?hd (cs:=#[.int .i64 a0_0,.string a0_1,.int .i64 a0_2,.slice A0_3 l0_3.length c0_3]) (t:=29) ?hr ?_;(case hd => rfl);(case hg => rfl);(case hr => first|(go_simp;done)|(go_simp;rfl));intro gb146 hg w8 hbox hb;have n0_:=asd (below_step (by repeat (first|(with_reducible first|exact HB.out|apply below_alloc|apply pw_below_drewN|apply below_drew1)|exact HB.out)) hb);have n1_:=asd (hbox);have n2_:=asd ((by rw [hg];exact (below_size (by repeat (first|(with_reducible first|exact HB.out|apply below_alloc|apply pw_below_drewN|apply below_drew1)|exact HB.out))) : w.heap.size ≤ gb146));have n3_:=asd ((by rw [hg];exact (below_size (by repeat (first|(with_reducible first|exact HB.out|apply below_alloc|apply pw_below_drewN|apply below_drew1)|exact HB.out))) : w.heap.size ≤ gb146));clear HB;have HB:=n0_;have BK146:=n1_;have GW146:=n2_;have GE146:=n3_;clear n0_ n1_ n2_ n3_;clear hb hbox hg;have hcz9_0 : w8.cell? ⟨gb146,0,none⟩ = some (.int .i64 a0_0):=(blk_cell BK146.out 0).trans rfl;have hcz9_1 : w8.cell? ⟨gb146,1,none⟩ = some (.string a0_1):=(blk_cell BK146.out 1).trans rfl;have hcz9_2 : w8.cell? ⟨gb146,2,none⟩ = some (.int .i64 a0_2):=(blk_cell BK146.out 2).trans rfl;have hcz9_3 : w8.cell? ⟨gb146,3,none⟩ = some (.slice A0_3 l0_3.length c0_3):=(blk_cell BK146.out 3).trans rfl;have hfz9_0:=blk_frozen BK146.out 0;have hfz9_1:=blk_frozen BK146.out 1;have hfz9_2:=blk_frozen BK146.out 2;have hfz9_3:=blk_frozen BK146.out 3)|((with_reducible refine gate_callee (f:=87) rfl ?_);refine goesL_ (some 4) rfl rfl Tryd.func87 (by kernel_rfl) rfl #[.agg #[.int .i64 a0_0,.string a0_1,.int .i64 a0_2,.slice A0_3 l0_3.length c0_3]] rfl (by (try simp only [List.map_toArray,List.map_cons,List.map_nil]);first|done|rfl|(simp only [List.length_drop,List.length_take];rfl)) ?_;(with_reducible refine (spec_l08Head.calls k a0_0 a0_1 a0_2 _ _ l0_3 false _ ?side1 ?side2 A2.out).mono ?_);(case side1 => repeat (first|exact (Kd.C_below HR0_3.out HB.out)|(with_reducible refine Kd.C_alloc ?_ _)|(with_reducible refine Kd.C_drewN ?_ _)|(with_reducible refine Kd.C_drew ?_)));(case side2 => exact HC0_3.out);rintro e w10 ⟨rfl,hb⟩;refine ⟨_,rfl,?_⟩;have n0_:=asd (blk_below (g:=gb146) (o:=.cells #[.int .i64 a0_0,.string a0_1,.int .i64 a0_2,.slice A0_3 l0_3.length c0_3] 29 (0,0)) (by (with_reducible repeat (first|refine blk_drewN ?_ _|refine blk_drew ?_|refine blk_alloc ?_ _));exact BK146.out) hb);have n1_:=asd (below_step (by repeat (first|(with_reducible first|exact HB.out|apply below_alloc|apply pw_below_drewN|apply below_drew1|refine below_set ?_ GE146.out)|exact HB.out)) hb);clear BK146;clear HB;have BK146:=n0_;have HB:=n1_;clear n0_ n1_;(try clear hb)))
  go_ret
  exact ⟨by first|rfl|(simp [errW_none,errW_some] <;> rfl)|(simp [*,errW_none,errW_some] <;> rfl),by repeat (first|(with_reducible first|exact HB.out|apply below_alloc|apply pw_below_drewN|apply below_drew1|refine below_set ?_ GE146.out)|exact HB.out)⟩
def spec_l03Has.l0 : Nat → List Int → Int → Int → Option (Bool)
 | 0,_,_,_ => none
 | k + 1,x0,x1,x5 => if x5 < (x0.length : Int) then (if 0 ≤ x5 then (if (rd x0 x5) = x1 then (some true) else (spec_l03Has.l0 k x0 x1 (wrap64 (x5 + 1)))) else (none)) else (some false)
def spec_l03Has.f (k : Nat) (l0 : List Int) (a1 : Int) : Option (Bool):=spec_l03Has.l0 k l0 a1 0
theorem spec_l03Has.mono_l : ∀ k,(∀ y0 y1 y2,LeO (spec_l03Has.l0 k y0 y1 y2) (spec_l03Has.l0 (k + 1) y0 y1 y2))
 | 0 => fun _ _ _ r h => by simp [spec_l03Has.l0] at h
 | k + 1 => by
  have ih0:=spec_l03Has.mono_l k
  ·intro y0 y1 y2
   unfold spec_l03Has.l0
   repeat' first
   | (with_reducible exact ih0 _ _ _)
   | (with_reducible exact LeO.refl _)
   | (with_reducible exact LeO.none _)
   | (with_reducible refine LeO.ite ?_ ?_)
   | (with_reducible refine LeO.bind ?_ (fun _ => ?_))
   | exact ih0 _ _ _
   | exact LeO.none _
   | refine LeO.ite ?_ ?_
   | refine LeO.bind ?_ (fun _ => ?_)
theorem spec_l03Has.mono : ∀ a0 a1 k,LeO (spec_l03Has.f k a0 a1) (spec_l03Has.f (k + 1) a0 a1):=by
 intro a0 a1 k
 have ih0:=spec_l03Has.mono_l k
 unfold spec_l03Has.f
 repeat' first
   | (with_reducible exact ih0 _ _ _)
   | (with_reducible exact LeO.refl _)
   | (with_reducible exact LeO.none _)
   | (with_reducible refine LeO.ite ?_ ?_)
   | (with_reducible refine LeO.bind ?_ (fun _ => ?_))
   | exact ih0 _ _ _
   | exact LeO.none _
   | refine LeO.ite ?_ ?_
   | refine LeO.bind ?_ (fun _ => ?_)
set_option maxHeartbeats 8000000 in
set_option maxRecDepth 100000 in
theorem spec_l03Has.calls (k : Nat) (A0 : Option Addr) (c0 : Nat) (l0 : List Int) (a1 : Int) (r : Bool) (w : World) (hr0 : Kd.C (Kd.int .i64) w A0 l0.length l0) (hc0 : l0.length ≤ c0) (h : spec_l03Has.f k l0 a1 = some r) :
  Calls Tryd.prog 119 #[.slice A0 l0.length c0,.int .i64 a1] w fun e w' => e = .returned (.bool r) ∧ Drawn0 w w':=by
 have HR0:=asd hr0
 have HC0:=asd hc0
 clear hr0 hc0
 have H : (spec_l03Has.l0 k l0 a1 0) = some r:=h
 clear h
 have H':=asd H
 clear H
 go_enter Tryd.func119,Tryd.ntmps119
 go_wp2
 go_loopg [5] k (fun kq v5 w' => ∃ (x5_1 : Int),v5 = .int .i64 x5_1 ∧ Aside0 (spec_l03Has.l0 kq l0 a1 x5_1 = some r) ∧ Aside0 (kq ≤ k) ∧ Drawn0 w w')
 case atStart => exact ⟨(0),(by first|rfl|(simp;done)|(simp [*];done)),H',⟨Nat.le_refl _⟩,by repeat (first|exact Drawn0.refl _|apply Drawn0.step)⟩
 case round =>
  clear H'
  obtain ⟨x5_1,rfl,HA,HK1,⟨m1,rfl⟩⟩:=hrel
  cases gk with
  | zero => exact absurd HA.out (by simp [spec_l03Has.l0])
  | succ k1 =>
   have H:=HA.out
   clear HA
   simp only [spec_l03Has.l0] at H
   by_cases c3 : x5_1 < (l0.length : Int)
   ·rw [if_pos c3] at H
    have c3b0 : decide (x5_1 < (l0.length : Int)) = true:=decide_eq_true c3
    clear c3
    by_cases c4 : 0 ≤ x5_1
    rotate_left
    ·rw [if_neg c4] at H
     exact absurd H (by simp)
    rw [if_pos c4] at H
    have c4b0 : decide (0 ≤ x5_1) = true:=decide_eq_true c4
    clear c4
    by_cases c5 : (rd l0 x5_1) = a1
    ·rw [if_pos c5] at H
     have c5b0 : ((rd l0 x5_1) == a1) = true:=beq_iff_eq.mpr c5
     have c5b1 : ((rd l0 x5_1) != a1) = false:=bne_eq_false_iff_eq.mpr c5
     clear c5
     obtain rfl:=Option.some.inj H
     have p148 : 0 ≤ (x5_1 : Int):=of_decide_eq_true (by first|(with_reducible assumption)|assumption)
     have q148 : x5_1 < (l0.length : Int):=of_decide_eq_true (by first|(with_reducible assumption)|assumption)
     obtain ⟨ad148,e148,hx148_0⟩:=Kd.at_int HR0.out x5_1 p148 q148
     cases e148
     replace p148:=eq_true p148
     replace q148:=eq_true q148
     go_wp2
     go_ret
     exact ⟨by first|rfl|(simp;done)|(simp [*];done),by repeat (first|exact Drawn0.refl _|apply Drawn0.step)⟩
    ·rw [if_neg c5] at H
     have c5b0 : ((rd l0 x5_1) == a1) = false:=beq_eq_false_iff_ne.mpr c5
     have c5b1 : ((rd l0 x5_1) != a1) = true:=bne_iff_ne.mpr c5
     have H':=asd H
     clear H
     have p148 : 0 ≤ (x5_1 : Int):=of_decide_eq_true (by first|(with_reducible assumption)|assumption)
     have q148 : x5_1 < (l0.length : Int):=of_decide_eq_true (by first|(with_reducible assumption)|assumption)
     obtain ⟨ad148,e148,hx148_0⟩:=Kd.at_int HR0.out x5_1 p148 q148
     cases e148
     replace p148:=eq_true p148
     replace q148:=eq_true q148
     go_wp2
     go_roundg k1
     case measure => have:=HK1.out;omega
     case rel => exact ⟨(wrap64 (x5_1 + 1)),(by first|rfl|(simp;done)|(simp [*];done)),H',⟨by have:=HK1.out;omega⟩,by repeat (first|exact Drawn0.refl _|apply Drawn0.step)⟩
   ·rw [if_neg c3] at H
    have c3b0 : decide (x5_1 < (l0.length : Int)) = false:=decide_eq_false c3
    clear c3
    obtain rfl:=Option.some.inj H
    go_wp2
    go_ret
    exact ⟨by first|rfl|(simp;done)|(simp [*];done),by repeat (first|exact Drawn0.refl _|apply Drawn0.step)⟩
def spec_l03Var.f (a0 : Int) : Option (Int × ByteArray × Int × (List (S29))):=some (1,(⟨#[]⟩ : ByteArray),a0,([] : List (S29)))
set_option maxHeartbeats 8000000 in
set_option maxRecDepth 100000 in
theorem spec_l03Var.calls (a0 : Int) (r1 : Int) (r2 : ByteArray) (r3 : Int) (r4 : List (S29)) (w : World) (h : spec_l03Var.f a0 = some (r1,r2,r3,r4)) :
  Calls Tryd.prog 113 #[.int .i64 a0] w fun e w' => ∃ v3_ : Value,e = .returned (.agg #[.int .i64 r1,.string r2,.int .i64 r3,v3_]) ∧ Kd.R k29 29 w' w.heap.size (fun _ => True) v3_ r4 ∧ Below w.heap.size w w':=by
 have hu29:=Tryd.underlying29
 have HB:=asd (Below.refl w.heap.size w)
 have H : (some (1,(⟨#[]⟩ : ByteArray),a0,([] : List (S29)))) = some (r1,r2,r3,r4):=h
 clear h
 simp only [Option.some.injEq,Prod.mk.injEq] at H
 obtain ⟨rfl,rfl,rfl,rfl⟩:=H
 go_enter Tryd.func113,Tryd.ntmps113
 go_wp2_with (first|((with_reducible refine gate_dst (N:=2) rfl ?_);refine box_event ?hg (N:=2) ?hd (cs:=#[.int .i64 0,.string (⟨#[]⟩ : ByteArray),.int .i64 0,.slice none 0 0]) (t:=29) ?hr ?_;(case hd => rfl);(case hg => rfl);(case hr => first|(go_simp;done)|(go_simp;rfl));intro gb162 hg w2 hbox hb;have n0_:=asd (below_step (by repeat (first|(with_reducible first|exact HB.out|apply below_alloc|apply pw_below_drewN|apply below_drew1)|exact HB.out)) hb);have n1_:=asd (hbox);have n2_:=asd ((by rw [hg];exact (below_size (by repeat (first|(with_reducible first|exact HB.out|apply below_alloc|apply pw_below_drewN|apply below_drew1)|exact HB.out))) : w.heap.size ≤ gb162));have n3_:=asd ((by rw [hg];exact (below_size (by repeat (first|(with_reducible first|exact HB.out|apply below_alloc|apply pw_below_drewN|apply below_drew1)|exact HB.out))) : w.heap.size ≤ gb162));clear HB;have HB:=n0_;have BK162:=n1_;have GW162:=n2_;have GE162:=n3_;clear n0_ n1_ n2_ n3_;clear hb hbox hg;have hcz3_0 : w2.cell? ⟨gb162,0,none⟩ = some (.int .i64 0):=(blk_cell BK162.out 0).trans rfl;have hcz3_1 : w2.cell? ⟨gb162,1,none⟩ = some (.string (⟨#[]⟩ : ByteArray)):=(blk_cell BK162.out 1).trans rfl;have hcz3_2 : w2.cell? ⟨gb162,2,none⟩ = some (.int .i64 0):=(blk_cell BK162.out 2).trans rfl;have hcz3_3 : w2.cell? ⟨gb162,3,none⟩ = some (.slice none 0 0):=(blk_cell BK162.out 3).trans rfl;have hfz3_0:=blk_frozen BK162.out 0;have hfz3_1:=blk_frozen BK162.out 1;have hfz3_2:=blk_frozen BK162.out 2;have hfz3_3:=blk_frozen BK162.out 3))
 refine bodyPost_ret (results_cell_row rfl _ _ gb162 29 #[.int .i64 1,.string (⟨#[]⟩ : ByteArray),.int .i64 a0,.slice none 0 0] (0,0) _ rfl (by (with_reducible repeat (first|refine blk_drewN ?_ _|refine blk_drew ?_|refine blk_alloc ?_ _));refine blk_put (cs:=#[.int .i64 1,.string (⟨#[]⟩ : ByteArray),.int .i64 a0,.slice none 0 0]) ?_ 3 _ rfl;(with_reducible repeat (first|refine blk_drewN ?_ _|refine blk_drew ?_|refine blk_alloc ?_ _));refine blk_put (cs:=#[.int .i64 1,.string (⟨#[]⟩ : ByteArray),.int .i64 0,.slice none 0 0]) ?_ 2 _ rfl;(with_reducible repeat (first|refine blk_drewN ?_ _|refine blk_drew ?_|refine blk_alloc ?_ _));refine blk_put (cs:=#[.int .i64 1,.string (⟨#[]⟩ : ByteArray),.int .i64 0,.slice none 0 0]) ?_ 1 _ rfl;(with_reducible repeat (first|refine blk_drewN ?_ _|refine blk_drew ?_|refine blk_alloc ?_ _));refine blk_put (cs:=#[.int .i64 0,.string (⟨#[]⟩ : ByteArray),.int .i64 0,.slice none 0 0]) ?_ 0 _ rfl;(with_reducible repeat (first|refine blk_drewN ?_ _|refine blk_drew ?_|refine blk_alloc ?_ _));exact BK162.out) Tryd.underlying29 rfl (by kernel_rfl)) rfl ?_
 exact ⟨_,by first|rfl|(simp [errW_none,errW_some] <;> rfl)|(simp [*,errW_none,errW_some] <;> rfl),by first|exact Kd.R_nil _ _ _ _ _|exact Kd.N_nil _ _ _ _ _|exact Kd.V_nil _ _ _ _ _|exact Kd.Q_nil _ _ _ _ _|exact Kd.S_nil _ _ _ _ _,by repeat (first|(with_reducible first|exact HB.out|apply below_alloc|apply pw_below_drewN|apply below_drew1|refine below_set ?_ GE162.out)|exact HB.out)⟩
def spec_l34Terms.l0 : Nat → List (S29) → List (S29) → Int → Option ((List (S29)))
 | 0,_,_,_ => none
 | k + 1,x0,x3,x4 => if x4 < (x0.length : Int) then (if 0 ≤ x4 then ((fk_spec_l34Term.f k ((rd_T29 x0 x4).f0) ((rd_T29 x0 x4).f1) ((rd_T29 x0 x4).f2) ((rd_T29 x0 x4).f3)).bind fun bt174 => (if x3.length < 2513169434916 then (spec_l34Terms.l0 k x0 (x3 ++ [(⟨bt174.1,bt174.2.1,bt174.2.2.1,bt174.2.2.2⟩ : S29)]) (wrap64 (x4 + 1))) else (none))) else (none)) else (some x3)
def spec_l34Terms.f (k : Nat) (l0 : List (S29)) : Option ((List (S29))):=spec_l34Terms.l0 k l0 (([] : List (S29))) 0
theorem spec_l34Terms.mono_l : ∀ k,(∀ y0 y1 y2,LeO (spec_l34Terms.l0 k y0 y1 y2) (spec_l34Terms.l0 (k + 1) y0 y1 y2))
 | 0 => fun _ _ _ r h => by simp [spec_l34Terms.l0] at h
 | k + 1 => by
  have ih0:=spec_l34Terms.mono_l k
  ·intro y0 y1 y2
   unfold spec_l34Terms.l0
   repeat' first
   | (with_reducible exact ih0 _ _ _)
   | (with_reducible exact fk_spec_l34Term.mono _ _ _ _ _)
   | (with_reducible exact LeO.refl _)
   | (with_reducible exact LeO.none _)
   | (with_reducible refine LeO.ite ?_ ?_)
   | (with_reducible refine LeO.bind ?_ (fun _ => ?_))
   | exact ih0 _ _ _
   | exact fk_spec_l34Term.mono _ _ _ _ _
   | exact LeO.none _
   | refine LeO.ite ?_ ?_
   | refine LeO.bind ?_ (fun _ => ?_)
theorem spec_l34Terms.mono : ∀ a0 k,LeO (spec_l34Terms.f k a0) (spec_l34Terms.f (k + 1) a0):=by
 intro a0 k
 have ih0:=spec_l34Terms.mono_l k
 unfold spec_l34Terms.f
 repeat' first
   | (with_reducible exact ih0 _ _ _)
   | (with_reducible exact fk_spec_l34Term.mono _ _ _ _ _)
   | (with_reducible exact LeO.refl _)
   | (with_reducible exact LeO.none _)
   | (with_reducible refine LeO.ite ?_ ?_)
   | (with_reducible refine LeO.bind ?_ (fun _ => ?_))
   | exact ih0 _ _ _
   | exact fk_spec_l34Term.mono _ _ _ _ _
   | exact LeO.none _
   | refine LeO.ite ?_ ?_
   | refine LeO.bind ?_ (fun _ => ?_)
set_option maxHeartbeats 8000000 in
set_option maxRecDepth 100000 in
theorem spec_l34Terms.calls (k : Nat) (A0 : Option Addr) (c0 : Nat) (l0 : List (S29)) (r : List (S29)) (w : World) (hr0 : Kd.C k29 w A0 l0.length l0) (hc0 : l0.length ≤ c0) (h : spec_l34Terms.f k l0 = some r) :
  Calls Tryd.prog 100 #[.slice A0 l0.length c0] w fun e w' => ∃ v0_ : Value,e = .returned (v0_) ∧ Kd.R k29 29 w' w.heap.size (fun _ => True) v0_ r ∧ Below w.heap.size w w':=by
 have hu29:=Tryd.underlying29
 have HR0:=asd hr0
 have HC0:=asd hc0
 clear hr0 hc0
 have HB:=asd (Below.refl w.heap.size w)
 have H : (spec_l34Terms.l0 k l0 (([] : List (S29))) 0) = some r:=h
 clear h
 obtain ⟨y170,hy170⟩ : ∃ y_ : List (S29),y_ = (([] : List (S29))):=⟨_,rfl⟩
 replace H : (spec_l34Terms.l0 k l0 y170 0) = some r:=by first|(rw [hy170];with_reducible exact H)|(have H2_:=(Option.bind_some _ _).symm.trans H;rw [hy170];with_reducible exact H2_)|(have H2_:=(Option.bind_some _ _).symm.trans H;with_reducible exact H2_)|with_reducible exact H|(rw [hy170];exact H)|exact H
 have Ny170:=asd hy170
 clear hy170
 have H':=asd H
 clear H
 go_enter Tryd.func100,Tryd.ntmps100
 go_wp2_with (first|((with_reducible refine gate_dst (N:=5) rfl ?_);refine Kd.R_lit k29 _ 29 ?hg (N:=5) ?hd (xs:=([] : List (S29))) (inner:=[]) (ok:=fun _ => True) (okp:=fun _ => True) ?hr ?hp (fun _ hk => hk) trivial (Below.refl _ _) (Nat.le_refl _) (by simp) ?_;(case hd => rfl);(case hg => rfl);(case hr => first|(go_simp;done)|(go_simp;rfl));(case hp => exact (Reps.none _ _));intro v171 w2 ho3 hb hg_ hnew_;clear hg_ hnew_;(first|rw [← Ny170.out] at ho3|(simp only [Int.reduceToNat] at ho3;rw [← Ny170.out] at ho3));have n0_:=asd (Kd.R_lower ho3 (below_size (by repeat (first|(with_reducible first|exact HB.out|apply below_alloc|apply pw_below_drewN|apply below_drew1)|exact HB.out))));have n1_:=asd (below_step (by repeat (first|(with_reducible first|exact HB.out|apply below_alloc|apply pw_below_drewN|apply below_drew1)|exact HB.out)) hb);clear HB;have HO172:=n0_;have HB:=n1_;clear n0_ n1_;clear hb ho3))
 go_loopg [3,4] k (fun kq v3 v4 w' => ∃ (x3_1 : List (S29)) (x4_1 : Int),v4 = .int .i64 x4_1 ∧ Aside0 (spec_l34Terms.l0 kq l0 x3_1 x4_1 = some r) ∧ Aside0 (kq ≤ k) ∧ Aside0 (Kd.R k29 29 w' w.heap.size (fun _ => True) v3 x3_1) ∧ Aside0 (Below w.heap.size w w'))
 case atStart => exact ⟨(y170),(0),(by first|rfl|(simp;done)|(simp [*];done)),H',⟨Nat.le_refl _⟩,⟨by (with_reducible repeat (first|apply Kd.R_alloc|apply Kd.R_drewN|apply Kd.R_drew));exact HO172.out⟩,⟨by repeat (first|(with_reducible first|exact HB.out|apply below_alloc|apply pw_below_drewN|apply below_drew1)|exact HB.out)⟩⟩
 case round =>
  clear H'
  obtain ⟨x3_1,x4_1,rfl,HA,HK1,HO_3,HB⟩:=hrel
  cases gk with
  | zero => exact absurd HA.out (by simp [spec_l34Terms.l0])
  | succ k1 =>
   have H:=HA.out
   clear HA
   simp only [spec_l34Terms.l0] at H
   by_cases c4 : x4_1 < (l0.length : Int)
   ·rw [if_pos c4] at H
    have c4b0 : decide (x4_1 < (l0.length : Int)) = true:=decide_eq_true c4
    clear c4
    by_cases c5 : 0 ≤ x4_1
    rotate_left
    ·rw [if_neg c5] at H
     exact absurd H (by simp)
    rw [if_pos c5] at H
    have c5b0 : decide (0 ≤ x4_1) = true:=decide_eq_true c5
    clear c5
    replace H:=Option.bind_eq_some_iff.mp H
    obtain ⟨⟨t174,t175,t176,t177⟩,A60,H⟩:=H
    replace H : (if x3_1.length < 2513169434916 then (spec_l34Terms.l0 k1 l0 (x3_1 ++ [(⟨t174,t175,t176,t177⟩ : S29)]) (wrap64 (x4_1 + 1))) else (none)) = some r:=H
    have A6:=asd A60
    clear A60
    by_cases c7 : x3_1.length < 2513169434916
    rotate_left
    ·rw [if_neg c7] at H
     exact absurd H (by simp)
    rw [if_pos c7] at H
    have LMc7:=asd c7
    clear c7
    obtain ⟨y180,hy180⟩ : ∃ y_ : List (S29),y_ = (x3_1 ++ [(⟨t174,t175,t176,t177⟩ : S29)]):=⟨_,rfl⟩
    replace H : (spec_l34Terms.l0 k1 l0 y180 (wrap64 (x4_1 + 1))) = some r:=by first|(rw [hy180];with_reducible exact H)|(have H2_:=(Option.bind_some _ _).symm.trans H;rw [hy180];with_reducible exact H2_)|(have H2_:=(Option.bind_some _ _).symm.trans H;with_reducible exact H2_)|with_reducible exact H|(rw [hy180];exact H)|exact H
    have Ny180:=asd hy180
    clear hy180
    have H':=asd H
    clear H
    have p173 : 0 ≤ (x4_1 : Int):=of_decide_eq_true (by first|(with_reducible assumption)|assumption)
    have q173 : x4_1 < (l0.length : Int):=of_decide_eq_true (by first|(with_reducible assumption)|assumption)
    obtain ⟨ad173,A173_3,c173_3,e173,hx173_0,hx173_1,hx173_2,hx173_3,hl173_3,hi173_3⟩:=at_T29 HR0.out x4_1 p173 q173
    cases e173
    replace hx173_0:=(HB.out.cell (World.block_lt_of_cell? w _ hx173_0)).trans hx173_0
    replace hx173_1:=(HB.out.cell (World.block_lt_of_cell? w _ hx173_1)).trans hx173_1
    replace hx173_2:=(HB.out.cell (World.block_lt_of_cell? w _ hx173_2)).trans hx173_2
    replace hx173_3:=(HB.out.cell (World.block_lt_of_cell? w _ hx173_3)).trans hx173_3
    have HR173_3:=asd hi173_3
    have HC173_3:=asd hl173_3
    clear hi173_3 hl173_3
    replace p173:=eq_true p173
    replace q173:=eq_true q173
    go_wp2_with (first|((with_reducible refine gate_callee (f:=75) rfl ?_);refine goesL_ (some 17) rfl rfl Tryd.func75 (by kernel_rfl) rfl #[.agg #[.int .i64 ((rd_T29 l0 x4_1).f0),.string ((rd_T29 l0 x4_1).f1),.int .i64 ((rd_T29 l0 x4_1).f2),.slice A173_3 ((rd_T29 l0 x4_1).f3).length c173_3]] rfl (by (try simp only [List.map_toArray,List.map_cons,List.map_nil]);first|done|rfl|(simp only [List.length_drop,List.length_take];rfl)) ?_;(with_reducible refine (fk_spec_l34Term.calls k1 ((rd_T29 l0 x4_1).f0) ((rd_T29 l0 x4_1).f1) ((rd_T29 l0 x4_1).f2) _ _ ((rd_T29 l0 x4_1).f3) t174 t175 t176 t177 _ ?side1 ?side2 A6.out).mono ?_);(case side1 => repeat (first|exact (Kd.C_below HR173_3.out HB.out)|(with_reducible refine Kd.C_alloc ?_ _)|(with_reducible refine Kd.C_drewN ?_ _)|(with_reducible refine Kd.C_drew ?_)));(case side2 => exact HC173_3.out);rintro e w8 ⟨v178,rfl,ho0,hb⟩;refine ⟨_,rfl,?_⟩;have n0_:=asd (Kd.R_elder' (by (with_reducible repeat (first|apply Kd.R_alloc|apply Kd.R_drewN|apply Kd.R_drew));exact HO_3.out) (Kd.R_base ho0) hb);have n1_:=asd (Kd.R_lower (Kd.R_new' ho0 (Kd.R_lt (by (with_reducible repeat (first|apply Kd.R_alloc|apply Kd.R_drewN|apply Kd.R_drew));exact HO_3.out))) (below_size (by repeat (first|(with_reducible first|exact HB.out|apply below_alloc|apply pw_below_drewN|apply below_drew1)|exact HB.out))));have n2_:=asd (below_step (by repeat (first|(with_reducible first|exact HB.out|apply below_alloc|apply pw_below_drewN|apply below_drew1)|exact HB.out)) hb);clear HO_3;clear HB;have HO_3:=n0_;have HO179:=n1_;have HB:=n2_;clear n0_ n1_ n2_;(try clear hb);(try clear hb2);(try clear hk);(try clear hi);(try clear ho0);obtain ⟨Ao10,co10,eo10⟩:=Kd.R_slice HO179.out;subst eo10)|((with_reducible refine gate_builtin (b:=.append) (xs:=#[.tmp 12,.tmp 18]) rfl ?_);at_builtin;refine Kd.R_append k29 (w0:=w) w.heap.size rfl (.tmp 12) (.tmp 18) 27 29 (.agg #[(.int .i64 0),(.string ⟨#[]⟩),(.int .i64 0),(.slice none 0 0)]) 56 rfl Tryd.underlying27 info29 rfl (by decide) (by omega) u3 x3_1 (⟨t174,t175,t176,t177⟩ : S29) [.int .i64 t174,.string t175,.int .i64 t176,.slice Ao10 t177.length co10] (fun _ => True) (fun k_ => ((fun _ => True)) k_ ∧ some k_ ≠ (u3 : Value).ownBlock) rfl rfl ?aP (fun _ hk => hk) ?aF ?aO ?aB ?aS ?aL ?_;(case aP => exact k29_mkM _ _ _ (⟨t174,t175,t176,t177⟩ : S29) (Kd.R_mono (HO179.out) (fun k_ hk => ⟨trivial,hk.2⟩)));(case aB => exact (by repeat (first|(with_reducible first|exact HB.out|apply below_alloc|apply pw_below_drewN|apply below_drew1)|exact HB.out)));(case aF => exact (fun _ _ => trivial));(case aO => exact (by (with_reducible repeat (first|apply Kd.R_alloc|apply Kd.R_drewN|apply Kd.R_drew));exact Kd.R_mono HO_3.out (fun _ hk => trivial)));(case aS => exact (below_size (by repeat (first|(with_reducible first|exact HB.out|apply below_alloc|apply pw_below_drewN|apply below_drew1)|exact HB.out))));(case aL => have:=LMc7.out;omega);intro v181 w9 ho hb hg hat;rw [← Ny180.out] at ho;have n0_:=asd (hb);have n1_:=asd (ho);clear HB;clear HO_3;clear HO179;have HB:=n0_;have HO182:=n1_;clear n0_ n1_;clear ho hb hg hat))
    go_roundg k1
    case measure => have:=HK1.out;omega
    case rel => exact ⟨(y180),(wrap64 (x4_1 + 1)),(by first|rfl|(simp;done)|(simp [*];done)),H',⟨by have:=HK1.out;omega⟩,⟨by (with_reducible repeat (first|apply Kd.R_alloc|apply Kd.R_drewN|apply Kd.R_drew));exact HO182.out⟩,⟨by repeat (first|(with_reducible first|exact HB.out|apply below_alloc|apply pw_below_drewN|apply below_drew1)|exact HB.out)⟩⟩
   ·rw [if_neg c4] at H
    have c4b0 : decide (x4_1 < (l0.length : Int)) = false:=decide_eq_false c4
    clear c4
    obtain rfl:=Option.some.inj H
    go_wp2
    go_ret
    exact ⟨_,by first|rfl|(simp [errW_none,errW_some] <;> rfl)|(simp [*,errW_none,errW_some] <;> rfl),by (with_reducible repeat (first|apply Kd.R_alloc|apply Kd.R_drewN|apply Kd.R_drew));exact HO_3.out,by repeat (first|(with_reducible first|exact HB.out|apply below_alloc|apply pw_below_drewN|apply below_drew1)|exact HB.out)⟩
def spec_l34Term.f (k : Nat) (a0_0 : Int) (a0_1 : ByteArray) (a0_2 : Int) (l0_3 : List (S29)) : Option (Int × ByteArray × Int × (List (S29))):=(spec_l34Terms.f k l0_3).bind fun t185 => (some (a0_0,a0_1,a0_2,t185))
theorem spec_l34Term.mono : ∀ a0 a1 a2 a3 k,LeO (spec_l34Term.f k a0 a1 a2 a3) (spec_l34Term.f (k + 1) a0 a1 a2 a3):=by
 intro a0 a1 a2 a3 k
 unfold spec_l34Term.f
 repeat' first
   | (with_reducible exact spec_l34Terms.mono _ _)
   | (with_reducible exact LeO.refl _)
   | (with_reducible exact LeO.none _)
   | (with_reducible refine LeO.ite ?_ ?_)
   | (with_reducible refine LeO.bind ?_ (fun _ => ?_))
   | exact spec_l34Terms.mono _ _
   | exact LeO.none _
   | refine LeO.ite ?_ ?_
   | refine LeO.bind ?_ (fun _ => ?_)
set_option maxHeartbeats 8000000 in
set_option maxRecDepth 100000 in
theorem spec_l34Term.calls (k : Nat) (a0_0 : Int) (a0_1 : ByteArray) (a0_2 : Int) (A0_3 : Option Addr) (c0_3 : Nat) (l0_3 : List (S29)) (r1 : Int) (r2 : ByteArray) (r3 : Int) (r4 : List (S29)) (w : World) (hr0_3 : Kd.C k29 w A0_3 l0_3.length l0_3) (hc0_3 : l0_3.length ≤ c0_3) (h : spec_l34Term.f k a0_0 a0_1 a0_2 l0_3 = some (r1,r2,r3,r4)) :
  Calls Tryd.prog 75 #[.agg #[.int .i64 a0_0,.string a0_1,.int .i64 a0_2,.slice A0_3 l0_3.length c0_3]] w fun e w' => ∃ v3_ : Value,e = .returned (.agg #[.int .i64 r1,.string r2,.int .i64 r3,v3_]) ∧ Kd.R k29 29 w' w.heap.size (fun _ => True) v3_ r4 ∧ Below w.heap.size w w':=by
 have hu29:=Tryd.underlying29
 have HR0_3:=asd hr0_3
 have HC0_3:=asd hc0_3
 clear hr0_3 hc0_3
 have HB:=asd (Below.refl w.heap.size w)
 have H : ((spec_l34Terms.f k l0_3).bind fun t185 => (some (a0_0,a0_1,a0_2,t185))) = some (r1,r2,r3,r4):=h
 clear h
 replace H:=Option.bind_eq_some_iff.mp H
 obtain ⟨t185,A20,H⟩:=H
 replace H : (some (a0_0,a0_1,a0_2,t185)) = some (r1,r2,r3,r4):=H
 have A2:=asd A20
 clear A20
 simp only [Option.some.injEq,Prod.mk.injEq] at H
 obtain ⟨rfl,rfl,rfl,rfl⟩:=H
 go_enter Tryd.func75,Tryd.ntmps75
 go_wp2_with (first|((with_reducible refine gate_dst (N:=1) rfl ?_);refine box_event ?hg (N:=1) ?hd (cs:=#[.int .i64 a0_0,.string a0_1,.int .i64 a0_2,.slice A0_3 l0_3.length c0_3]) (t:=29) ?hr ?_;(case hd => rfl);(case hg => rfl);(case hr => first|(go_simp;done)|(go_simp;rfl));intro gb183 hg w3 hbox hb;have n0_:=asd (below_step (by repeat (first|(with_reducible first|exact HB.out|apply below_alloc|apply pw_below_drewN|apply below_drew1)|exact HB.out)) hb);have n1_:=asd (hbox);have n2_:=asd ((by rw [hg];exact (below_size (by repeat (first|(with_reducible first|exact HB.out|apply below_alloc|apply pw_below_drewN|apply below_drew1)|exact HB.out))) : w.heap.size ≤ gb183));have n3_:=asd ((by rw [hg];exact (below_size (by repeat (first|(with_reducible first|exact HB.out|apply below_alloc|apply pw_below_drewN|apply below_drew1)|exact HB.out))) : w.heap.size ≤ gb183));clear HB;have HB:=n0_;have BK183:=n1_;have GW183:=n2_;have GE183:=n3_;clear n0_ n1_ n2_ n3_;clear hb hbox hg)|((with_reducible refine gate_dst (N:=2) rfl ?_);refine box_event ?hg (N:=2) ?hd (cs:=#[.int .i64 0,.string (⟨#[]⟩ : ByteArray),.int .i64 0,.slice none 0 0]) (t:=29) ?hr ?_;(case hd => rfl);(case hg => rfl);(case hr => first|(go_simp;done)|(go_simp;rfl));intro gb184 hg w4 hbox hb;have n0_:=asd (blk_below (g:=gb183) (o:=.cells #[.int .i64 a0_0,.string a0_1,.int .i64 a0_2,.slice A0_3 l0_3.length c0_3] 29 (0,0)) (by (with_reducible repeat (first|refine blk_drewN ?_ _|refine blk_drew ?_|refine blk_alloc ?_ _));exact BK183.out) hb);have n1_:=asd (below_step (by repeat (first|(with_reducible first|exact HB.out|apply below_alloc|apply pw_below_drewN|apply below_drew1|refine below_set ?_ GE183.out)|exact HB.out)) hb);have n2_:=asd (hbox);have n3_:=asd ((by rw [hg];exact (below_size (by repeat (first|(with_reducible first|exact HB.out|apply below_alloc|apply pw_below_drewN|apply below_drew1|refine below_set ?_ GE183.out)|exact HB.out))) : w.heap.size ≤ gb184));have n4_:=asd ((by rw [hg];exact (below_size (by repeat (first|(with_reducible first|exact HB.out|apply below_alloc|apply pw_below_drewN|apply below_drew1|refine below_set ?_ GE183.out)|exact HB.out))) : w.heap.size ≤ gb184));have n5_:=asd ((by rw [hg];exact Nat.ne_of_lt (blk_lt (g:=gb183) (o:=.cells #[.int .i64 a0_0,.string a0_1,.int .i64 a0_2,.slice A0_3 l0_3.length c0_3] 29 (0,0)) (by (with_reducible repeat (first|refine blk_drewN ?_ _|refine blk_drew ?_|refine blk_alloc ?_ _));exact BK183.out)) : gb183 ≠ gb184));have n6_:=asd ((by rw [hg];exact Nat.ne_of_gt (blk_lt (g:=gb183) (o:=.cells #[.int .i64 a0_0,.string a0_1,.int .i64 a0_2,.slice A0_3 l0_3.length c0_3] 29 (0,0)) (by (with_reducible repeat (first|refine blk_drewN ?_ _|refine blk_drew ?_|refine blk_alloc ?_ _));exact BK183.out)) : gb184 ≠ gb183));clear BK183;clear HB;have BK183:=n0_;have HB:=n1_;have BK184:=n2_;have GW184:=n3_;have GE184:=n4_;have NB183_184:=n5_;have NB184_183:=n6_;clear n0_ n1_ n2_ n3_ n4_ n5_ n6_;clear hb hbox hg;have hnb5:=NB183_184.out;have hnc5:=NB184_183.out;have hcz6_0 : w4.cell? ⟨gb183,0,none⟩ = some (.int .i64 a0_0):=(blk_cell BK183.out 0).trans rfl;have hcz6_1 : w4.cell? ⟨gb183,1,none⟩ = some (.string a0_1):=(blk_cell BK183.out 1).trans rfl;have hcz6_2 : w4.cell? ⟨gb183,2,none⟩ = some (.int .i64 a0_2):=(blk_cell BK183.out 2).trans rfl;have hcz6_3 : w4.cell? ⟨gb183,3,none⟩ = some (.slice A0_3 l0_3.length c0_3):=(blk_cell BK183.out 3).trans rfl;have hfz6_0:=blk_frozen BK183.out 0;have hfz6_1:=blk_frozen BK183.out 1;have hfz6_2:=blk_frozen BK183.out 2;have hfz6_3:=blk_frozen BK183.out 3)|((with_reducible refine gate_callee (f:=100) rfl ?_);refine goesL_ (some 5) rfl rfl Tryd.func100 (by kernel_rfl) rfl #[.slice A0_3 l0_3.length c0_3] rfl (by (try simp only [List.map_toArray,List.map_cons,List.map_nil]);first|done|rfl|(simp only [List.length_drop,List.length_take];rfl)) ?_;(with_reducible refine (spec_l34Terms.calls k _ _ l0_3 t185 _ ?side1 ?side2 A2.out).mono ?_);(case side1 => repeat (first|exact (Kd.C_below HR0_3.out HB.out)|(with_reducible refine Kd.C_alloc ?_ _)|(with_reducible refine Kd.C_drewN ?_ _)|(with_reducible refine Kd.C_drew ?_)));(case side2 => exact HC0_3.out);rintro e w7 ⟨v186,rfl,ho0,hb⟩;refine ⟨_,rfl,?_⟩;have n0_:=asd (Kd.R_lower (Kd.R_newB (Kd.R_newB ho0 (g:=gb183) (o:=.cells #[.int .i64 a0_0,.string a0_1,.int .i64 a0_2,.slice A0_3 l0_3.length c0_3] 29 (0,0)) (by (with_reducible repeat (first|refine blk_drewN ?_ _|refine blk_drew ?_|refine blk_alloc ?_ _));exact BK183.out)) (g:=gb184) (o:=.cells #[.int .i64 0,.string (⟨#[]⟩ : ByteArray),.int .i64 0,.slice none 0 0] 29 (0,0)) (by (with_reducible repeat (first|refine blk_drewN ?_ _|refine blk_drew ?_|refine blk_alloc ?_ _));exact BK184.out)) (below_size (by repeat (first|(with_reducible first|exact HB.out|apply below_alloc|apply pw_below_drewN|apply below_drew1|refine below_set ?_ GE183.out|refine below_set ?_ GE184.out)|exact HB.out))));have n1_:=asd (blk_below (g:=gb183) (o:=.cells #[.int .i64 a0_0,.string a0_1,.int .i64 a0_2,.slice A0_3 l0_3.length c0_3] 29 (0,0)) (by (with_reducible repeat (first|refine blk_drewN ?_ _|refine blk_drew ?_|refine blk_alloc ?_ _));exact BK183.out) hb);have n2_:=asd (blk_below (g:=gb184) (o:=.cells #[.int .i64 0,.string (⟨#[]⟩ : ByteArray),.int .i64 0,.slice none 0 0] 29 (0,0)) (by (with_reducible repeat (first|refine blk_drewN ?_ _|refine blk_drew ?_|refine blk_alloc ?_ _));exact BK184.out) hb);have n3_:=asd (below_step (by repeat (first|(with_reducible first|exact HB.out|apply below_alloc|apply pw_below_drewN|apply below_drew1|refine below_set ?_ GE183.out|refine below_set ?_ GE184.out)|exact HB.out)) hb);clear BK183;clear BK184;clear HB;have HO187:=n0_;have BK183:=n1_;have BK184:=n2_;have HB:=n3_;clear n0_ n1_ n2_ n3_;(try clear hb);(try clear hb2);(try clear hk);(try clear hi);(try clear ho0);obtain ⟨Ao8,co8,eo8⟩:=Kd.R_slice HO187.out;subst eo8;have hcz9_0 : w7.cell? ⟨gb183,0,none⟩ = some (.int .i64 a0_0):=(blk_cell BK183.out 0).trans rfl;have hcz9_1 : w7.cell? ⟨gb183,1,none⟩ = some (.string a0_1):=(blk_cell BK183.out 1).trans rfl;have hcz9_2 : w7.cell? ⟨gb183,2,none⟩ = some (.int .i64 a0_2):=(blk_cell BK183.out 2).trans rfl;have hcz9_3 : w7.cell? ⟨gb183,3,none⟩ = some (.slice A0_3 l0_3.length c0_3):=(blk_cell BK183.out 3).trans rfl;have hfz9_0:=blk_frozen BK183.out 0;have hfz9_1:=blk_frozen BK183.out 1;have hfz9_2:=blk_frozen BK183.out 2;have hfz9_3:=blk_frozen BK183.out 3;have hcz10_0 : w7.cell? ⟨gb184,0,none⟩ = some (.int .i64 0):=(blk_cell BK184.out 0).trans rfl;have hcz10_1 : w7.cell? ⟨gb184,1,none⟩ = some (.string (⟨#[]⟩ : ByteArray)):=(blk_cell BK184.out 1).trans rfl;have hcz10_2 : w7.cell? ⟨gb184,2,none⟩ = some (.int .i64 0):=(blk_cell BK184.out 2).trans rfl;have hcz10_3 : w7.cell? ⟨gb184,3,none⟩ = some (.slice none 0 0):=(blk_cell BK184.out 3).trans rfl;have hfz10_0:=blk_frozen BK184.out 0;have hfz10_1:=blk_frozen BK184.out 1;have hfz10_2:=blk_frozen BK184.out 2;have hfz10_3:=blk_frozen BK184.out 3))
 refine bodyPost_ret (results_cell_row rfl _ _ gb184 29 #[.int .i64 a0_0,.string a0_1,.int .i64 a0_2,.slice Ao8 t185.length co8] (0,0) _ rfl (by (with_reducible repeat (first|refine blk_drewN ?_ _|refine blk_drew ?_|refine blk_alloc ?_ _));refine blk_put (cs:=#[.int .i64 a0_0,.string a0_1,.int .i64 a0_2,.slice none 0 0]) ?_ 3 _ rfl;(with_reducible repeat (first|refine blk_drewN ?_ _|refine blk_drew ?_|refine blk_alloc ?_ _));refine blk_put (cs:=#[.int .i64 a0_0,.string a0_1,.int .i64 0,.slice none 0 0]) ?_ 2 _ rfl;(with_reducible repeat (first|refine blk_drewN ?_ _|refine blk_drew ?_|refine blk_alloc ?_ _));refine blk_put (cs:=#[.int .i64 a0_0,.string (⟨#[]⟩ : ByteArray),.int .i64 0,.slice none 0 0]) ?_ 1 _ rfl;(with_reducible repeat (first|refine blk_drewN ?_ _|refine blk_drew ?_|refine blk_alloc ?_ _));refine blk_put (cs:=#[.int .i64 0,.string (⟨#[]⟩ : ByteArray),.int .i64 0,.slice none 0 0]) ?_ 0 _ rfl;(with_reducible repeat (first|refine blk_drewN ?_ _|refine blk_drew ?_|refine blk_alloc ?_ _));refine blk_far ?_ NB184_183.out _;(with_reducible repeat (first|refine blk_drewN ?_ _|refine blk_drew ?_|refine blk_alloc ?_ _));exact BK184.out) Tryd.underlying29 rfl (by kernel_rfl)) rfl ?_
 exact ⟨_,by first|rfl|(simp [errW_none,errW_some] <;> rfl)|(simp [*,errW_none,errW_some] <;> rfl),by (with_reducible repeat (first|apply Kd.R_alloc|apply Kd.R_drewN|apply Kd.R_drew));exact Kd.R_mono (Kd.R_far (p:=⟨gb184,3,none⟩) (Kd.R_far (p:=⟨gb184,2,none⟩) (Kd.R_far (p:=⟨gb184,1,none⟩) (Kd.R_far (p:=⟨gb184,0,none⟩) (Kd.R_far (p:=⟨gb183,3,none⟩) (Kd.R_mono (Kd.R_mono HO187.out (fun k_ hk => (⟨hk,hk.1.2⟩ : _ ∧ k_ ≠ gb183))) (fun k_ hk => (⟨hk,hk.1.2⟩ : _ ∧ k_ ≠ gb184))) (fun _ hk => hk.1.2) (.slice Ao8 t185.length co8)) (fun _ hk => hk.2) (.int .i64 a0_0)) (fun _ hk => hk.2) (.string a0_1)) (fun _ hk => hk.2) (.int .i64 a0_2)) (fun _ hk => hk.2) (.slice Ao8 t185.length co8)) (fun _ hk => trivial),by repeat (first|(with_reducible first|exact HB.out|apply below_alloc|apply pw_below_drewN|apply below_drew1|refine below_set ?_ GE183.out|refine below_set ?_ GE184.out)|exact HB.out)⟩
end Go.Proofs.YtojedbogbodkiaaDoor.KGr
