/- Of this claim's own making;what nothing names is struck (fewall.py). -/
import Derived.Test.YtojedbogbodkiaaDoorKAdx0
import Derived.Test.YtojedbogbodkiaaDoorKAdx4
namespace Go.Proofs.YtojedbogbodkiaaDoor.KAd
open Go.RowKit Go.Proofs.YtojedbogbodkiaaDoorW.PrintWords Go.Proofs.YtojedbogbodkiaaDoorW.PrintLast Go.Proofs.YtojedbogbodkiaaDoorW.PrintMore
attribute [local go_sem] max2_int min2_int max_two min_two max_three min_three max_four min_four   -- for this text's walks alone
set_option linter.unusedVariables false
set_option linter.unusedSimpArgs false
set_option linter.unusedSectionVars false
variable [fk_laws_szTerm] [fk_laws_eqTerm] [fk_spec_l34Term] [fk_strconv_Itoa]
def spec_Control.j0 : Nat → ByteArray → Bool → Option (Bool)
 | 0,_,_ => none
 | k + 1,x3,x4 => if x4 = true then (some true) else (if x3.toList = ([61,47,50] : List UInt8) then (some true) else (if x3.toList = ([92,61,47,50] : List UInt8) then (some true) else (if x3.toList = ([61,61,47,50] : List UInt8) then (some true) else (if x3.toList = ([105,115,47,50] : List UInt8) then (some true) else (if x3.toList = ([60,47,50] : List UInt8) then (some true) else (if x3.toList = ([61,58,61,47,50] : List UInt8) then (some true) else (if x3.toList = ([118,97,114,47,49] : List UInt8) then (some true) else (if x3.toList = ([97,116,111,109,47,49] : List UInt8) then (some true) else (if x3.toList = ([119,114,105,116,101,47,49] : List UInt8) then (some true) else (if x3.toList = ([97,115,115,101,114,116,122,47,49] : List UInt8) then (some true) else (if x3.toList = ([114,101,116,114,97,99,116,47,49] : List UInt8) then (some true) else (if x3.toList = ([58,45,47,50] : List UInt8) then (some true) else (if x3.toList = ([58,45,47,49] : List UInt8) then (some true) else (if x3.toList = ([45,45,62,47,50] : List UInt8) then (some true) else (some false)))))))))))))))
def spec_Control.f (k : Nat) (a0 : ByteArray) : Option (Bool):=if a0.toList = ([116,114,117,101,47,48] : List UInt8) then (spec_Control.j0 k a0 (a0.toList == ([116,114,117,101,47,48] : List UInt8))) else (if a0.toList = ([102,97,105,108,47,48] : List UInt8) then (spec_Control.j0 k a0 (a0.toList == ([102,97,105,108,47,48] : List UInt8))) else (if a0.toList = ([33,47,48] : List UInt8) then (spec_Control.j0 k a0 (a0.toList == ([33,47,48] : List UInt8))) else (if a0.toList = ([44,47,50] : List UInt8) then (spec_Control.j0 k a0 (a0.toList == ([44,47,50] : List UInt8))) else (if a0.toList = ([59,47,50] : List UInt8) then (spec_Control.j0 k a0 (a0.toList == ([59,47,50] : List UInt8))) else (if a0.toList = ([45,62,47,50] : List UInt8) then (spec_Control.j0 k a0 (a0.toList == ([45,62,47,50] : List UInt8))) else (if a0.toList = ([92,43,47,49] : List UInt8) then (spec_Control.j0 k a0 (a0.toList == ([92,43,47,49] : List UInt8))) else (if a0.toList = ([99,97,108,108,47,49] : List UInt8) then (spec_Control.j0 k a0 (a0.toList == ([99,97,108,108,47,49] : List UInt8))) else (if a0.toList = ([99,97,108,108,47,50] : List UInt8) then (spec_Control.j0 k a0 (a0.toList == ([99,97,108,108,47,50] : List UInt8))) else (if a0.toList = ([99,97,108,108,47,51] : List UInt8) then (spec_Control.j0 k a0 (a0.toList == ([99,97,108,108,47,51] : List UInt8))) else (if a0.toList = ([99,97,116,99,104,47,51] : List UInt8) then (spec_Control.j0 k a0 (a0.toList == ([99,97,116,99,104,47,51] : List UInt8))) else (spec_Control.j0 k a0 (a0.toList == ([116,104,114,111,119,47,49] : List UInt8)))))))))))))
theorem spec_Control.mono_l : ∀ k,(∀ y0 y1,LeO (spec_Control.j0 k y0 y1) (spec_Control.j0 (k + 1) y0 y1))
 | 0 => fun _ _ r h => by simp [spec_Control.j0] at h
 | k + 1 => by
  have ih0:=spec_Control.mono_l k
  ·intro y0 y1
   unfold spec_Control.j0
   repeat' first
   | (with_reducible exact ih0 _ _)
   | (with_reducible exact LeO.refl _)
   | (with_reducible exact LeO.none _)
   | (with_reducible refine LeO.ite ?_ ?_)
   | (with_reducible refine LeO.bind ?_ (fun _ => ?_))
   | exact ih0 _ _
   | exact LeO.none _
   | refine LeO.ite ?_ ?_
   | refine LeO.bind ?_ (fun _ => ?_)
theorem spec_Control.mono : ∀ a0 k,LeO (spec_Control.f k a0) (spec_Control.f (k + 1) a0):=by
 intro a0 k
 have ih0:=spec_Control.mono_l k
 unfold spec_Control.f
 repeat' first
   | (with_reducible exact ih0 _ _)
   | (with_reducible exact LeO.refl _)
   | (with_reducible exact LeO.none _)
   | (with_reducible refine LeO.ite ?_ ?_)
   | (with_reducible refine LeO.bind ?_ (fun _ => ?_))
   | exact ih0 _ _
   | exact LeO.none _
   | refine LeO.ite ?_ ?_
   | refine LeO.bind ?_ (fun _ => ?_)
set_option maxHeartbeats 8000000 in
set_option maxRecDepth 100000 in
theorem spec_Control.calls (k : Nat) (a0 : ByteArray) (r : Bool) (w : World) (h : spec_Control.f k a0 = some r) :
  Calls Tryd.prog 109 #[.string a0] w fun e w' => e = .returned (.bool r) ∧ Drawn0 w w':=by
 have H : (if a0.toList = ([116,114,117,101,47,48] : List UInt8) then (spec_Control.j0 k a0 (a0.toList == ([116,114,117,101,47,48] : List UInt8))) else (if a0.toList = ([102,97,105,108,47,48] : List UInt8) then (spec_Control.j0 k a0 (a0.toList == ([102,97,105,108,47,48] : List UInt8))) else (if a0.toList = ([33,47,48] : List UInt8) then (spec_Control.j0 k a0 (a0.toList == ([33,47,48] : List UInt8))) else (if a0.toList = ([44,47,50] : List UInt8) then (spec_Control.j0 k a0 (a0.toList == ([44,47,50] : List UInt8))) else (if a0.toList = ([59,47,50] : List UInt8) then (spec_Control.j0 k a0 (a0.toList == ([59,47,50] : List UInt8))) else (if a0.toList = ([45,62,47,50] : List UInt8) then (spec_Control.j0 k a0 (a0.toList == ([45,62,47,50] : List UInt8))) else (if a0.toList = ([92,43,47,49] : List UInt8) then (spec_Control.j0 k a0 (a0.toList == ([92,43,47,49] : List UInt8))) else (if a0.toList = ([99,97,108,108,47,49] : List UInt8) then (spec_Control.j0 k a0 (a0.toList == ([99,97,108,108,47,49] : List UInt8))) else (if a0.toList = ([99,97,108,108,47,50] : List UInt8) then (spec_Control.j0 k a0 (a0.toList == ([99,97,108,108,47,50] : List UInt8))) else (if a0.toList = ([99,97,108,108,47,51] : List UInt8) then (spec_Control.j0 k a0 (a0.toList == ([99,97,108,108,47,51] : List UInt8))) else (if a0.toList = ([99,97,116,99,104,47,51] : List UInt8) then (spec_Control.j0 k a0 (a0.toList == ([99,97,116,99,104,47,51] : List UInt8))) else (spec_Control.j0 k a0 (a0.toList == ([116,104,114,111,119,47,49] : List UInt8)))))))))))))) = some r:=h
 clear h
 have HC2:=asd H
 clear H
 go_enter Tryd.func109,Tryd.ntmps109
 go_upto_if 4 with (fail)
 go_cut [4] (fun v4 wc => ∃ (kq : Nat) (x4_1 : Bool),v4 = .bool x4_1 ∧ Aside0 (spec_Control.j0 kq a0 x4_1 = some r) ∧ Aside0 (kq ≤ k) ∧ Drawn0 w wc)
 case first =>
  have H:=HC2.out
  clear HC2
  by_cases c3 : a0.toList = ([116,114,117,101,47,48] : List UInt8)
  ·rw [if_pos c3] at H
   have c3b0 : (a0.toList == ([116,114,117,101,47,48] : List UInt8)) = true:=beq_iff_eq.mpr c3
   have c3b1 : (a0.toList != ([116,114,117,101,47,48] : List UInt8)) = false:=bne_eq_false_iff_eq.mpr c3
   clear c3
   (first|rw [c3b0]|(simp only [i64_w,i32_w];rw [c3b0])|skip)
   have H':=asd H
   clear H
   go_wp2
   go_meet
   case rel => exact ⟨_,((a0.toList == ([116,114,117,101,47,48] : List UInt8))),(by first|rfl|(simp;done)|(simp [*];done)),H',⟨by first|omega|exact Nat.le_refl _⟩,by repeat (first|exact Drawn0.refl _|apply Drawn0.step)⟩
  ·rw [if_neg c3] at H
   have c3b0 : (a0.toList == ([116,114,117,101,47,48] : List UInt8)) = false:=beq_eq_false_iff_ne.mpr c3
   have c3b1 : (a0.toList != ([116,114,117,101,47,48] : List UInt8)) = true:=bne_iff_ne.mpr c3
   (first|rw [c3b0]|(simp only [i64_w,i32_w];rw [c3b0])|skip)
   by_cases c4 : a0.toList = ([102,97,105,108,47,48] : List UInt8)
   ·rw [if_pos c4] at H
    have c4b0 : (a0.toList == ([102,97,105,108,47,48] : List UInt8)) = true:=beq_iff_eq.mpr c4
    have c4b1 : (a0.toList != ([102,97,105,108,47,48] : List UInt8)) = false:=bne_eq_false_iff_eq.mpr c4
    clear c4
    have H':=asd H
    clear H
    go_wp2
    go_meet
    case rel => exact ⟨_,((a0.toList == ([102,97,105,108,47,48] : List UInt8))),(by first|rfl|(simp;done)|(simp [*];done)),H',⟨by first|omega|exact Nat.le_refl _⟩,by repeat (first|exact Drawn0.refl _|apply Drawn0.step)⟩
   ·rw [if_neg c4] at H
    have c4b0 : (a0.toList == ([102,97,105,108,47,48] : List UInt8)) = false:=beq_eq_false_iff_ne.mpr c4
    have c4b1 : (a0.toList != ([102,97,105,108,47,48] : List UInt8)) = true:=bne_iff_ne.mpr c4
    by_cases c5 : a0.toList = ([33,47,48] : List UInt8)
    ·rw [if_pos c5] at H
     have c5b0 : (a0.toList == ([33,47,48] : List UInt8)) = true:=beq_iff_eq.mpr c5
     have c5b1 : (a0.toList != ([33,47,48] : List UInt8)) = false:=bne_eq_false_iff_eq.mpr c5
     clear c5
     have H':=asd H
     clear H
     go_wp2
     go_meet
     case rel => exact ⟨_,((a0.toList == ([33,47,48] : List UInt8))),(by first|rfl|(simp;done)|(simp [*];done)),H',⟨by first|omega|exact Nat.le_refl _⟩,by repeat (first|exact Drawn0.refl _|apply Drawn0.step)⟩
    ·rw [if_neg c5] at H
     have c5b0 : (a0.toList == ([33,47,48] : List UInt8)) = false:=beq_eq_false_iff_ne.mpr c5
     have c5b1 : (a0.toList != ([33,47,48] : List UInt8)) = true:=bne_iff_ne.mpr c5
     by_cases c6 : a0.toList = ([44,47,50] : List UInt8)
     ·rw [if_pos c6] at H
      have c6b0 : (a0.toList == ([44,47,50] : List UInt8)) = true:=beq_iff_eq.mpr c6
      have c6b1 : (a0.toList != ([44,47,50] : List UInt8)) = false:=bne_eq_false_iff_eq.mpr c6
      clear c6
      have H':=asd H
      clear H
      go_wp2
      go_meet
      case rel => exact ⟨_,((a0.toList == ([44,47,50] : List UInt8))),(by first|rfl|(simp;done)|(simp [*];done)),H',⟨by first|omega|exact Nat.le_refl _⟩,by repeat (first|exact Drawn0.refl _|apply Drawn0.step)⟩
     ·rw [if_neg c6] at H
      have c6b0 : (a0.toList == ([44,47,50] : List UInt8)) = false:=beq_eq_false_iff_ne.mpr c6
      have c6b1 : (a0.toList != ([44,47,50] : List UInt8)) = true:=bne_iff_ne.mpr c6
      by_cases c7 : a0.toList = ([59,47,50] : List UInt8)
      ·rw [if_pos c7] at H
       have c7b0 : (a0.toList == ([59,47,50] : List UInt8)) = true:=beq_iff_eq.mpr c7
       have c7b1 : (a0.toList != ([59,47,50] : List UInt8)) = false:=bne_eq_false_iff_eq.mpr c7
       clear c7
       have H':=asd H
       clear H
       go_wp2
       go_meet
       case rel => exact ⟨_,((a0.toList == ([59,47,50] : List UInt8))),(by first|rfl|(simp;done)|(simp [*];done)),H',⟨by first|omega|exact Nat.le_refl _⟩,by repeat (first|exact Drawn0.refl _|apply Drawn0.step)⟩
      ·rw [if_neg c7] at H
       have c7b0 : (a0.toList == ([59,47,50] : List UInt8)) = false:=beq_eq_false_iff_ne.mpr c7
       have c7b1 : (a0.toList != ([59,47,50] : List UInt8)) = true:=bne_iff_ne.mpr c7
       by_cases c8 : a0.toList = ([45,62,47,50] : List UInt8)
       ·rw [if_pos c8] at H
        have c8b0 : (a0.toList == ([45,62,47,50] : List UInt8)) = true:=beq_iff_eq.mpr c8
        have c8b1 : (a0.toList != ([45,62,47,50] : List UInt8)) = false:=bne_eq_false_iff_eq.mpr c8
        clear c8
        have H':=asd H
        clear H
        go_wp2
        go_meet
        case rel => exact ⟨_,((a0.toList == ([45,62,47,50] : List UInt8))),(by first|rfl|(simp;done)|(simp [*];done)),H',⟨by first|omega|exact Nat.le_refl _⟩,by repeat (first|exact Drawn0.refl _|apply Drawn0.step)⟩
       ·rw [if_neg c8] at H
        have c8b0 : (a0.toList == ([45,62,47,50] : List UInt8)) = false:=beq_eq_false_iff_ne.mpr c8
        have c8b1 : (a0.toList != ([45,62,47,50] : List UInt8)) = true:=bne_iff_ne.mpr c8
        by_cases c9 : a0.toList = ([92,43,47,49] : List UInt8)
        ·rw [if_pos c9] at H
         have c9b0 : (a0.toList == ([92,43,47,49] : List UInt8)) = true:=beq_iff_eq.mpr c9
         have c9b1 : (a0.toList != ([92,43,47,49] : List UInt8)) = false:=bne_eq_false_iff_eq.mpr c9
         clear c9
         have H':=asd H
         clear H
         go_wp2
         go_meet
         case rel => exact ⟨_,((a0.toList == ([92,43,47,49] : List UInt8))),(by first|rfl|(simp;done)|(simp [*];done)),H',⟨by first|omega|exact Nat.le_refl _⟩,by repeat (first|exact Drawn0.refl _|apply Drawn0.step)⟩
        ·rw [if_neg c9] at H
         have c9b0 : (a0.toList == ([92,43,47,49] : List UInt8)) = false:=beq_eq_false_iff_ne.mpr c9
         have c9b1 : (a0.toList != ([92,43,47,49] : List UInt8)) = true:=bne_iff_ne.mpr c9
         by_cases c10 : a0.toList = ([99,97,108,108,47,49] : List UInt8)
         ·rw [if_pos c10] at H
          have c10b0 : (a0.toList == ([99,97,108,108,47,49] : List UInt8)) = true:=beq_iff_eq.mpr c10
          have c10b1 : (a0.toList != ([99,97,108,108,47,49] : List UInt8)) = false:=bne_eq_false_iff_eq.mpr c10
          clear c10
          have H':=asd H
          clear H
          go_wp2
          go_meet
          case rel => exact ⟨_,((a0.toList == ([99,97,108,108,47,49] : List UInt8))),(by first|rfl|(simp;done)|(simp [*];done)),H',⟨by first|omega|exact Nat.le_refl _⟩,by repeat (first|exact Drawn0.refl _|apply Drawn0.step)⟩
         ·rw [if_neg c10] at H
          have c10b0 : (a0.toList == ([99,97,108,108,47,49] : List UInt8)) = false:=beq_eq_false_iff_ne.mpr c10
          have c10b1 : (a0.toList != ([99,97,108,108,47,49] : List UInt8)) = true:=bne_iff_ne.mpr c10
          by_cases c11 : a0.toList = ([99,97,108,108,47,50] : List UInt8)
          ·rw [if_pos c11] at H
           have c11b0 : (a0.toList == ([99,97,108,108,47,50] : List UInt8)) = true:=beq_iff_eq.mpr c11
           have c11b1 : (a0.toList != ([99,97,108,108,47,50] : List UInt8)) = false:=bne_eq_false_iff_eq.mpr c11
           clear c11
           have H':=asd H
           clear H
           go_wp2
           go_meet
           case rel => exact ⟨_,((a0.toList == ([99,97,108,108,47,50] : List UInt8))),(by first|rfl|(simp;done)|(simp [*];done)),H',⟨by first|omega|exact Nat.le_refl _⟩,by repeat (first|exact Drawn0.refl _|apply Drawn0.step)⟩
          ·rw [if_neg c11] at H
           have c11b0 : (a0.toList == ([99,97,108,108,47,50] : List UInt8)) = false:=beq_eq_false_iff_ne.mpr c11
           have c11b1 : (a0.toList != ([99,97,108,108,47,50] : List UInt8)) = true:=bne_iff_ne.mpr c11
           by_cases c12 : a0.toList = ([99,97,108,108,47,51] : List UInt8)
           ·rw [if_pos c12] at H
            have c12b0 : (a0.toList == ([99,97,108,108,47,51] : List UInt8)) = true:=beq_iff_eq.mpr c12
            have c12b1 : (a0.toList != ([99,97,108,108,47,51] : List UInt8)) = false:=bne_eq_false_iff_eq.mpr c12
            clear c12
            have H':=asd H
            clear H
            go_wp2
            go_meet
            case rel => exact ⟨_,((a0.toList == ([99,97,108,108,47,51] : List UInt8))),(by first|rfl|(simp;done)|(simp [*];done)),H',⟨by first|omega|exact Nat.le_refl _⟩,by repeat (first|exact Drawn0.refl _|apply Drawn0.step)⟩
           ·rw [if_neg c12] at H
            have c12b0 : (a0.toList == ([99,97,108,108,47,51] : List UInt8)) = false:=beq_eq_false_iff_ne.mpr c12
            have c12b1 : (a0.toList != ([99,97,108,108,47,51] : List UInt8)) = true:=bne_iff_ne.mpr c12
            by_cases c13 : a0.toList = ([99,97,116,99,104,47,51] : List UInt8)
            ·rw [if_pos c13] at H
             have c13b0 : (a0.toList == ([99,97,116,99,104,47,51] : List UInt8)) = true:=beq_iff_eq.mpr c13
             have c13b1 : (a0.toList != ([99,97,116,99,104,47,51] : List UInt8)) = false:=bne_eq_false_iff_eq.mpr c13
             clear c13
             have H':=asd H
             clear H
             go_wp2
             go_meet
             case rel => exact ⟨_,((a0.toList == ([99,97,116,99,104,47,51] : List UInt8))),(by first|rfl|(simp;done)|(simp [*];done)),H',⟨by first|omega|exact Nat.le_refl _⟩,by repeat (first|exact Drawn0.refl _|apply Drawn0.step)⟩
            ·rw [if_neg c13] at H
             have c13b0 : (a0.toList == ([99,97,116,99,104,47,51] : List UInt8)) = false:=beq_eq_false_iff_ne.mpr c13
             have c13b1 : (a0.toList != ([99,97,116,99,104,47,51] : List UInt8)) = true:=bne_iff_ne.mpr c13
             have H':=asd H
             clear H
             go_wp2
             go_meet
             case rel => exact ⟨_,((a0.toList == ([116,104,114,111,119,47,49] : List UInt8))),(by first|rfl|(simp;done)|(simp [*];done)),H',⟨by first|omega|exact Nat.le_refl _⟩,by repeat (first|exact Drawn0.refl _|apply Drawn0.step)⟩
 case rest =>
  clear HC2
  try clear c3
  try clear c3b0
  try clear c3b1
  try clear c4
  try clear c4b0
  try clear c4b1
  try clear c5
  try clear c5b0
  try clear c5b1
  try clear c6
  try clear c6b0
  try clear c6b1
  try clear c7
  try clear c7b0
  try clear c7b1
  try clear c8
  try clear c8b0
  try clear c8b1
  try clear c9
  try clear c9b0
  try clear c9b1
  try clear c10
  try clear c10b0
  try clear c10b1
  try clear c11
  try clear c11b0
  try clear c11b1
  try clear c12
  try clear c12b0
  try clear c12b1
  try clear c13
  try clear c13b0
  try clear c13b1
  obtain ⟨kq,x4_1,rfl,HA,HJ1,⟨mc1,rfl⟩⟩:=hcut
  cases kq with
  | zero => exact absurd HA.out (by simp [spec_Control.j0])
  | succ kj1 =>
   have H:=HA.out
   clear HA
   simp only [spec_Control.j0] at H
   by_cases c14 : x4_1 = true
   ·subst c14
    have H1 : (some true) = some r:=by rw [if_pos rfl] at H;exact H
    clear H
    have H:=H1
    clear H1
    obtain rfl:=Option.some.inj H
    go_wp2
    go_ret
    exact ⟨by first|rfl|(simp;done)|(simp [*];done),by repeat (first|exact Drawn0.refl _|apply Drawn0.step)⟩
   ·replace c14:=Bool.eq_false_iff.mpr c14
    subst c14
    have H1 : (if a0.toList = ([61,47,50] : List UInt8) then (some true) else (if a0.toList = ([92,61,47,50] : List UInt8) then (some true) else (if a0.toList = ([61,61,47,50] : List UInt8) then (some true) else (if a0.toList = ([105,115,47,50] : List UInt8) then (some true) else (if a0.toList = ([60,47,50] : List UInt8) then (some true) else (if a0.toList = ([61,58,61,47,50] : List UInt8) then (some true) else (if a0.toList = ([118,97,114,47,49] : List UInt8) then (some true) else (if a0.toList = ([97,116,111,109,47,49] : List UInt8) then (some true) else (if a0.toList = ([119,114,105,116,101,47,49] : List UInt8) then (some true) else (if a0.toList = ([97,115,115,101,114,116,122,47,49] : List UInt8) then (some true) else (if a0.toList = ([114,101,116,114,97,99,116,47,49] : List UInt8) then (some true) else (if a0.toList = ([58,45,47,50] : List UInt8) then (some true) else (if a0.toList = ([58,45,47,49] : List UInt8) then (some true) else (if a0.toList = ([45,45,62,47,50] : List UInt8) then (some true) else (some false))))))))))))))) = some r:=by rw [if_neg (show ¬ (false = true) by decide)] at H;exact H
    clear H
    have H:=H1
    clear H1
    by_cases c15 : a0.toList = ([61,47,50] : List UInt8)
    ·rw [if_pos c15] at H
     have c15b0 : (a0.toList == ([61,47,50] : List UInt8)) = true:=beq_iff_eq.mpr c15
     have c15b1 : (a0.toList != ([61,47,50] : List UInt8)) = false:=bne_eq_false_iff_eq.mpr c15
     clear c15
     obtain rfl:=Option.some.inj H
     go_wp2
     go_ret
     exact ⟨by first|rfl|(simp;done)|(simp [*];done),by repeat (first|exact Drawn0.refl _|apply Drawn0.step)⟩
    ·rw [if_neg c15] at H
     have c15b0 : (a0.toList == ([61,47,50] : List UInt8)) = false:=beq_eq_false_iff_ne.mpr c15
     have c15b1 : (a0.toList != ([61,47,50] : List UInt8)) = true:=bne_iff_ne.mpr c15
     by_cases c16 : a0.toList = ([92,61,47,50] : List UInt8)
     ·rw [if_pos c16] at H
      have c16b0 : (a0.toList == ([92,61,47,50] : List UInt8)) = true:=beq_iff_eq.mpr c16
      have c16b1 : (a0.toList != ([92,61,47,50] : List UInt8)) = false:=bne_eq_false_iff_eq.mpr c16
      clear c16
      obtain rfl:=Option.some.inj H
      go_wp2
      go_ret
      exact ⟨by first|rfl|(simp;done)|(simp [*];done),by repeat (first|exact Drawn0.refl _|apply Drawn0.step)⟩
     ·rw [if_neg c16] at H
      have c16b0 : (a0.toList == ([92,61,47,50] : List UInt8)) = false:=beq_eq_false_iff_ne.mpr c16
      have c16b1 : (a0.toList != ([92,61,47,50] : List UInt8)) = true:=bne_iff_ne.mpr c16
      by_cases c17 : a0.toList = ([61,61,47,50] : List UInt8)
      ·rw [if_pos c17] at H
       have c17b0 : (a0.toList == ([61,61,47,50] : List UInt8)) = true:=beq_iff_eq.mpr c17
       have c17b1 : (a0.toList != ([61,61,47,50] : List UInt8)) = false:=bne_eq_false_iff_eq.mpr c17
       clear c17
       obtain rfl:=Option.some.inj H
       go_wp2
       go_ret
       exact ⟨by first|rfl|(simp;done)|(simp [*];done),by repeat (first|exact Drawn0.refl _|apply Drawn0.step)⟩
      ·rw [if_neg c17] at H
       have c17b0 : (a0.toList == ([61,61,47,50] : List UInt8)) = false:=beq_eq_false_iff_ne.mpr c17
       have c17b1 : (a0.toList != ([61,61,47,50] : List UInt8)) = true:=bne_iff_ne.mpr c17
       by_cases c18 : a0.toList = ([105,115,47,50] : List UInt8)
       ·rw [if_pos c18] at H
        have c18b0 : (a0.toList == ([105,115,47,50] : List UInt8)) = true:=beq_iff_eq.mpr c18
        have c18b1 : (a0.toList != ([105,115,47,50] : List UInt8)) = false:=bne_eq_false_iff_eq.mpr c18
        clear c18
        obtain rfl:=Option.some.inj H
        go_wp2
        go_ret
        exact ⟨by first|rfl|(simp;done)|(simp [*];done),by repeat (first|exact Drawn0.refl _|apply Drawn0.step)⟩
       ·rw [if_neg c18] at H
        have c18b0 : (a0.toList == ([105,115,47,50] : List UInt8)) = false:=beq_eq_false_iff_ne.mpr c18
        have c18b1 : (a0.toList != ([105,115,47,50] : List UInt8)) = true:=bne_iff_ne.mpr c18
        by_cases c19 : a0.toList = ([60,47,50] : List UInt8)
        ·rw [if_pos c19] at H
         have c19b0 : (a0.toList == ([60,47,50] : List UInt8)) = true:=beq_iff_eq.mpr c19
         have c19b1 : (a0.toList != ([60,47,50] : List UInt8)) = false:=bne_eq_false_iff_eq.mpr c19
         clear c19
         obtain rfl:=Option.some.inj H
         go_wp2
         go_ret
         exact ⟨by first|rfl|(simp;done)|(simp [*];done),by repeat (first|exact Drawn0.refl _|apply Drawn0.step)⟩
        ·rw [if_neg c19] at H
         have c19b0 : (a0.toList == ([60,47,50] : List UInt8)) = false:=beq_eq_false_iff_ne.mpr c19
         have c19b1 : (a0.toList != ([60,47,50] : List UInt8)) = true:=bne_iff_ne.mpr c19
         by_cases c20 : a0.toList = ([61,58,61,47,50] : List UInt8)
         ·rw [if_pos c20] at H
          have c20b0 : (a0.toList == ([61,58,61,47,50] : List UInt8)) = true:=beq_iff_eq.mpr c20
          have c20b1 : (a0.toList != ([61,58,61,47,50] : List UInt8)) = false:=bne_eq_false_iff_eq.mpr c20
          clear c20
          obtain rfl:=Option.some.inj H
          go_wp2
          go_ret
          exact ⟨by first|rfl|(simp;done)|(simp [*];done),by repeat (first|exact Drawn0.refl _|apply Drawn0.step)⟩
         ·rw [if_neg c20] at H
          have c20b0 : (a0.toList == ([61,58,61,47,50] : List UInt8)) = false:=beq_eq_false_iff_ne.mpr c20
          have c20b1 : (a0.toList != ([61,58,61,47,50] : List UInt8)) = true:=bne_iff_ne.mpr c20
          by_cases c21 : a0.toList = ([118,97,114,47,49] : List UInt8)
          ·rw [if_pos c21] at H
           have c21b0 : (a0.toList == ([118,97,114,47,49] : List UInt8)) = true:=beq_iff_eq.mpr c21
           have c21b1 : (a0.toList != ([118,97,114,47,49] : List UInt8)) = false:=bne_eq_false_iff_eq.mpr c21
           clear c21
           obtain rfl:=Option.some.inj H
           go_wp2
           go_ret
           exact ⟨by first|rfl|(simp;done)|(simp [*];done),by repeat (first|exact Drawn0.refl _|apply Drawn0.step)⟩
          ·rw [if_neg c21] at H
           have c21b0 : (a0.toList == ([118,97,114,47,49] : List UInt8)) = false:=beq_eq_false_iff_ne.mpr c21
           have c21b1 : (a0.toList != ([118,97,114,47,49] : List UInt8)) = true:=bne_iff_ne.mpr c21
           by_cases c22 : a0.toList = ([97,116,111,109,47,49] : List UInt8)
           ·rw [if_pos c22] at H
            have c22b0 : (a0.toList == ([97,116,111,109,47,49] : List UInt8)) = true:=beq_iff_eq.mpr c22
            have c22b1 : (a0.toList != ([97,116,111,109,47,49] : List UInt8)) = false:=bne_eq_false_iff_eq.mpr c22
            clear c22
            obtain rfl:=Option.some.inj H
            go_wp2
            go_ret
            exact ⟨by first|rfl|(simp;done)|(simp [*];done),by repeat (first|exact Drawn0.refl _|apply Drawn0.step)⟩
           ·rw [if_neg c22] at H
            have c22b0 : (a0.toList == ([97,116,111,109,47,49] : List UInt8)) = false:=beq_eq_false_iff_ne.mpr c22
            have c22b1 : (a0.toList != ([97,116,111,109,47,49] : List UInt8)) = true:=bne_iff_ne.mpr c22
            by_cases c23 : a0.toList = ([119,114,105,116,101,47,49] : List UInt8)
            ·rw [if_pos c23] at H
             have c23b0 : (a0.toList == ([119,114,105,116,101,47,49] : List UInt8)) = true:=beq_iff_eq.mpr c23
             have c23b1 : (a0.toList != ([119,114,105,116,101,47,49] : List UInt8)) = false:=bne_eq_false_iff_eq.mpr c23
             clear c23
             obtain rfl:=Option.some.inj H
             go_wp2
             go_ret
             exact ⟨by first|rfl|(simp;done)|(simp [*];done),by repeat (first|exact Drawn0.refl _|apply Drawn0.step)⟩
            ·rw [if_neg c23] at H
             have c23b0 : (a0.toList == ([119,114,105,116,101,47,49] : List UInt8)) = false:=beq_eq_false_iff_ne.mpr c23
             have c23b1 : (a0.toList != ([119,114,105,116,101,47,49] : List UInt8)) = true:=bne_iff_ne.mpr c23
             by_cases c24 : a0.toList = ([97,115,115,101,114,116,122,47,49] : List UInt8)
             ·rw [if_pos c24] at H
              have c24b0 : (a0.toList == ([97,115,115,101,114,116,122,47,49] : List UInt8)) = true:=beq_iff_eq.mpr c24
              have c24b1 : (a0.toList != ([97,115,115,101,114,116,122,47,49] : List UInt8)) = false:=bne_eq_false_iff_eq.mpr c24
              clear c24
              obtain rfl:=Option.some.inj H
              go_wp2
              go_ret
              exact ⟨by first|rfl|(simp;done)|(simp [*];done),by repeat (first|exact Drawn0.refl _|apply Drawn0.step)⟩
             ·rw [if_neg c24] at H
              have c24b0 : (a0.toList == ([97,115,115,101,114,116,122,47,49] : List UInt8)) = false:=beq_eq_false_iff_ne.mpr c24
              have c24b1 : (a0.toList != ([97,115,115,101,114,116,122,47,49] : List UInt8)) = true:=bne_iff_ne.mpr c24
              by_cases c25 : a0.toList = ([114,101,116,114,97,99,116,47,49] : List UInt8)
              ·rw [if_pos c25] at H
               have c25b0 : (a0.toList == ([114,101,116,114,97,99,116,47,49] : List UInt8)) = true:=beq_iff_eq.mpr c25
               have c25b1 : (a0.toList != ([114,101,116,114,97,99,116,47,49] : List UInt8)) = false:=bne_eq_false_iff_eq.mpr c25
               clear c25
               obtain rfl:=Option.some.inj H
               go_wp2
               go_ret
               exact ⟨by first|rfl|(simp;done)|(simp [*];done),by repeat (first|exact Drawn0.refl _|apply Drawn0.step)⟩
              ·rw [if_neg c25] at H
               have c25b0 : (a0.toList == ([114,101,116,114,97,99,116,47,49] : List UInt8)) = false:=beq_eq_false_iff_ne.mpr c25
               have c25b1 : (a0.toList != ([114,101,116,114,97,99,116,47,49] : List UInt8)) = true:=bne_iff_ne.mpr c25
               by_cases c26 : a0.toList = ([58,45,47,50] : List UInt8)
               ·rw [if_pos c26] at H
                have c26b0 : (a0.toList == ([58,45,47,50] : List UInt8)) = true:=beq_iff_eq.mpr c26
                have c26b1 : (a0.toList != ([58,45,47,50] : List UInt8)) = false:=bne_eq_false_iff_eq.mpr c26
                clear c26
                obtain rfl:=Option.some.inj H
                go_wp2
                go_ret
                exact ⟨by first|rfl|(simp;done)|(simp [*];done),by repeat (first|exact Drawn0.refl _|apply Drawn0.step)⟩
               ·rw [if_neg c26] at H
                have c26b0 : (a0.toList == ([58,45,47,50] : List UInt8)) = false:=beq_eq_false_iff_ne.mpr c26
                have c26b1 : (a0.toList != ([58,45,47,50] : List UInt8)) = true:=bne_iff_ne.mpr c26
                by_cases c27 : a0.toList = ([58,45,47,49] : List UInt8)
                ·rw [if_pos c27] at H
                 have c27b0 : (a0.toList == ([58,45,47,49] : List UInt8)) = true:=beq_iff_eq.mpr c27
                 have c27b1 : (a0.toList != ([58,45,47,49] : List UInt8)) = false:=bne_eq_false_iff_eq.mpr c27
                 clear c27
                 obtain rfl:=Option.some.inj H
                 go_wp2
                 go_ret
                 exact ⟨by first|rfl|(simp;done)|(simp [*];done),by repeat (first|exact Drawn0.refl _|apply Drawn0.step)⟩
                ·rw [if_neg c27] at H
                 have c27b0 : (a0.toList == ([58,45,47,49] : List UInt8)) = false:=beq_eq_false_iff_ne.mpr c27
                 have c27b1 : (a0.toList != ([58,45,47,49] : List UInt8)) = true:=bne_iff_ne.mpr c27
                 by_cases c28 : a0.toList = ([45,45,62,47,50] : List UInt8)
                 ·rw [if_pos c28] at H
                  have c28b0 : (a0.toList == ([45,45,62,47,50] : List UInt8)) = true:=beq_iff_eq.mpr c28
                  have c28b1 : (a0.toList != ([45,45,62,47,50] : List UInt8)) = false:=bne_eq_false_iff_eq.mpr c28
                  clear c28
                  obtain rfl:=Option.some.inj H
                  go_wp2
                  go_ret
                  exact ⟨by first|rfl|(simp;done)|(simp [*];done),by repeat (first|exact Drawn0.refl _|apply Drawn0.step)⟩
                 ·rw [if_neg c28] at H
                  have c28b0 : (a0.toList == ([45,45,62,47,50] : List UInt8)) = false:=beq_eq_false_iff_ne.mpr c28
                  have c28b1 : (a0.toList != ([45,45,62,47,50] : List UInt8)) = true:=bne_iff_ne.mpr c28
                  obtain rfl:=Option.some.inj H
                  go_wp2
                  go_ret
                  exact ⟨by first|rfl|(simp;done)|(simp [*];done),by repeat (first|exact Drawn0.refl _|apply Drawn0.step)⟩
def spec_l08Head.f (k : Nat) (a0_0 : Int) (a0_1 : ByteArray) (a0_2 : Int) (l0_3 : List (S29)) : Option (Bool):=(spec_PredOf.f k a0_0 a0_1 a0_2 l0_3).bind fun t159 => (if t159.toList = ([] : List UInt8) then (some false) else ((spec_Control.f k t159).bind fun t160 => (some (!t160))))
theorem spec_l08Head.mono : ∀ a0 a1 a2 a3 k,LeO (spec_l08Head.f k a0 a1 a2 a3) (spec_l08Head.f (k + 1) a0 a1 a2 a3):=by
 intro a0 a1 a2 a3 k
 unfold spec_l08Head.f
 repeat' first
   | (with_reducible exact spec_Control.mono _ _)
   | (with_reducible exact spec_PredOf.mono _ _ _ _ _)
   | (with_reducible exact LeO.refl _)
   | (with_reducible exact LeO.none _)
   | (with_reducible refine LeO.ite ?_ ?_)
   | (with_reducible refine LeO.bind ?_ (fun _ => ?_))
   | exact spec_Control.mono _ _
   | exact spec_PredOf.mono _ _ _ _ _
   | exact LeO.none _
   | refine LeO.ite ?_ ?_
   | refine LeO.bind ?_ (fun _ => ?_)
set_option maxHeartbeats 8000000 in
set_option maxRecDepth 100000 in
theorem spec_l08Head.calls (k : Nat) (a0_0 : Int) (a0_1 : ByteArray) (a0_2 : Int) (A0_3 : Option Addr) (c0_3 : Nat) (l0_3 : List (S29)) (r : Bool) (w : World) (hr0_3 : Kd.C k29 w A0_3 l0_3.length l0_3) (hc0_3 : l0_3.length ≤ c0_3) (h : spec_l08Head.f k a0_0 a0_1 a0_2 l0_3 = some r) :
  Calls Tryd.prog 87 #[.agg #[.int .i64 a0_0,.string a0_1,.int .i64 a0_2,.slice A0_3 l0_3.length c0_3]] w fun e w' => e = .returned (.bool r) ∧ Below w.heap.size w w':=by
 have hu29:=Tryd.underlying29
 have HR0_3:=asd hr0_3
 have HC0_3:=asd hc0_3
 clear hr0_3 hc0_3
 have HB:=asd (Below.refl w.heap.size w)
 have H : ((spec_PredOf.f k a0_0 a0_1 a0_2 l0_3).bind fun t159 => (if t159.toList = ([] : List UInt8) then (some false) else ((spec_Control.f k t159).bind fun t160 => (some (!t160))))) = some r:=h
 clear h
 replace H:=Option.bind_eq_some_iff.mp H
 obtain ⟨t159,A20,H⟩:=H
 replace H : (if t159.toList = ([] : List UInt8) then (some false) else ((spec_Control.f k t159).bind fun t160 => (some (!t160)))) = some r:=H
 have A2:=asd A20
 clear A20
 by_cases c3 : t159.toList = ([] : List UInt8)
 ·rw [if_pos c3] at H
  have c3b0 : (t159.toList == ([] : List UInt8)) = true:=beq_iff_eq.mpr c3
  have c3b1 : (t159.toList != ([] : List UInt8)) = false:=bne_eq_false_iff_eq.mpr c3
  clear c3
  obtain rfl:=Option.some.inj H
  go_enter Tryd.func87,Tryd.ntmps87
  go_wp2_with (first|((with_reducible refine gate_dst (N:=1) rfl ?_);refine box_event ?hg (N:=1) ?hd (cs:=#[.int .i64 a0_0,.string a0_1,.int .i64 a0_2,.slice A0_3 l0_3.length c0_3]) (t:=29) ?hr ?_;(case hd => rfl);(case hg => rfl);(case hr => first|(go_simp;done)|(go_simp;rfl));intro gb158 hg w4 hbox hb;have n0_:=asd (below_step (by repeat (first|(with_reducible first|exact HB.out|apply below_alloc|apply pw_below_drewN|apply below_drew1)|exact HB.out)) hb);have n1_:=asd (hbox);have n2_:=asd ((by rw [hg];exact (below_size (by repeat (first|(with_reducible first|exact HB.out|apply below_alloc|apply pw_below_drewN|apply below_drew1)|exact HB.out))) : w.heap.size ≤ gb158));have n3_:=asd ((by rw [hg];exact (below_size (by repeat (first|(with_reducible first|exact HB.out|apply below_alloc|apply pw_below_drewN|apply below_drew1)|exact HB.out))) : w.heap.size ≤ gb158));clear HB;have HB:=n0_;have BK158:=n1_;have GW158:=n2_;have GE158:=n3_;clear n0_ n1_ n2_ n3_;clear hb hbox hg;have hcz5_0 : w4.cell? ⟨gb158,0,none⟩ = some (.int .i64 a0_0):=(blk_cell BK158.out 0).trans rfl;have hcz5_1 : w4.cell? ⟨gb158,1,none⟩ = some (.string a0_1):=(blk_cell BK158.out 1).trans rfl;have hcz5_2 : w4.cell? ⟨gb158,2,none⟩ = some (.int .i64 a0_2):=(blk_cell BK158.out 2).trans rfl;have hcz5_3 : w4.cell? ⟨gb158,3,none⟩ = some (.slice A0_3 l0_3.length c0_3):=(blk_cell BK158.out 3).trans rfl;have hfz5_0:=blk_frozen BK158.out 0;have hfz5_1:=blk_frozen BK158.out 1;have hfz5_2:=blk_frozen BK158.out 2;have hfz5_3:=blk_frozen BK158.out 3)|((with_reducible refine gate_callee (f:=11) rfl ?_);refine goesL_ (some 5) rfl rfl Tryd.func11 (by kernel_rfl) rfl #[.agg #[.int .i64 a0_0,.string a0_1,.int .i64 a0_2,.slice A0_3 l0_3.length c0_3]] rfl (by (try simp only [List.map_toArray,List.map_cons,List.map_nil]);first|done|rfl|(simp only [List.length_drop,List.length_take];rfl)) ?_;(with_reducible refine (spec_PredOf.calls k a0_0 a0_1 a0_2 _ _ l0_3 t159 _ ?side1 ?side2 A2.out).mono ?_);(case side1 => repeat (first|exact (Kd.C_below HR0_3.out HB.out)|(with_reducible refine Kd.C_alloc ?_ _)|(with_reducible refine Kd.C_drewN ?_ _)|(with_reducible refine Kd.C_drew ?_)));(case side2 => exact HC0_3.out);rintro e w6 ⟨rfl,hb⟩;refine ⟨_,rfl,?_⟩;have n0_:=asd (blk_below (g:=gb158) (o:=.cells #[.int .i64 a0_0,.string a0_1,.int .i64 a0_2,.slice A0_3 l0_3.length c0_3] 29 (0,0)) (by (with_reducible repeat (first|refine blk_drewN ?_ _|refine blk_drew ?_|refine blk_alloc ?_ _));exact BK158.out) hb);have n1_:=asd (below_step (by repeat (first|(with_reducible first|exact HB.out|apply below_alloc|apply pw_below_drewN|apply below_drew1|refine below_set ?_ GE158.out)|exact HB.out)) hb);clear BK158;clear HB;have BK158:=n0_;have HB:=n1_;clear n0_ n1_;(try clear hb)))
  go_ret
  exact ⟨by first|rfl|(simp [errW_none,errW_some] <;> rfl)|(simp [*,errW_none,errW_some] <;> rfl),by repeat (first|(with_reducible first|exact HB.out|apply below_alloc|apply pw_below_drewN|apply below_drew1|refine below_set ?_ GE158.out)|exact HB.out)⟩
 ·rw [if_neg c3] at H
  have c3b0 : (t159.toList == ([] : List UInt8)) = false:=beq_eq_false_iff_ne.mpr c3
  have c3b1 : (t159.toList != ([] : List UInt8)) = true:=bne_iff_ne.mpr c3
  replace H:=Option.bind_eq_some_iff.mp H
  obtain ⟨t160,A70,H⟩:=H
  replace H : (some (!t160)) = some r:=H
  have A7:=asd A70
  clear A70
  obtain rfl:=Option.some.inj H
  go_enter Tryd.func87,Tryd.ntmps87
  go_wp2_with (first|((with_reducible refine gate_dst (N:=1) rfl ?_);refine box_event ?hg (N:=1) ?hd (cs:=#[.int .i64 a0_0,.string a0_1,.int .i64 a0_2,.slice A0_3 l0_3.length c0_3]) (t:=29) ?hr ?_;(case hd => rfl);(case hg => rfl);(case hr => first|(go_simp;done)|(go_simp;rfl));intro gb158 hg w8 hbox hb;have n0_:=asd (below_step (by repeat (first|(with_reducible first|exact HB.out|apply below_alloc|apply pw_below_drewN|apply below_drew1)|exact HB.out)) hb);have n1_:=asd (hbox);have n2_:=asd ((by rw [hg];exact (below_size (by repeat (first|(with_reducible first|exact HB.out|apply below_alloc|apply pw_below_drewN|apply below_drew1)|exact HB.out))) : w.heap.size ≤ gb158));have n3_:=asd ((by rw [hg];exact (below_size (by repeat (first|(with_reducible first|exact HB.out|apply below_alloc|apply pw_below_drewN|apply below_drew1)|exact HB.out))) : w.heap.size ≤ gb158));clear HB;have HB:=n0_;have BK158:=n1_;have GW158:=n2_;have GE158:=n3_;clear n0_ n1_ n2_ n3_;clear hb hbox hg;have hcz9_0 : w8.cell? ⟨gb158,0,none⟩ = some (.int .i64 a0_0):=(blk_cell BK158.out 0).trans rfl;have hcz9_1 : w8.cell? ⟨gb158,1,none⟩ = some (.string a0_1):=(blk_cell BK158.out 1).trans rfl;have hcz9_2 : w8.cell? ⟨gb158,2,none⟩ = some (.int .i64 a0_2):=(blk_cell BK158.out 2).trans rfl;have hcz9_3 : w8.cell? ⟨gb158,3,none⟩ = some (.slice A0_3 l0_3.length c0_3):=(blk_cell BK158.out 3).trans rfl;have hfz9_0:=blk_frozen BK158.out 0;have hfz9_1:=blk_frozen BK158.out 1;have hfz9_2:=blk_frozen BK158.out 2;have hfz9_3:=blk_frozen BK158.out 3)|((with_reducible refine gate_callee (f:=11) rfl ?_);refine goesL_ (some 5) rfl rfl Tryd.func11 (by kernel_rfl) rfl #[.agg #[.int .i64 a0_0,.string a0_1,.int .i64 a0_2,.slice A0_3 l0_3.length c0_3]] rfl (by (try simp only [List.map_toArray,List.map_cons,List.map_nil]);first|done|rfl|(simp only [List.length_drop,List.length_take];rfl)) ?_;(with_reducible refine (spec_PredOf.calls k a0_0 a0_1 a0_2 _ _ l0_3 t159 _ ?side1 ?side2 A2.out).mono ?_);(case side1 => repeat (first|exact (Kd.C_below HR0_3.out HB.out)|(with_reducible refine Kd.C_alloc ?_ _)|(with_reducible refine Kd.C_drewN ?_ _)|(with_reducible refine Kd.C_drew ?_)));(case side2 => exact HC0_3.out);rintro e w10 ⟨rfl,hb⟩;refine ⟨_,rfl,?_⟩;have n0_:=asd (blk_below (g:=gb158) (o:=.cells #[.int .i64 a0_0,.string a0_1,.int .i64 a0_2,.slice A0_3 l0_3.length c0_3] 29 (0,0)) (by (with_reducible repeat (first|refine blk_drewN ?_ _|refine blk_drew ?_|refine blk_alloc ?_ _));exact BK158.out) hb);have n1_:=asd (below_step (by repeat (first|(with_reducible first|exact HB.out|apply below_alloc|apply pw_below_drewN|apply below_drew1|refine below_set ?_ GE158.out)|exact HB.out)) hb);clear BK158;clear HB;have BK158:=n0_;have HB:=n1_;clear n0_ n1_;(try clear hb))|(go_at_call 109;(with_reducible refine (spec_Control.calls k t159 t160 _ A7.out).mono ?_);rintro e w' ⟨rfl,⟨nd,rfl⟩⟩))
  go_ret
  exact ⟨by first|rfl|(simp [errW_none,errW_some] <;> rfl)|(simp [*,errW_none,errW_some] <;> rfl),by repeat (first|(with_reducible first|exact HB.out|apply below_alloc|apply pw_below_drewN|apply below_drew1|refine below_set ?_ GE158.out)|exact HB.out)⟩
def spec_l08Clause.f (k : Nat) (a0_0 : Int) (a0_1 : ByteArray) (a0_2 : Int) (l0_3 : List (S29)) (a0_4 : Int) (a0_5 : ByteArray) (a0_6 : Int) (l0_7 : List (S29)) (a0_8 : ByteArray) : Option (Bool):=(spec_TermOk.f k a0_0 a0_1 a0_2 l0_3).bind fun t162 => (if t162 = true then ((spec_TermOk.f k a0_4 a0_5 a0_6 l0_7).bind fun t163 => (if t163 = true then ((spec_l08Head.f k a0_0 a0_1 a0_2 l0_3).bind fun t164 => (some t164)) else (some false))) else (some false))
theorem spec_l08Clause.mono : ∀ a0 a1 a2 a3 a4 a5 a6 a7 a8 k,LeO (spec_l08Clause.f k a0 a1 a2 a3 a4 a5 a6 a7 a8) (spec_l08Clause.f (k + 1) a0 a1 a2 a3 a4 a5 a6 a7 a8):=by
 intro a0 a1 a2 a3 a4 a5 a6 a7 a8 k
 unfold spec_l08Clause.f
 repeat' first
   | (with_reducible exact spec_TermOk.mono _ _ _ _ _)
   | (with_reducible exact spec_l08Head.mono _ _ _ _ _)
   | (with_reducible exact LeO.refl _)
   | (with_reducible exact LeO.none _)
   | (with_reducible refine LeO.ite ?_ ?_)
   | (with_reducible refine LeO.bind ?_ (fun _ => ?_))
   | exact spec_TermOk.mono _ _ _ _ _
   | exact spec_l08Head.mono _ _ _ _ _
   | exact LeO.none _
   | refine LeO.ite ?_ ?_
   | refine LeO.bind ?_ (fun _ => ?_)
set_option maxHeartbeats 8000000 in
set_option maxRecDepth 100000 in
theorem spec_l08Clause.calls (k : Nat) (a0_0 : Int) (a0_1 : ByteArray) (a0_2 : Int) (A0_3 : Option Addr) (c0_3 : Nat) (l0_3 : List (S29)) (a0_4 : Int) (a0_5 : ByteArray) (a0_6 : Int) (A0_7 : Option Addr) (c0_7 : Nat) (l0_7 : List (S29)) (a0_8 : ByteArray) (r : Bool) (w : World) (hr0_3 : Kd.C k29 w A0_3 l0_3.length l0_3) (hc0_3 : l0_3.length ≤ c0_3) (hr0_7 : Kd.C k29 w A0_7 l0_7.length l0_7) (hc0_7 : l0_7.length ≤ c0_7) (h : spec_l08Clause.f k a0_0 a0_1 a0_2 l0_3 a0_4 a0_5 a0_6 l0_7 a0_8 = some r) :
  Calls Tryd.prog 55 #[.agg #[.int .i64 a0_0,.string a0_1,.int .i64 a0_2,.slice A0_3 l0_3.length c0_3,.int .i64 a0_4,.string a0_5,.int .i64 a0_6,.slice A0_7 l0_7.length c0_7,.string a0_8]] w fun e w' => e = .returned (.bool r) ∧ Below w.heap.size w w':=by
 have hu48:=Tryd.underlying48
 have hu29:=Tryd.underlying29
 have HR0_3:=asd hr0_3
 have HC0_3:=asd hc0_3
 clear hr0_3 hc0_3
 have HR0_7:=asd hr0_7
 have HC0_7:=asd hc0_7
 clear hr0_7 hc0_7
 have HB:=asd (Below.refl w.heap.size w)
 have H : ((spec_TermOk.f k a0_0 a0_1 a0_2 l0_3).bind fun t162 => (if t162 = true then ((spec_TermOk.f k a0_4 a0_5 a0_6 l0_7).bind fun t163 => (if t163 = true then ((spec_l08Head.f k a0_0 a0_1 a0_2 l0_3).bind fun t164 => (some t164)) else (some false))) else (some false))) = some r:=h
 clear h
 replace H:=Option.bind_eq_some_iff.mp H
 obtain ⟨t162,A20,H⟩:=H
 replace H : (if t162 = true then ((spec_TermOk.f k a0_4 a0_5 a0_6 l0_7).bind fun t163 => (if t163 = true then ((spec_l08Head.f k a0_0 a0_1 a0_2 l0_3).bind fun t164 => (some t164)) else (some false))) else (some false)) = some r:=H
 have A2:=asd A20
 clear A20
 by_cases c3 : t162 = true
 ·subst c3
  have H1 : ((spec_TermOk.f k a0_4 a0_5 a0_6 l0_7).bind fun t163 => (if t163 = true then ((spec_l08Head.f k a0_0 a0_1 a0_2 l0_3).bind fun t164 => (some t164)) else (some false))) = some r:=by rw [if_pos rfl] at H;exact H
  clear H
  have H:=H1
  clear H1
  replace H:=Option.bind_eq_some_iff.mp H
  obtain ⟨t163,A40,H⟩:=H
  replace H : (if t163 = true then ((spec_l08Head.f k a0_0 a0_1 a0_2 l0_3).bind fun t164 => (some t164)) else (some false)) = some r:=H
  have A4:=asd A40
  clear A40
  by_cases c5 : t163 = true
  ·subst c5
   have H1 : ((spec_l08Head.f k a0_0 a0_1 a0_2 l0_3).bind fun t164 => (some t164)) = some r:=by rw [if_pos rfl] at H;exact H
   clear H
   have H:=H1
   clear H1
   replace H:=Option.bind_eq_some_iff.mp H
   obtain ⟨t164,A60,H⟩:=H
   replace H : (some t164) = some r:=H
   have A6:=asd A60
   clear A60
   obtain rfl:=Option.some.inj H
   go_enter Tryd.func55,Tryd.ntmps55
   go_wp2_with (first|((with_reducible refine gate_dst (N:=1) rfl ?_);refine box_event ?hg (N:=1) ?hd (cs:=#[.int .i64 a0_0,.string a0_1,.int .i64 a0_2,.slice A0_3 l0_3.length c0_3,.int .i64 a0_4,.string a0_5,.int .i64 a0_6,.slice A0_7 l0_7.length c0_7,.string a0_8]) (t:=48) ?hr ?_;(case hd => rfl);(case hg => rfl);(case hr => first|(go_simp;done)|(go_simp;rfl));intro gb161 hg w7 hbox hb;have n0_:=asd (below_step (by repeat (first|(with_reducible first|exact HB.out|apply below_alloc|apply pw_below_drewN|apply below_drew1)|exact HB.out)) hb);have n1_:=asd (hbox);have n2_:=asd ((by rw [hg];exact (below_size (by repeat (first|(with_reducible first|exact HB.out|apply below_alloc|apply pw_below_drewN|apply below_drew1)|exact HB.out))) : w.heap.size ≤ gb161));have n3_:=asd ((by rw [hg];exact (below_size (by repeat (first|(with_reducible first|exact HB.out|apply below_alloc|apply pw_below_drewN|apply below_drew1)|exact HB.out))) : w.heap.size ≤ gb161));clear HB;have HB:=n0_;have BK161:=n1_;have GW161:=n2_;have GE161:=n3_;clear n0_ n1_ n2_ n3_;clear hb hbox hg;have hcz8_0 : w7.cell? ⟨gb161,0,none⟩ = some (.int .i64 a0_0):=(blk_cell BK161.out 0).trans rfl;have hcz8_1 : w7.cell? ⟨gb161,1,none⟩ = some (.string a0_1):=(blk_cell BK161.out 1).trans rfl;have hcz8_2 : w7.cell? ⟨gb161,2,none⟩ = some (.int .i64 a0_2):=(blk_cell BK161.out 2).trans rfl;have hcz8_3 : w7.cell? ⟨gb161,3,none⟩ = some (.slice A0_3 l0_3.length c0_3):=(blk_cell BK161.out 3).trans rfl;have hcz8_4 : w7.cell? ⟨gb161,4,none⟩ = some (.int .i64 a0_4):=(blk_cell BK161.out 4).trans rfl;have hcz8_5 : w7.cell? ⟨gb161,5,none⟩ = some (.string a0_5):=(blk_cell BK161.out 5).trans rfl;have hcz8_6 : w7.cell? ⟨gb161,6,none⟩ = some (.int .i64 a0_6):=(blk_cell BK161.out 6).trans rfl;have hcz8_7 : w7.cell? ⟨gb161,7,none⟩ = some (.slice A0_7 l0_7.length c0_7):=(blk_cell BK161.out 7).trans rfl;have hcz8_8 : w7.cell? ⟨gb161,8,none⟩ = some (.string a0_8):=(blk_cell BK161.out 8).trans rfl;have hfz8_0:=blk_frozen BK161.out 0;have hfz8_1:=blk_frozen BK161.out 1;have hfz8_2:=blk_frozen BK161.out 2;have hfz8_3:=blk_frozen BK161.out 3;have hfz8_4:=blk_frozen BK161.out 4;have hfz8_5:=blk_frozen BK161.out 5;have hfz8_6:=blk_frozen BK161.out 6;have hfz8_7:=blk_frozen BK161.out 7;have hfz8_8:=blk_frozen BK161.out 8)|((with_reducible refine gate_callee (f:=86) rfl ?_);refine goesL_ (some 5) rfl rfl Tryd.func86 (by kernel_rfl) rfl #[.agg #[.int .i64 a0_0,.string a0_1,.int .i64 a0_2,.slice A0_3 l0_3.length c0_3]] rfl (by (try simp only [List.map_toArray,List.map_cons,List.map_nil]);first|done|rfl|(simp only [List.length_drop,List.length_take];rfl)) ?_;(with_reducible refine (spec_TermOk.calls k a0_0 a0_1 a0_2 _ _ l0_3 true _ ?side1 ?side2 A2.out).mono ?_);(case side1 => repeat (first|exact (Kd.C_below HR0_3.out HB.out)|(with_reducible refine Kd.C_alloc ?_ _)|(with_reducible refine Kd.C_drewN ?_ _)|(with_reducible refine Kd.C_drew ?_)));(case side2 => exact HC0_3.out);rintro e w9 ⟨rfl,hb⟩;refine ⟨_,rfl,?_⟩;have n0_:=asd (blk_below (g:=gb161) (o:=.cells #[.int .i64 a0_0,.string a0_1,.int .i64 a0_2,.slice A0_3 l0_3.length c0_3,.int .i64 a0_4,.string a0_5,.int .i64 a0_6,.slice A0_7 l0_7.length c0_7,.string a0_8] 48 (0,0)) (by (with_reducible repeat (first|refine blk_drewN ?_ _|refine blk_drew ?_|refine blk_alloc ?_ _));exact BK161.out) hb);have n1_:=asd (below_step (by repeat (first|(with_reducible first|exact HB.out|apply below_alloc|apply pw_below_drewN|apply below_drew1|refine below_set ?_ GE161.out)|exact HB.out)) hb);clear BK161;clear HB;have BK161:=n0_;have HB:=n1_;clear n0_ n1_;(try clear hb);(try clear hb2);(try clear hk);(try clear hi);have hcz10_0 : w9.cell? ⟨gb161,0,none⟩ = some (.int .i64 a0_0):=(blk_cell BK161.out 0).trans rfl;have hcz10_1 : w9.cell? ⟨gb161,1,none⟩ = some (.string a0_1):=(blk_cell BK161.out 1).trans rfl;have hcz10_2 : w9.cell? ⟨gb161,2,none⟩ = some (.int .i64 a0_2):=(blk_cell BK161.out 2).trans rfl;have hcz10_3 : w9.cell? ⟨gb161,3,none⟩ = some (.slice A0_3 l0_3.length c0_3):=(blk_cell BK161.out 3).trans rfl;have hcz10_4 : w9.cell? ⟨gb161,4,none⟩ = some (.int .i64 a0_4):=(blk_cell BK161.out 4).trans rfl;have hcz10_5 : w9.cell? ⟨gb161,5,none⟩ = some (.string a0_5):=(blk_cell BK161.out 5).trans rfl;have hcz10_6 : w9.cell? ⟨gb161,6,none⟩ = some (.int .i64 a0_6):=(blk_cell BK161.out 6).trans rfl;have hcz10_7 : w9.cell? ⟨gb161,7,none⟩ = some (.slice A0_7 l0_7.length c0_7):=(blk_cell BK161.out 7).trans rfl;have hcz10_8 : w9.cell? ⟨gb161,8,none⟩ = some (.string a0_8):=(blk_cell BK161.out 8).trans rfl;have hfz10_0:=blk_frozen BK161.out 0;have hfz10_1:=blk_frozen BK161.out 1;have hfz10_2:=blk_frozen BK161.out 2;have hfz10_3:=blk_frozen BK161.out 3;have hfz10_4:=blk_frozen BK161.out 4;have hfz10_5:=blk_frozen BK161.out 5;have hfz10_6:=blk_frozen BK161.out 6;have hfz10_7:=blk_frozen BK161.out 7;have hfz10_8:=blk_frozen BK161.out 8)|(go_at_call 86;(with_reducible refine (spec_TermOk.calls k a0_4 a0_5 a0_6 _ _ l0_7 true _ ?side1 ?side2 A4.out).mono ?_);(case side1 => repeat (first|exact (Kd.C_below HR0_7.out HB.out)|(with_reducible refine Kd.C_alloc ?_ _)|(with_reducible refine Kd.C_drewN ?_ _)|(with_reducible refine Kd.C_drew ?_)));(case side2 => exact HC0_7.out);rintro e w11 ⟨rfl,hb⟩;have n0_:=asd (blk_below (g:=gb161) (o:=.cells #[.int .i64 a0_0,.string a0_1,.int .i64 a0_2,.slice A0_3 l0_3.length c0_3,.int .i64 a0_4,.string a0_5,.int .i64 a0_6,.slice A0_7 l0_7.length c0_7,.string a0_8] 48 (0,0)) (by (with_reducible repeat (first|refine blk_drewN ?_ _|refine blk_drew ?_|refine blk_alloc ?_ _));exact BK161.out) hb);have n1_:=asd (below_step (by repeat (first|(with_reducible first|exact HB.out|apply below_alloc|apply pw_below_drewN|apply below_drew1|refine below_set ?_ GE161.out)|exact HB.out)) hb);clear BK161;clear HB;have BK161:=n0_;have HB:=n1_;clear n0_ n1_;(try clear hb);(try clear hb2);(try clear hk);(try clear hi);have hcz12_0 : w11.cell? ⟨gb161,0,none⟩ = some (.int .i64 a0_0):=(blk_cell BK161.out 0).trans rfl;have hcz12_1 : w11.cell? ⟨gb161,1,none⟩ = some (.string a0_1):=(blk_cell BK161.out 1).trans rfl;have hcz12_2 : w11.cell? ⟨gb161,2,none⟩ = some (.int .i64 a0_2):=(blk_cell BK161.out 2).trans rfl;have hcz12_3 : w11.cell? ⟨gb161,3,none⟩ = some (.slice A0_3 l0_3.length c0_3):=(blk_cell BK161.out 3).trans rfl;have hcz12_4 : w11.cell? ⟨gb161,4,none⟩ = some (.int .i64 a0_4):=(blk_cell BK161.out 4).trans rfl;have hcz12_5 : w11.cell? ⟨gb161,5,none⟩ = some (.string a0_5):=(blk_cell BK161.out 5).trans rfl;have hcz12_6 : w11.cell? ⟨gb161,6,none⟩ = some (.int .i64 a0_6):=(blk_cell BK161.out 6).trans rfl;have hcz12_7 : w11.cell? ⟨gb161,7,none⟩ = some (.slice A0_7 l0_7.length c0_7):=(blk_cell BK161.out 7).trans rfl;have hcz12_8 : w11.cell? ⟨gb161,8,none⟩ = some (.string a0_8):=(blk_cell BK161.out 8).trans rfl;have hfz12_0:=blk_frozen BK161.out 0;have hfz12_1:=blk_frozen BK161.out 1;have hfz12_2:=blk_frozen BK161.out 2;have hfz12_3:=blk_frozen BK161.out 3;have hfz12_4:=blk_frozen BK161.out 4;have hfz12_5:=blk_frozen BK161.out 5;have hfz12_6:=blk_frozen BK161.out 6;have hfz12_7:=blk_frozen BK161.out 7;have hfz12_8:=blk_frozen BK161.out 8)|(go_at_call 87;(with_reducible refine (spec_l08Head.calls k a0_0 a0_1 a0_2 _ _ l0_3 t164 _ ?side1 ?side2 A6.out).mono ?_);(case side1 => repeat (first|exact (Kd.C_below HR0_3.out HB.out)|(with_reducible refine Kd.C_alloc ?_ _)|(with_reducible refine Kd.C_drewN ?_ _)|(with_reducible refine Kd.C_drew ?_)));(case side2 => exact HC0_3.out);rintro e w13 ⟨rfl,hb⟩;have n0_:=asd (blk_below (g:=gb161) (o:=.cells #[.int .i64 a0_0,.string a0_1,.int .i64 a0_2,.slice A0_3 l0_3.length c0_3,.int .i64 a0_4,.string a0_5,.int .i64 a0_6,.slice A0_7 l0_7.length c0_7,.string a0_8] 48 (0,0)) (by (with_reducible repeat (first|refine blk_drewN ?_ _|refine blk_drew ?_|refine blk_alloc ?_ _));exact BK161.out) hb);have n1_:=asd (below_step (by repeat (first|(with_reducible first|exact HB.out|apply below_alloc|apply pw_below_drewN|apply below_drew1|refine below_set ?_ GE161.out)|exact HB.out)) hb);clear BK161;clear HB;have BK161:=n0_;have HB:=n1_;clear n0_ n1_;(try clear hb)))
   go_ret
   exact ⟨by first|rfl|(simp [errW_none,errW_some] <;> rfl)|(simp [*,errW_none,errW_some] <;> rfl),by repeat (first|(with_reducible first|exact HB.out|apply below_alloc|apply pw_below_drewN|apply below_drew1|refine below_set ?_ GE161.out)|exact HB.out)⟩
  ·replace c5:=Bool.eq_false_iff.mpr c5
   subst c5
   have H1 : (some false) = some r:=by rw [if_neg (show ¬ (false = true) by decide)] at H;exact H
   clear H
   have H:=H1
   clear H1
   obtain rfl:=Option.some.inj H
   go_enter Tryd.func55,Tryd.ntmps55
   go_wp2_with (first|((with_reducible refine gate_dst (N:=1) rfl ?_);refine box_event ?hg (N:=1) ?hd (cs:=#[.int .i64 a0_0,.string a0_1,.int .i64 a0_2,.slice A0_3 l0_3.length c0_3,.int .i64 a0_4,.string a0_5,.int .i64 a0_6,.slice A0_7 l0_7.length c0_7,.string a0_8]) (t:=48) ?hr ?_;(case hd => rfl);(case hg => rfl);(case hr => first|(go_simp;done)|(go_simp;rfl));intro gb161 hg w14 hbox hb;have n0_:=asd (below_step (by repeat (first|(with_reducible first|exact HB.out|apply below_alloc|apply pw_below_drewN|apply below_drew1)|exact HB.out)) hb);have n1_:=asd (hbox);have n2_:=asd ((by rw [hg];exact (below_size (by repeat (first|(with_reducible first|exact HB.out|apply below_alloc|apply pw_below_drewN|apply below_drew1)|exact HB.out))) : w.heap.size ≤ gb161));have n3_:=asd ((by rw [hg];exact (below_size (by repeat (first|(with_reducible first|exact HB.out|apply below_alloc|apply pw_below_drewN|apply below_drew1)|exact HB.out))) : w.heap.size ≤ gb161));clear HB;have HB:=n0_;have BK161:=n1_;have GW161:=n2_;have GE161:=n3_;clear n0_ n1_ n2_ n3_;clear hb hbox hg;have hcz15_0 : w14.cell? ⟨gb161,0,none⟩ = some (.int .i64 a0_0):=(blk_cell BK161.out 0).trans rfl;have hcz15_1 : w14.cell? ⟨gb161,1,none⟩ = some (.string a0_1):=(blk_cell BK161.out 1).trans rfl;have hcz15_2 : w14.cell? ⟨gb161,2,none⟩ = some (.int .i64 a0_2):=(blk_cell BK161.out 2).trans rfl;have hcz15_3 : w14.cell? ⟨gb161,3,none⟩ = some (.slice A0_3 l0_3.length c0_3):=(blk_cell BK161.out 3).trans rfl;have hcz15_4 : w14.cell? ⟨gb161,4,none⟩ = some (.int .i64 a0_4):=(blk_cell BK161.out 4).trans rfl;have hcz15_5 : w14.cell? ⟨gb161,5,none⟩ = some (.string a0_5):=(blk_cell BK161.out 5).trans rfl;have hcz15_6 : w14.cell? ⟨gb161,6,none⟩ = some (.int .i64 a0_6):=(blk_cell BK161.out 6).trans rfl;have hcz15_7 : w14.cell? ⟨gb161,7,none⟩ = some (.slice A0_7 l0_7.length c0_7):=(blk_cell BK161.out 7).trans rfl;have hcz15_8 : w14.cell? ⟨gb161,8,none⟩ = some (.string a0_8):=(blk_cell BK161.out 8).trans rfl;have hfz15_0:=blk_frozen BK161.out 0;have hfz15_1:=blk_frozen BK161.out 1;have hfz15_2:=blk_frozen BK161.out 2;have hfz15_3:=blk_frozen BK161.out 3;have hfz15_4:=blk_frozen BK161.out 4;have hfz15_5:=blk_frozen BK161.out 5;have hfz15_6:=blk_frozen BK161.out 6;have hfz15_7:=blk_frozen BK161.out 7;have hfz15_8:=blk_frozen BK161.out 8)|((with_reducible refine gate_callee (f:=86) rfl ?_);refine goesL_ (some 5) rfl rfl Tryd.func86 (by kernel_rfl) rfl #[.agg #[.int .i64 a0_0,.string a0_1,.int .i64 a0_2,.slice A0_3 l0_3.length c0_3]] rfl (by (try simp only [List.map_toArray,List.map_cons,List.map_nil]);first|done|rfl|(simp only [List.length_drop,List.length_take];rfl)) ?_;(with_reducible refine (spec_TermOk.calls k a0_0 a0_1 a0_2 _ _ l0_3 true _ ?side1 ?side2 A2.out).mono ?_);(case side1 => repeat (first|exact (Kd.C_below HR0_3.out HB.out)|(with_reducible refine Kd.C_alloc ?_ _)|(with_reducible refine Kd.C_drewN ?_ _)|(with_reducible refine Kd.C_drew ?_)));(case side2 => exact HC0_3.out);rintro e w16 ⟨rfl,hb⟩;refine ⟨_,rfl,?_⟩;have n0_:=asd (blk_below (g:=gb161) (o:=.cells #[.int .i64 a0_0,.string a0_1,.int .i64 a0_2,.slice A0_3 l0_3.length c0_3,.int .i64 a0_4,.string a0_5,.int .i64 a0_6,.slice A0_7 l0_7.length c0_7,.string a0_8] 48 (0,0)) (by (with_reducible repeat (first|refine blk_drewN ?_ _|refine blk_drew ?_|refine blk_alloc ?_ _));exact BK161.out) hb);have n1_:=asd (below_step (by repeat (first|(with_reducible first|exact HB.out|apply below_alloc|apply pw_below_drewN|apply below_drew1|refine below_set ?_ GE161.out)|exact HB.out)) hb);clear BK161;clear HB;have BK161:=n0_;have HB:=n1_;clear n0_ n1_;(try clear hb);(try clear hb2);(try clear hk);(try clear hi);have hcz17_0 : w16.cell? ⟨gb161,0,none⟩ = some (.int .i64 a0_0):=(blk_cell BK161.out 0).trans rfl;have hcz17_1 : w16.cell? ⟨gb161,1,none⟩ = some (.string a0_1):=(blk_cell BK161.out 1).trans rfl;have hcz17_2 : w16.cell? ⟨gb161,2,none⟩ = some (.int .i64 a0_2):=(blk_cell BK161.out 2).trans rfl;have hcz17_3 : w16.cell? ⟨gb161,3,none⟩ = some (.slice A0_3 l0_3.length c0_3):=(blk_cell BK161.out 3).trans rfl;have hcz17_4 : w16.cell? ⟨gb161,4,none⟩ = some (.int .i64 a0_4):=(blk_cell BK161.out 4).trans rfl;have hcz17_5 : w16.cell? ⟨gb161,5,none⟩ = some (.string a0_5):=(blk_cell BK161.out 5).trans rfl;have hcz17_6 : w16.cell? ⟨gb161,6,none⟩ = some (.int .i64 a0_6):=(blk_cell BK161.out 6).trans rfl;have hcz17_7 : w16.cell? ⟨gb161,7,none⟩ = some (.slice A0_7 l0_7.length c0_7):=(blk_cell BK161.out 7).trans rfl;have hcz17_8 : w16.cell? ⟨gb161,8,none⟩ = some (.string a0_8):=(blk_cell BK161.out 8).trans rfl;have hfz17_0:=blk_frozen BK161.out 0;have hfz17_1:=blk_frozen BK161.out 1;have hfz17_2:=blk_frozen BK161.out 2;have hfz17_3:=blk_frozen BK161.out 3;have hfz17_4:=blk_frozen BK161.out 4;have hfz17_5:=blk_frozen BK161.out 5;have hfz17_6:=blk_frozen BK161.out 6;have hfz17_7:=blk_frozen BK161.out 7;have hfz17_8:=blk_frozen BK161.out 8)|(go_at_call 86;(with_reducible refine (spec_TermOk.calls k a0_4 a0_5 a0_6 _ _ l0_7 false _ ?side1 ?side2 A4.out).mono ?_);(case side1 => repeat (first|exact (Kd.C_below HR0_7.out HB.out)|(with_reducible refine Kd.C_alloc ?_ _)|(with_reducible refine Kd.C_drewN ?_ _)|(with_reducible refine Kd.C_drew ?_)));(case side2 => exact HC0_7.out);rintro e w18 ⟨rfl,hb⟩;have n0_:=asd (blk_below (g:=gb161) (o:=.cells #[.int .i64 a0_0,.string a0_1,.int .i64 a0_2,.slice A0_3 l0_3.length c0_3,.int .i64 a0_4,.string a0_5,.int .i64 a0_6,.slice A0_7 l0_7.length c0_7,.string a0_8] 48 (0,0)) (by (with_reducible repeat (first|refine blk_drewN ?_ _|refine blk_drew ?_|refine blk_alloc ?_ _));exact BK161.out) hb);have n1_:=asd (below_step (by repeat (first|(with_reducible first|exact HB.out|apply below_alloc|apply pw_below_drewN|apply below_drew1|refine below_set ?_ GE161.out)|exact HB.out)) hb);clear BK161;clear HB;have BK161:=n0_;have HB:=n1_;clear n0_ n1_;(try clear hb)))
   go_ret
   exact ⟨by first|rfl|(simp [errW_none,errW_some] <;> rfl)|(simp [*,errW_none,errW_some] <;> rfl),by repeat (first|(with_reducible first|exact HB.out|apply below_alloc|apply pw_below_drewN|apply below_drew1|refine below_set ?_ GE161.out)|exact HB.out)⟩
 ·replace c3:=Bool.eq_false_iff.mpr c3
  subst c3
  have H1 : (some false) = some r:=by rw [if_neg (show ¬ (false = true) by decide)] at H;exact H
  clear H
  have H:=H1
  clear H1
  obtain rfl:=Option.some.inj H
  go_enter Tryd.func55,Tryd.ntmps55
  go_wp2_with (first|((with_reducible refine gate_dst (N:=1) rfl ?_);refine box_event ?hg (N:=1) ?hd (cs:=#[.int .i64 a0_0,.string a0_1,.int .i64 a0_2,.slice A0_3 l0_3.length c0_3,.int .i64 a0_4,.string a0_5,.int .i64 a0_6,.slice A0_7 l0_7.length c0_7,.string a0_8]) (t:=48) ?hr ?_;(case hd => rfl);(case hg => rfl);(case hr => first|(go_simp;done)|(go_simp;rfl));intro gb161 hg w19 hbox hb;have n0_:=asd (below_step (by repeat (first|(with_reducible first|exact HB.out|apply below_alloc|apply pw_below_drewN|apply below_drew1)|exact HB.out)) hb);have n1_:=asd (hbox);have n2_:=asd ((by rw [hg];exact (below_size (by repeat (first|(with_reducible first|exact HB.out|apply below_alloc|apply pw_below_drewN|apply below_drew1)|exact HB.out))) : w.heap.size ≤ gb161));have n3_:=asd ((by rw [hg];exact (below_size (by repeat (first|(with_reducible first|exact HB.out|apply below_alloc|apply pw_below_drewN|apply below_drew1)|exact HB.out))) : w.heap.size ≤ gb161));clear HB;have HB:=n0_;have BK161:=n1_;have GW161:=n2_;have GE161:=n3_;clear n0_ n1_ n2_ n3_;clear hb hbox hg;have hcz20_0 : w19.cell? ⟨gb161,0,none⟩ = some (.int .i64 a0_0):=(blk_cell BK161.out 0).trans rfl;have hcz20_1 : w19.cell? ⟨gb161,1,none⟩ = some (.string a0_1):=(blk_cell BK161.out 1).trans rfl;have hcz20_2 : w19.cell? ⟨gb161,2,none⟩ = some (.int .i64 a0_2):=(blk_cell BK161.out 2).trans rfl;have hcz20_3 : w19.cell? ⟨gb161,3,none⟩ = some (.slice A0_3 l0_3.length c0_3):=(blk_cell BK161.out 3).trans rfl;have hcz20_4 : w19.cell? ⟨gb161,4,none⟩ = some (.int .i64 a0_4):=(blk_cell BK161.out 4).trans rfl;have hcz20_5 : w19.cell? ⟨gb161,5,none⟩ = some (.string a0_5):=(blk_cell BK161.out 5).trans rfl;have hcz20_6 : w19.cell? ⟨gb161,6,none⟩ = some (.int .i64 a0_6):=(blk_cell BK161.out 6).trans rfl;have hcz20_7 : w19.cell? ⟨gb161,7,none⟩ = some (.slice A0_7 l0_7.length c0_7):=(blk_cell BK161.out 7).trans rfl;have hcz20_8 : w19.cell? ⟨gb161,8,none⟩ = some (.string a0_8):=(blk_cell BK161.out 8).trans rfl;have hfz20_0:=blk_frozen BK161.out 0;have hfz20_1:=blk_frozen BK161.out 1;have hfz20_2:=blk_frozen BK161.out 2;have hfz20_3:=blk_frozen BK161.out 3;have hfz20_4:=blk_frozen BK161.out 4;have hfz20_5:=blk_frozen BK161.out 5;have hfz20_6:=blk_frozen BK161.out 6;have hfz20_7:=blk_frozen BK161.out 7;have hfz20_8:=blk_frozen BK161.out 8)|((with_reducible refine gate_callee (f:=86) rfl ?_);refine goesL_ (some 5) rfl rfl Tryd.func86 (by kernel_rfl) rfl #[.agg #[.int .i64 a0_0,.string a0_1,.int .i64 a0_2,.slice A0_3 l0_3.length c0_3]] rfl (by (try simp only [List.map_toArray,List.map_cons,List.map_nil]);first|done|rfl|(simp only [List.length_drop,List.length_take];rfl)) ?_;(with_reducible refine (spec_TermOk.calls k a0_0 a0_1 a0_2 _ _ l0_3 false _ ?side1 ?side2 A2.out).mono ?_);(case side1 => repeat (first|exact (Kd.C_below HR0_3.out HB.out)|(with_reducible refine Kd.C_alloc ?_ _)|(with_reducible refine Kd.C_drewN ?_ _)|(with_reducible refine Kd.C_drew ?_)));(case side2 => exact HC0_3.out);rintro e w21 ⟨rfl,hb⟩;refine ⟨_,rfl,?_⟩;have n0_:=asd (blk_below (g:=gb161) (o:=.cells #[.int .i64 a0_0,.string a0_1,.int .i64 a0_2,.slice A0_3 l0_3.length c0_3,.int .i64 a0_4,.string a0_5,.int .i64 a0_6,.slice A0_7 l0_7.length c0_7,.string a0_8] 48 (0,0)) (by (with_reducible repeat (first|refine blk_drewN ?_ _|refine blk_drew ?_|refine blk_alloc ?_ _));exact BK161.out) hb);have n1_:=asd (below_step (by repeat (first|(with_reducible first|exact HB.out|apply below_alloc|apply pw_below_drewN|apply below_drew1|refine below_set ?_ GE161.out)|exact HB.out)) hb);clear BK161;clear HB;have BK161:=n0_;have HB:=n1_;clear n0_ n1_;(try clear hb)))
  go_ret
  exact ⟨by first|rfl|(simp [errW_none,errW_some] <;> rfl)|(simp [*,errW_none,errW_some] <;> rfl),by repeat (first|(with_reducible first|exact HB.out|apply below_alloc|apply pw_below_drewN|apply below_drew1|refine below_set ?_ GE161.out)|exact HB.out)⟩
def spec_DbOk.l0 : Nat → Int → List (S48) → List ByteArray → Option (Bool)
 | 0,_,_,_ => none
 | k + 1,x3,x166000,x166001 => if x3 < (x166000.length : Int) then (if 0 ≤ x3 then ((spec_l08Clause.f k ((rd_T48 x166000 x3).f0.f0) ((rd_T48 x166000 x3).f0.f1) ((rd_T48 x166000 x3).f0.f2) ((rd_T48 x166000 x3).f0.f3) ((rd_T48 x166000 x3).f1.f0) ((rd_T48 x166000 x3).f1.f1) ((rd_T48 x166000 x3).f1.f2) ((rd_T48 x166000 x3).f1.f3) ((rd_T48 x166000 x3).f2)).bind fun t167 => (if t167 = true then (spec_DbOk.l0 k (wrap64 (x3 + 1)) x166000 x166001) else (some false))) else (none)) else (if (x166000.length : Int) ≤ 120 then (some (decide ((x166001.length : Int) ≤ 40))) else (some false))
def spec_DbOk.f (k : Nat) (l0_0 : List (S48)) (l0_1 : List ByteArray) : Option (Bool):=spec_DbOk.l0 k 0 l0_0 l0_1
theorem spec_DbOk.mono_l : ∀ k,(∀ y0 y1 y2,LeO (spec_DbOk.l0 k y0 y1 y2) (spec_DbOk.l0 (k + 1) y0 y1 y2))
 | 0 => fun _ _ _ r h => by simp [spec_DbOk.l0] at h
 | k + 1 => by
  have ih0:=spec_DbOk.mono_l k
  ·intro y0 y1 y2
   unfold spec_DbOk.l0
   repeat' first
   | (with_reducible exact ih0 _ _ _)
   | (with_reducible exact spec_l08Clause.mono _ _ _ _ _ _ _ _ _ _)
   | (with_reducible exact LeO.refl _)
   | (with_reducible exact LeO.none _)
   | (with_reducible refine LeO.ite ?_ ?_)
   | (with_reducible refine LeO.bind ?_ (fun _ => ?_))
   | exact ih0 _ _ _
   | exact spec_l08Clause.mono _ _ _ _ _ _ _ _ _ _
   | exact LeO.none _
   | refine LeO.ite ?_ ?_
   | refine LeO.bind ?_ (fun _ => ?_)
theorem spec_DbOk.mono : ∀ a0 a1 k,LeO (spec_DbOk.f k a0 a1) (spec_DbOk.f (k + 1) a0 a1):=by
 intro a0 a1 k
 have ih0:=spec_DbOk.mono_l k
 unfold spec_DbOk.f
 repeat' first
   | (with_reducible exact ih0 _ _ _)
   | (with_reducible exact spec_l08Clause.mono _ _ _ _ _ _ _ _ _ _)
   | (with_reducible exact LeO.refl _)
   | (with_reducible exact LeO.none _)
   | (with_reducible refine LeO.ite ?_ ?_)
   | (with_reducible refine LeO.bind ?_ (fun _ => ?_))
   | exact ih0 _ _ _
   | exact spec_l08Clause.mono _ _ _ _ _ _ _ _ _ _
   | exact LeO.none _
   | refine LeO.ite ?_ ?_
   | refine LeO.bind ?_ (fun _ => ?_)
set_option maxHeartbeats 8000000 in
set_option maxRecDepth 100000 in
theorem spec_DbOk.calls (k : Nat) (A0_0 : Option Addr) (c0_0 : Nat) (l0_0 : List (S48)) (A0_1 : Option Addr) (c0_1 : Nat) (l0_1 : List ByteArray) (r : Bool) (w : World) (hr0_0 : Kd.C k48 w A0_0 l0_0.length l0_0) (hc0_0 : l0_0.length ≤ c0_0) (hr0_1 : Kd.C Kd.string w A0_1 l0_1.length l0_1) (hc0_1 : l0_1.length ≤ c0_1) (h : spec_DbOk.f k l0_0 l0_1 = some r) :
  Calls Tryd.prog 20 #[.agg #[.slice A0_0 l0_0.length c0_0,.slice A0_1 l0_1.length c0_1]] w fun e w' => e = .returned (.bool r) ∧ Below w.heap.size w w':=by
 have hu41:=Tryd.underlying41
 have hu48:=Tryd.underlying48
 have HR0_0:=asd hr0_0
 have HC0_0:=asd hc0_0
 clear hr0_0 hc0_0
 have HR0_1:=asd hr0_1
 have HC0_1:=asd hc0_1
 clear hr0_1 hc0_1
 have HB:=asd (Below.refl w.heap.size w)
 have H : (spec_DbOk.l0 k 0 l0_0 l0_1) = some r:=h
 clear h
 have H':=asd H
 clear H
 go_enter Tryd.func20,Tryd.ntmps20
 go_wp2_with (first|((with_reducible refine gate_dst (N:=1) rfl ?_);(try (refine gate_guard (by rfl) ?_;dsimp only));refine box_event ?hg (N:=1) ?hd (cs:=#[.slice A0_0 l0_0.length c0_0,.slice A0_1 l0_1.length c0_1]) (t:=41) ?hr ?_;(case hd => rfl);(case hg => rfl);(case hr => first|(go_simp;done)|(go_simp;rfl));intro gb165 hg w2 hbox hb;have n0_:=asd (below_step (by repeat (first|(with_reducible first|exact HB.out|apply below_alloc|apply pw_below_drewN|apply below_drew1)|exact HB.out)) hb);have n1_:=asd (hbox);have n2_:=asd ((by rw [hg];exact (below_size (by repeat (first|(with_reducible first|exact HB.out|apply below_alloc|apply pw_below_drewN|apply below_drew1)|exact HB.out))) : w.heap.size ≤ gb165));have n3_:=asd ((by rw [hg];exact (below_size (by repeat (first|(with_reducible first|exact HB.out|apply below_alloc|apply pw_below_drewN|apply below_drew1)|exact HB.out))) : w.heap.size ≤ gb165));clear HB;have HB:=n0_;have BK165:=n1_;have GW165:=n2_;have GE165:=n3_;clear n0_ n1_ n2_ n3_;clear hb hbox hg))
 go_loopg [3] k (fun kq v3 w' => ∃ (x3_1 : Int),v3 = .int .i64 x3_1 ∧ Aside0 (spec_DbOk.l0 kq x3_1 l0_0 l0_1 = some r) ∧ Aside0 (kq ≤ k) ∧ Aside0 (w'.heap[gb165]? = some (.cells #[(.slice A0_0 l0_0.length c0_0),(.slice A0_1 l0_1.length c0_1)] 41 (0,0))) ∧ Aside0 (Below w.heap.size w w'))
 case atStart => exact ⟨(0),(by first|rfl|(simp;done)|(simp [*];done)),H',⟨Nat.le_refl _⟩,⟨by (with_reducible repeat (first|refine blk_drewN ?_ _|refine blk_drew ?_|refine blk_alloc ?_ _));exact BK165.out⟩,⟨by repeat (first|(with_reducible first|exact HB.out|apply below_alloc|apply pw_below_drewN|apply below_drew1|refine below_set ?_ GE165.out)|exact HB.out)⟩⟩
 case round =>
  clear H'
  try clear BK165
  obtain ⟨x3_1,rfl,HA,HK1,BK165,HB⟩:=hrel
  cases gk with
  | zero => exact absurd HA.out (by simp [spec_DbOk.l0])
  | succ k1 =>
   have H:=HA.out
   clear HA
   simp only [spec_DbOk.l0] at H
   by_cases c3 : x3_1 < (l0_0.length : Int)
   ·rw [if_pos c3] at H
    have c3b0 : decide (x3_1 < (l0_0.length : Int)) = true:=decide_eq_true c3
    clear c3
    by_cases c4 : 0 ≤ x3_1
    rotate_left
    ·rw [if_neg c4] at H
     exact absurd H (by simp)
    rw [if_pos c4] at H
    have c4b0 : decide (0 ≤ x3_1) = true:=decide_eq_true c4
    clear c4
    replace H:=Option.bind_eq_some_iff.mp H
    obtain ⟨t167,A50,H⟩:=H
    replace H : (if t167 = true then (spec_DbOk.l0 k1 (wrap64 (x3_1 + 1)) l0_0 l0_1) else (some false)) = some r:=H
    have A5:=asd A50
    clear A50
    by_cases c6 : t167 = true
    ·subst c6
     have H1 : (spec_DbOk.l0 k1 (wrap64 (x3_1 + 1)) l0_0 l0_1) = some r:=by rw [if_pos rfl] at H;exact H
     clear H
     have H:=H1
     clear H1
     have H':=asd H
     clear H
     have hcz7_0 : wr.cell? ⟨gb165,0,none⟩ = some (.slice A0_0 l0_0.length c0_0):=(blk_cell BK165.out 0).trans rfl
     have hcz7_1 : wr.cell? ⟨gb165,1,none⟩ = some (.slice A0_1 l0_1.length c0_1):=(blk_cell BK165.out 1).trans rfl
     have hfz7_0:=blk_frozen BK165.out 0
     have hfz7_1:=blk_frozen BK165.out 1
     have p166 : 0 ≤ (x3_1 : Int):=of_decide_eq_true (by first|(with_reducible assumption)|assumption)
     have q166 : x3_1 < (l0_0.length : Int):=of_decide_eq_true (by first|(with_reducible assumption)|assumption)
     obtain ⟨ad166,A166_3,c166_3,A166_7,c166_7,e166,hx166_0,hx166_1,hx166_2,hx166_3,hx166_4,hx166_5,hx166_6,hx166_7,hx166_8,hl166_3,hi166_3,hl166_7,hi166_7⟩:=at_T48 HR0_0.out x3_1 p166 q166
     cases e166
     replace hx166_0:=(HB.out.cell (World.block_lt_of_cell? w _ hx166_0)).trans hx166_0
     replace hx166_1:=(HB.out.cell (World.block_lt_of_cell? w _ hx166_1)).trans hx166_1
     replace hx166_2:=(HB.out.cell (World.block_lt_of_cell? w _ hx166_2)).trans hx166_2
     replace hx166_3:=(HB.out.cell (World.block_lt_of_cell? w _ hx166_3)).trans hx166_3
     replace hx166_4:=(HB.out.cell (World.block_lt_of_cell? w _ hx166_4)).trans hx166_4
     replace hx166_5:=(HB.out.cell (World.block_lt_of_cell? w _ hx166_5)).trans hx166_5
     replace hx166_6:=(HB.out.cell (World.block_lt_of_cell? w _ hx166_6)).trans hx166_6
     replace hx166_7:=(HB.out.cell (World.block_lt_of_cell? w _ hx166_7)).trans hx166_7
     replace hx166_8:=(HB.out.cell (World.block_lt_of_cell? w _ hx166_8)).trans hx166_8
     have HR166_3:=asd hi166_3
     have HC166_3:=asd hl166_3
     clear hi166_3 hl166_3
     have HR166_7:=asd hi166_7
     have HC166_7:=asd hl166_7
     clear hi166_7 hl166_7
     replace p166:=eq_true p166
     replace q166:=eq_true q166
     go_wp2_with (first|((with_reducible refine gate_callee (f:=55) rfl ?_);refine goesL_ (some 16) rfl rfl Tryd.func55 (by kernel_rfl) rfl #[.agg #[.int .i64 ((rd_T48 l0_0 x3_1).f0.f0),.string ((rd_T48 l0_0 x3_1).f0.f1),.int .i64 ((rd_T48 l0_0 x3_1).f0.f2),.slice A166_3 ((rd_T48 l0_0 x3_1).f0.f3).length c166_3,.int .i64 ((rd_T48 l0_0 x3_1).f1.f0),.string ((rd_T48 l0_0 x3_1).f1.f1),.int .i64 ((rd_T48 l0_0 x3_1).f1.f2),.slice A166_7 ((rd_T48 l0_0 x3_1).f1.f3).length c166_7,.string ((rd_T48 l0_0 x3_1).f2)]] rfl (by (try simp only [List.map_toArray,List.map_cons,List.map_nil]);first|done|rfl|(simp only [List.length_drop,List.length_take];rfl)) ?_;(with_reducible refine (spec_l08Clause.calls k1 ((rd_T48 l0_0 x3_1).f0.f0) ((rd_T48 l0_0 x3_1).f0.f1) ((rd_T48 l0_0 x3_1).f0.f2) _ _ ((rd_T48 l0_0 x3_1).f0.f3) ((rd_T48 l0_0 x3_1).f1.f0) ((rd_T48 l0_0 x3_1).f1.f1) ((rd_T48 l0_0 x3_1).f1.f2) _ _ ((rd_T48 l0_0 x3_1).f1.f3) ((rd_T48 l0_0 x3_1).f2) true _ ?side1 ?side2 ?side3 ?side4 A5.out).mono ?_);(case side1 => repeat (first|exact (Kd.C_below HR166_3.out HB.out)|(with_reducible refine Kd.C_alloc ?_ _)|(with_reducible refine Kd.C_drewN ?_ _)|(with_reducible refine Kd.C_drew ?_)));(case side2 => exact HC166_3.out);(case side3 => repeat (first|exact (Kd.C_below HR166_7.out HB.out)|(with_reducible refine Kd.C_alloc ?_ _)|(with_reducible refine Kd.C_drewN ?_ _)|(with_reducible refine Kd.C_drew ?_)));(case side4 => exact HC166_7.out);rintro e w8 ⟨rfl,hb⟩;refine ⟨_,rfl,?_⟩;have n0_:=asd (blk_below (g:=gb165) (o:=.cells #[.slice (some ad166) l0_0.length c0_0,.slice A0_1 l0_1.length c0_1] 41 (0,0)) (by (with_reducible repeat (first|refine blk_drewN ?_ _|refine blk_drew ?_|refine blk_alloc ?_ _));exact BK165.out) hb);have n1_:=asd (below_step (by repeat (first|(with_reducible first|exact HB.out|apply below_alloc|apply pw_below_drewN|apply below_drew1|refine below_set ?_ GE165.out)|exact HB.out)) hb);clear BK165;clear HB;have BK165:=n0_;have HB:=n1_;clear n0_ n1_;(try clear hb)))
     go_roundg k1
     case measure => have:=HK1.out;omega
     case rel => exact ⟨(wrap64 (x3_1 + 1)),(by first|rfl|(simp;done)|(simp [*];done)),H',⟨by have:=HK1.out;omega⟩,⟨by (with_reducible repeat (first|refine blk_drewN ?_ _|refine blk_drew ?_|refine blk_alloc ?_ _));exact BK165.out⟩,⟨by repeat (first|(with_reducible first|exact HB.out|apply below_alloc|apply pw_below_drewN|apply below_drew1|refine below_set ?_ GE165.out)|exact HB.out)⟩⟩
    ·replace c6:=Bool.eq_false_iff.mpr c6
     subst c6
     have H1 : (some false) = some r:=by rw [if_neg (show ¬ (false = true) by decide)] at H;exact H
     clear H
     have H:=H1
     clear H1
     obtain rfl:=Option.some.inj H
     have hcz9_0 : wr.cell? ⟨gb165,0,none⟩ = some (.slice A0_0 l0_0.length c0_0):=(blk_cell BK165.out 0).trans rfl
     have hcz9_1 : wr.cell? ⟨gb165,1,none⟩ = some (.slice A0_1 l0_1.length c0_1):=(blk_cell BK165.out 1).trans rfl
     have hfz9_0:=blk_frozen BK165.out 0
     have hfz9_1:=blk_frozen BK165.out 1
     have p166 : 0 ≤ (x3_1 : Int):=of_decide_eq_true (by first|(with_reducible assumption)|assumption)
     have q166 : x3_1 < (l0_0.length : Int):=of_decide_eq_true (by first|(with_reducible assumption)|assumption)
     obtain ⟨ad166,A166_3,c166_3,A166_7,c166_7,e166,hx166_0,hx166_1,hx166_2,hx166_3,hx166_4,hx166_5,hx166_6,hx166_7,hx166_8,hl166_3,hi166_3,hl166_7,hi166_7⟩:=at_T48 HR0_0.out x3_1 p166 q166
     cases e166
     replace hx166_0:=(HB.out.cell (World.block_lt_of_cell? w _ hx166_0)).trans hx166_0
     replace hx166_1:=(HB.out.cell (World.block_lt_of_cell? w _ hx166_1)).trans hx166_1
     replace hx166_2:=(HB.out.cell (World.block_lt_of_cell? w _ hx166_2)).trans hx166_2
     replace hx166_3:=(HB.out.cell (World.block_lt_of_cell? w _ hx166_3)).trans hx166_3
     replace hx166_4:=(HB.out.cell (World.block_lt_of_cell? w _ hx166_4)).trans hx166_4
     replace hx166_5:=(HB.out.cell (World.block_lt_of_cell? w _ hx166_5)).trans hx166_5
     replace hx166_6:=(HB.out.cell (World.block_lt_of_cell? w _ hx166_6)).trans hx166_6
     replace hx166_7:=(HB.out.cell (World.block_lt_of_cell? w _ hx166_7)).trans hx166_7
     replace hx166_8:=(HB.out.cell (World.block_lt_of_cell? w _ hx166_8)).trans hx166_8
     have HR166_3:=asd hi166_3
     have HC166_3:=asd hl166_3
     clear hi166_3 hl166_3
     have HR166_7:=asd hi166_7
     have HC166_7:=asd hl166_7
     clear hi166_7 hl166_7
     replace p166:=eq_true p166
     replace q166:=eq_true q166
     go_wp2_with (first|((with_reducible refine gate_callee (f:=55) rfl ?_);refine goesL_ (some 16) rfl rfl Tryd.func55 (by kernel_rfl) rfl #[.agg #[.int .i64 ((rd_T48 l0_0 x3_1).f0.f0),.string ((rd_T48 l0_0 x3_1).f0.f1),.int .i64 ((rd_T48 l0_0 x3_1).f0.f2),.slice A166_3 ((rd_T48 l0_0 x3_1).f0.f3).length c166_3,.int .i64 ((rd_T48 l0_0 x3_1).f1.f0),.string ((rd_T48 l0_0 x3_1).f1.f1),.int .i64 ((rd_T48 l0_0 x3_1).f1.f2),.slice A166_7 ((rd_T48 l0_0 x3_1).f1.f3).length c166_7,.string ((rd_T48 l0_0 x3_1).f2)]] rfl (by (try simp only [List.map_toArray,List.map_cons,List.map_nil]);first|done|rfl|(simp only [List.length_drop,List.length_take];rfl)) ?_;(with_reducible refine (spec_l08Clause.calls k1 ((rd_T48 l0_0 x3_1).f0.f0) ((rd_T48 l0_0 x3_1).f0.f1) ((rd_T48 l0_0 x3_1).f0.f2) _ _ ((rd_T48 l0_0 x3_1).f0.f3) ((rd_T48 l0_0 x3_1).f1.f0) ((rd_T48 l0_0 x3_1).f1.f1) ((rd_T48 l0_0 x3_1).f1.f2) _ _ ((rd_T48 l0_0 x3_1).f1.f3) ((rd_T48 l0_0 x3_1).f2) false _ ?side1 ?side2 ?side3 ?side4 A5.out).mono ?_);(case side1 => repeat (first|exact (Kd.C_below HR166_3.out HB.out)|(with_reducible refine Kd.C_alloc ?_ _)|(with_reducible refine Kd.C_drewN ?_ _)|(with_reducible refine Kd.C_drew ?_)));(case side2 => exact HC166_3.out);(case side3 => repeat (first|exact (Kd.C_below HR166_7.out HB.out)|(with_reducible refine Kd.C_alloc ?_ _)|(with_reducible refine Kd.C_drewN ?_ _)|(with_reducible refine Kd.C_drew ?_)));(case side4 => exact HC166_7.out);rintro e w10 ⟨rfl,hb⟩;refine ⟨_,rfl,?_⟩;have n0_:=asd (blk_below (g:=gb165) (o:=.cells #[.slice (some ad166) l0_0.length c0_0,.slice A0_1 l0_1.length c0_1] 41 (0,0)) (by (with_reducible repeat (first|refine blk_drewN ?_ _|refine blk_drew ?_|refine blk_alloc ?_ _));exact BK165.out) hb);have n1_:=asd (below_step (by repeat (first|(with_reducible first|exact HB.out|apply below_alloc|apply pw_below_drewN|apply below_drew1|refine below_set ?_ GE165.out)|exact HB.out)) hb);clear BK165;clear HB;have BK165:=n0_;have HB:=n1_;clear n0_ n1_;(try clear hb)))
     go_ret
     exact ⟨by first|rfl|(simp [errW_none,errW_some] <;> rfl)|(simp [*,errW_none,errW_some] <;> rfl),by repeat (first|(with_reducible first|exact HB.out|apply below_alloc|apply pw_below_drewN|apply below_drew1|refine below_set ?_ GE165.out)|exact HB.out)⟩
   ·rw [if_neg c3] at H
    have c3b0 : decide (x3_1 < (l0_0.length : Int)) = false:=decide_eq_false c3
    clear c3
    by_cases c11 : (l0_0.length : Int) ≤ 120
    ·rw [if_pos c11] at H
     have c11b0 : decide ((l0_0.length : Int) ≤ 120) = true:=decide_eq_true c11
     have c11b1 : decide (l0_0.length ≤ 120) = true:=decide_eq_true (by omega)
     clear c11
     obtain rfl:=Option.some.inj H
     have hcz12_0 : wr.cell? ⟨gb165,0,none⟩ = some (.slice A0_0 l0_0.length c0_0):=(blk_cell BK165.out 0).trans rfl
     have hcz12_1 : wr.cell? ⟨gb165,1,none⟩ = some (.slice A0_1 l0_1.length c0_1):=(blk_cell BK165.out 1).trans rfl
     have hfz12_0:=blk_frozen BK165.out 0
     have hfz12_1:=blk_frozen BK165.out 1
     go_wp2
     go_ret
     exact ⟨by first|rfl|(simp [errW_none,errW_some] <;> rfl)|(simp [*,errW_none,errW_some] <;> rfl),by repeat (first|(with_reducible first|exact HB.out|apply below_alloc|apply pw_below_drewN|apply below_drew1|refine below_set ?_ GE165.out)|exact HB.out)⟩
    ·rw [if_neg c11] at H
     have c11b0 : decide ((l0_0.length : Int) ≤ 120) = false:=decide_eq_false c11
     have c11b1 : decide (l0_0.length ≤ 120) = false:=decide_eq_false (by omega)
     clear c11
     obtain rfl:=Option.some.inj H
     have hcz13_0 : wr.cell? ⟨gb165,0,none⟩ = some (.slice A0_0 l0_0.length c0_0):=(blk_cell BK165.out 0).trans rfl
     have hcz13_1 : wr.cell? ⟨gb165,1,none⟩ = some (.slice A0_1 l0_1.length c0_1):=(blk_cell BK165.out 1).trans rfl
     have hfz13_0:=blk_frozen BK165.out 0
     have hfz13_1:=blk_frozen BK165.out 1
     go_wp2
     go_ret
     exact ⟨by first|rfl|(simp [errW_none,errW_some] <;> rfl)|(simp [*,errW_none,errW_some] <;> rfl),by repeat (first|(with_reducible first|exact HB.out|apply below_alloc|apply pw_below_drewN|apply below_drew1|refine below_set ?_ GE165.out)|exact HB.out)⟩
def spec_l34Terms.l0 : Nat → List (S29) → List (S29) → Int → Option ((List (S29)))
 | 0,_,_,_ => none
 | k + 1,x0,x3,x4 => if x4 < (x0.length : Int) then (if 0 ≤ x4 then ((fk_spec_l34Term.f k ((rd_T29 x0 x4).f0) ((rd_T29 x0 x4).f1) ((rd_T29 x0 x4).f2) ((rd_T29 x0 x4).f3)).bind fun bt172 => (if x3.length < 2513169434916 then (spec_l34Terms.l0 k x0 (x3 ++ [(⟨bt172.1,bt172.2.1,bt172.2.2.1,bt172.2.2.2⟩ : S29)]) (wrap64 (x4 + 1))) else (none))) else (none)) else (some x3)
def spec_l34Terms.f (k : Nat) (l0 : List (S29)) : Option ((List (S29))):=spec_l34Terms.l0 k l0 (([] : List (S29))) 0
theorem spec_l34Terms.mono_l : ∀ k,(∀ y0 y1 y2,LeO (spec_l34Terms.l0 k y0 y1 y2) (spec_l34Terms.l0 (k + 1) y0 y1 y2))
 | 0 => fun _ _ _ r h => by simp [spec_l34Terms.l0] at h
 | k + 1 => by
  have ih0:=spec_l34Terms.mono_l k
  ·intro y0 y1 y2
   unfold spec_l34Terms.l0
   repeat' first
   | (with_reducible exact ih0 _ _ _)
   | (with_reducible exact fk_spec_l34Term.mono _ _ _ _ _)
   | (with_reducible exact LeO.refl _)
   | (with_reducible exact LeO.none _)
   | (with_reducible refine LeO.ite ?_ ?_)
   | (with_reducible refine LeO.bind ?_ (fun _ => ?_))
   | exact ih0 _ _ _
   | exact fk_spec_l34Term.mono _ _ _ _ _
   | exact LeO.none _
   | refine LeO.ite ?_ ?_
   | refine LeO.bind ?_ (fun _ => ?_)
theorem spec_l34Terms.mono : ∀ a0 k,LeO (spec_l34Terms.f k a0) (spec_l34Terms.f (k + 1) a0):=by
 intro a0 k
 have ih0:=spec_l34Terms.mono_l k
 unfold spec_l34Terms.f
 repeat' first
   | (with_reducible exact ih0 _ _ _)
   | (with_reducible exact fk_spec_l34Term.mono _ _ _ _ _)
   | (with_reducible exact LeO.refl _)
   | (with_reducible exact LeO.none _)
   | (with_reducible refine LeO.ite ?_ ?_)
   | (with_reducible refine LeO.bind ?_ (fun _ => ?_))
   | exact ih0 _ _ _
   | exact fk_spec_l34Term.mono _ _ _ _ _
   | exact LeO.none _
   | refine LeO.ite ?_ ?_
   | refine LeO.bind ?_ (fun _ => ?_)
set_option maxHeartbeats 8000000 in
set_option maxRecDepth 100000 in
theorem spec_l34Terms.calls (k : Nat) (A0 : Option Addr) (c0 : Nat) (l0 : List (S29)) (r : List (S29)) (w : World) (hr0 : Kd.C k29 w A0 l0.length l0) (hc0 : l0.length ≤ c0) (h : spec_l34Terms.f k l0 = some r) :
  Calls Tryd.prog 100 #[.slice A0 l0.length c0] w fun e w' => ∃ v0_ : Value,e = .returned (v0_) ∧ Kd.R k29 29 w' w.heap.size (fun _ => True) v0_ r ∧ Below w.heap.size w w':=by
 have hu29:=Tryd.underlying29
 have HR0:=asd hr0
 have HC0:=asd hc0
 clear hr0 hc0
 have HB:=asd (Below.refl w.heap.size w)
 have H : (spec_l34Terms.l0 k l0 (([] : List (S29))) 0) = some r:=h
 clear h
 obtain ⟨y168,hy168⟩ : ∃ y_ : List (S29),y_ = (([] : List (S29))):=⟨_,rfl⟩
 replace H : (spec_l34Terms.l0 k l0 y168 0) = some r:=by first|(rw [hy168];with_reducible exact H)|(have H2_:=(Option.bind_some _ _).symm.trans H;rw [hy168];with_reducible exact H2_)|(have H2_:=(Option.bind_some _ _).symm.trans H;with_reducible exact H2_)|with_reducible exact H|(rw [hy168];exact H)|exact H
 have Ny168:=asd hy168
 clear hy168
 have H':=asd H
 clear H
 go_enter Tryd.func100,Tryd.ntmps100
 go_wp2_with (first|((with_reducible refine gate_dst (N:=5) rfl ?_);refine Kd.R_lit k29 _ 29 ?hg (N:=5) ?hd (xs:=([] : List (S29))) (inner:=[]) (ok:=fun _ => True) (okp:=fun _ => True) ?hr ?hp (fun _ hk => hk) trivial (Below.refl _ _) (Nat.le_refl _) (by simp) ?_;(case hd => rfl);(case hg => rfl);(case hr => first|(go_simp;done)|(go_simp;rfl));(case hp => exact (Reps.none _ _));intro v169 w2 ho3 hb hg_ hnew_;clear hg_ hnew_;(first|rw [← Ny168.out] at ho3|(simp only [Int.reduceToNat] at ho3;rw [← Ny168.out] at ho3));have n0_:=asd (Kd.R_lower ho3 (below_size (by repeat (first|(with_reducible first|exact HB.out|apply below_alloc|apply pw_below_drewN|apply below_drew1)|exact HB.out))));have n1_:=asd (below_step (by repeat (first|(with_reducible first|exact HB.out|apply below_alloc|apply pw_below_drewN|apply below_drew1)|exact HB.out)) hb);clear HB;have HO170:=n0_;have HB:=n1_;clear n0_ n1_;clear hb ho3))
 go_loopg [3,4] k (fun kq v3 v4 w' => ∃ (x3_1 : List (S29)) (x4_1 : Int),v4 = .int .i64 x4_1 ∧ Aside0 (spec_l34Terms.l0 kq l0 x3_1 x4_1 = some r) ∧ Aside0 (kq ≤ k) ∧ Aside0 (Kd.R k29 29 w' w.heap.size (fun _ => True) v3 x3_1) ∧ Aside0 (Below w.heap.size w w'))
 case atStart => exact ⟨(y168),(0),(by first|rfl|(simp;done)|(simp [*];done)),H',⟨Nat.le_refl _⟩,⟨by (with_reducible repeat (first|apply Kd.R_alloc|apply Kd.R_drewN|apply Kd.R_drew));exact HO170.out⟩,⟨by repeat (first|(with_reducible first|exact HB.out|apply below_alloc|apply pw_below_drewN|apply below_drew1)|exact HB.out)⟩⟩
 case round =>
  clear H'
  obtain ⟨x3_1,x4_1,rfl,HA,HK1,HO_3,HB⟩:=hrel
  cases gk with
  | zero => exact absurd HA.out (by simp [spec_l34Terms.l0])
  | succ k1 =>
   have H:=HA.out
   clear HA
   simp only [spec_l34Terms.l0] at H
   by_cases c4 : x4_1 < (l0.length : Int)
   ·rw [if_pos c4] at H
    have c4b0 : decide (x4_1 < (l0.length : Int)) = true:=decide_eq_true c4
    clear c4
    by_cases c5 : 0 ≤ x4_1
    rotate_left
    ·rw [if_neg c5] at H
     exact absurd H (by simp)
    rw [if_pos c5] at H
    have c5b0 : decide (0 ≤ x4_1) = true:=decide_eq_true c5
    clear c5
    replace H:=Option.bind_eq_some_iff.mp H
    obtain ⟨⟨t172,t173,t174,t175⟩,A60,H⟩:=H
    replace H : (if x3_1.length < 2513169434916 then (spec_l34Terms.l0 k1 l0 (x3_1 ++ [(⟨t172,t173,t174,t175⟩ : S29)]) (wrap64 (x4_1 + 1))) else (none)) = some r:=H
    have A6:=asd A60
    clear A60
    by_cases c7 : x3_1.length < 2513169434916
    rotate_left
    ·rw [if_neg c7] at H
     exact absurd H (by simp)
    rw [if_pos c7] at H
    have LMc7:=asd c7
    clear c7
    obtain ⟨y178,hy178⟩ : ∃ y_ : List (S29),y_ = (x3_1 ++ [(⟨t172,t173,t174,t175⟩ : S29)]):=⟨_,rfl⟩
    replace H : (spec_l34Terms.l0 k1 l0 y178 (wrap64 (x4_1 + 1))) = some r:=by first|(rw [hy178];with_reducible exact H)|(have H2_:=(Option.bind_some _ _).symm.trans H;rw [hy178];with_reducible exact H2_)|(have H2_:=(Option.bind_some _ _).symm.trans H;with_reducible exact H2_)|with_reducible exact H|(rw [hy178];exact H)|exact H
    have Ny178:=asd hy178
    clear hy178
    have H':=asd H
    clear H
    have p171 : 0 ≤ (x4_1 : Int):=of_decide_eq_true (by first|(with_reducible assumption)|assumption)
    have q171 : x4_1 < (l0.length : Int):=of_decide_eq_true (by first|(with_reducible assumption)|assumption)
    obtain ⟨ad171,A171_3,c171_3,e171,hx171_0,hx171_1,hx171_2,hx171_3,hl171_3,hi171_3⟩:=at_T29 HR0.out x4_1 p171 q171
    cases e171
    replace hx171_0:=(HB.out.cell (World.block_lt_of_cell? w _ hx171_0)).trans hx171_0
    replace hx171_1:=(HB.out.cell (World.block_lt_of_cell? w _ hx171_1)).trans hx171_1
    replace hx171_2:=(HB.out.cell (World.block_lt_of_cell? w _ hx171_2)).trans hx171_2
    replace hx171_3:=(HB.out.cell (World.block_lt_of_cell? w _ hx171_3)).trans hx171_3
    have HR171_3:=asd hi171_3
    have HC171_3:=asd hl171_3
    clear hi171_3 hl171_3
    replace p171:=eq_true p171
    replace q171:=eq_true q171
    go_wp2_with (first|((with_reducible refine gate_callee (f:=75) rfl ?_);refine goesL_ (some 17) rfl rfl Tryd.func75 (by kernel_rfl) rfl #[.agg #[.int .i64 ((rd_T29 l0 x4_1).f0),.string ((rd_T29 l0 x4_1).f1),.int .i64 ((rd_T29 l0 x4_1).f2),.slice A171_3 ((rd_T29 l0 x4_1).f3).length c171_3]] rfl (by (try simp only [List.map_toArray,List.map_cons,List.map_nil]);first|done|rfl|(simp only [List.length_drop,List.length_take];rfl)) ?_;(with_reducible refine (fk_spec_l34Term.calls k1 ((rd_T29 l0 x4_1).f0) ((rd_T29 l0 x4_1).f1) ((rd_T29 l0 x4_1).f2) _ _ ((rd_T29 l0 x4_1).f3) t172 t173 t174 t175 _ ?side1 ?side2 A6.out).mono ?_);(case side1 => repeat (first|exact (Kd.C_below HR171_3.out HB.out)|(with_reducible refine Kd.C_alloc ?_ _)|(with_reducible refine Kd.C_drewN ?_ _)|(with_reducible refine Kd.C_drew ?_)));(case side2 => exact HC171_3.out);rintro e w8 ⟨v176,rfl,ho0,hb⟩;refine ⟨_,rfl,?_⟩;have n0_:=asd (Kd.R_elder' (by (with_reducible repeat (first|apply Kd.R_alloc|apply Kd.R_drewN|apply Kd.R_drew));exact HO_3.out) (Kd.R_base ho0) hb);have n1_:=asd (Kd.R_lower (Kd.R_new' ho0 (Kd.R_lt (by (with_reducible repeat (first|apply Kd.R_alloc|apply Kd.R_drewN|apply Kd.R_drew));exact HO_3.out))) (below_size (by repeat (first|(with_reducible first|exact HB.out|apply below_alloc|apply pw_below_drewN|apply below_drew1)|exact HB.out))));have n2_:=asd (below_step (by repeat (first|(with_reducible first|exact HB.out|apply below_alloc|apply pw_below_drewN|apply below_drew1)|exact HB.out)) hb);clear HO_3;clear HB;have HO_3:=n0_;have HO177:=n1_;have HB:=n2_;clear n0_ n1_ n2_;(try clear hb);(try clear hb2);(try clear hk);(try clear hi);(try clear ho0);obtain ⟨Ao10,co10,eo10⟩:=Kd.R_slice HO177.out;subst eo10)|((with_reducible refine gate_builtin (b:=.append) (xs:=#[.tmp 12,.tmp 18]) rfl ?_);at_builtin;refine Kd.R_append k29 (w0:=w) w.heap.size rfl (.tmp 12) (.tmp 18) 27 29 (.agg #[(.int .i64 0),(.string ⟨#[]⟩),(.int .i64 0),(.slice none 0 0)]) 56 rfl Tryd.underlying27 info29 rfl (by decide) (by omega) u3 x3_1 (⟨t172,t173,t174,t175⟩ : S29) [.int .i64 t172,.string t173,.int .i64 t174,.slice Ao10 t175.length co10] (fun _ => True) (fun k_ => ((fun _ => True)) k_ ∧ some k_ ≠ (u3 : Value).ownBlock) rfl rfl ?aP (fun _ hk => hk) ?aF ?aO ?aB ?aS ?aL ?_;(case aP => exact k29_mkM _ _ _ (⟨t172,t173,t174,t175⟩ : S29) (Kd.R_mono (HO177.out) (fun k_ hk => ⟨trivial,hk.2⟩)));(case aB => exact (by repeat (first|(with_reducible first|exact HB.out|apply below_alloc|apply pw_below_drewN|apply below_drew1)|exact HB.out)));(case aF => exact (fun _ _ => trivial));(case aO => exact (by (with_reducible repeat (first|apply Kd.R_alloc|apply Kd.R_drewN|apply Kd.R_drew));exact Kd.R_mono HO_3.out (fun _ hk => trivial)));(case aS => exact (below_size (by repeat (first|(with_reducible first|exact HB.out|apply below_alloc|apply pw_below_drewN|apply below_drew1)|exact HB.out))));(case aL => have:=LMc7.out;omega);intro v179 w9 ho hb hg hat;rw [← Ny178.out] at ho;have n0_:=asd (hb);have n1_:=asd (ho);clear HB;clear HO_3;clear HO177;have HB:=n0_;have HO180:=n1_;clear n0_ n1_;clear ho hb hg hat))
    go_roundg k1
    case measure => have:=HK1.out;omega
    case rel => exact ⟨(y178),(wrap64 (x4_1 + 1)),(by first|rfl|(simp;done)|(simp [*];done)),H',⟨by have:=HK1.out;omega⟩,⟨by (with_reducible repeat (first|apply Kd.R_alloc|apply Kd.R_drewN|apply Kd.R_drew));exact HO180.out⟩,⟨by repeat (first|(with_reducible first|exact HB.out|apply below_alloc|apply pw_below_drewN|apply below_drew1)|exact HB.out)⟩⟩
   ·rw [if_neg c4] at H
    have c4b0 : decide (x4_1 < (l0.length : Int)) = false:=decide_eq_false c4
    clear c4
    obtain rfl:=Option.some.inj H
    go_wp2
    go_ret
    exact ⟨_,by first|rfl|(simp [errW_none,errW_some] <;> rfl)|(simp [*,errW_none,errW_some] <;> rfl),by (with_reducible repeat (first|apply Kd.R_alloc|apply Kd.R_drewN|apply Kd.R_drew));exact HO_3.out,by repeat (first|(with_reducible first|exact HB.out|apply below_alloc|apply pw_below_drewN|apply below_drew1)|exact HB.out)⟩
end Go.Proofs.YtojedbogbodkiaaDoor.KAd
