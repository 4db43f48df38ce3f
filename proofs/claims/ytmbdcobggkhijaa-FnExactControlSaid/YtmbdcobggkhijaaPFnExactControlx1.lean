-- PRINTED BY print.sh 35421559b90ae4d0a3588c463048766b98c2df88dd9212a6774a882060cdf62d: not written by this session
import Derived.Test.YtmbdcobggkhijaaPFnExactControlx0
namespace Go.Proofs.Ytmbdcobggkhijaa.PFnExactControl
open Go.RowKit Go.Proofs.YtmbdcobggkhijaaW.PrintWords Go.Proofs.YtmbdcobggkhijaaW.PrintLast Go.Proofs.YtmbdcobggkhijaaW.PrintMore
attribute [local go_sem] max2_int min2_int max_two min_two max_three min_three max_four min_four   -- for this text's walks alone
set_option linter.unusedVariables false
set_option linter.unusedSimpArgs false

/-! ### spec_Control: function 17 -/
def spec_Control.j0 : Nat → ByteArray → Bool → Option (Bool)
  | 0, _, _ => none
  | k + 1, x3, x4 => if x4 = true then (some true) else (if x3.toList = ([61, 47, 50] : List UInt8) then (some true) else (if x3.toList = ([92, 61, 47, 50] : List UInt8) then (some true) else (if x3.toList = ([61, 61, 47, 50] : List UInt8) then (some true) else (if x3.toList = ([105, 115, 47, 50] : List UInt8) then (some true) else (if x3.toList = ([60, 47, 50] : List UInt8) then (some true) else (if x3.toList = ([61, 58, 61, 47, 50] : List UInt8) then (some true) else (if x3.toList = ([118, 97, 114, 47, 49] : List UInt8) then (some true) else (if x3.toList = ([97, 116, 111, 109, 47, 49] : List UInt8) then (some true) else (if x3.toList = ([119, 114, 105, 116, 101, 47, 49] : List UInt8) then (some true) else (if x3.toList = ([97, 115, 115, 101, 114, 116, 122, 47, 49] : List UInt8) then (some true) else (if x3.toList = ([114, 101, 116, 114, 97, 99, 116, 47, 49] : List UInt8) then (some true) else (if x3.toList = ([58, 45, 47, 50] : List UInt8) then (some true) else (if x3.toList = ([58, 45, 47, 49] : List UInt8) then (some true) else (if x3.toList = ([45, 45, 62, 47, 50] : List UInt8) then (some true) else (some false)))))))))))))))
def spec_Control.f (k : Nat) (a0 : ByteArray) : Option (Bool) := if a0.toList = ([116, 114, 117, 101, 47, 48] : List UInt8) then (spec_Control.j0 k a0 (a0.toList == ([116, 114, 117, 101, 47, 48] : List UInt8))) else (if a0.toList = ([102, 97, 105, 108, 47, 48] : List UInt8) then (spec_Control.j0 k a0 (a0.toList == ([102, 97, 105, 108, 47, 48] : List UInt8))) else (if a0.toList = ([33, 47, 48] : List UInt8) then (spec_Control.j0 k a0 (a0.toList == ([33, 47, 48] : List UInt8))) else (if a0.toList = ([44, 47, 50] : List UInt8) then (spec_Control.j0 k a0 (a0.toList == ([44, 47, 50] : List UInt8))) else (if a0.toList = ([59, 47, 50] : List UInt8) then (spec_Control.j0 k a0 (a0.toList == ([59, 47, 50] : List UInt8))) else (if a0.toList = ([45, 62, 47, 50] : List UInt8) then (spec_Control.j0 k a0 (a0.toList == ([45, 62, 47, 50] : List UInt8))) else (if a0.toList = ([92, 43, 47, 49] : List UInt8) then (spec_Control.j0 k a0 (a0.toList == ([92, 43, 47, 49] : List UInt8))) else (if a0.toList = ([99, 97, 108, 108, 47, 49] : List UInt8) then (spec_Control.j0 k a0 (a0.toList == ([99, 97, 108, 108, 47, 49] : List UInt8))) else (if a0.toList = ([99, 97, 108, 108, 47, 50] : List UInt8) then (spec_Control.j0 k a0 (a0.toList == ([99, 97, 108, 108, 47, 50] : List UInt8))) else (if a0.toList = ([99, 97, 108, 108, 47, 51] : List UInt8) then (spec_Control.j0 k a0 (a0.toList == ([99, 97, 108, 108, 47, 51] : List UInt8))) else (if a0.toList = ([99, 97, 116, 99, 104, 47, 51] : List UInt8) then (spec_Control.j0 k a0 (a0.toList == ([99, 97, 116, 99, 104, 47, 51] : List UInt8))) else (spec_Control.j0 k a0 (a0.toList == ([116, 104, 114, 111, 119, 47, 49] : List UInt8)))))))))))))
theorem spec_Control.mono_l : ∀ k, (∀ y0 y1, LeO (spec_Control.j0 k y0 y1) (spec_Control.j0 (k + 1) y0 y1))
  | 0 => fun _ _ r h => by simp [spec_Control.j0] at h
  | k + 1 => by
    have ih0 := spec_Control.mono_l k
    · intro y0 y1
      unfold spec_Control.j0
      repeat' first
      | (with_reducible exact ih0 _ _)
      | (with_reducible exact LeO.refl _)
      | (with_reducible exact LeO.none _)
      | (with_reducible refine LeO.ite ?_ ?_)
      | (with_reducible refine LeO.bind ?_ (fun _ => ?_))
      | exact ih0 _ _
      | exact LeO.none _
      | refine LeO.ite ?_ ?_
      | refine LeO.bind ?_ (fun _ => ?_)
theorem spec_Control.mono : ∀ a0 k, LeO (spec_Control.f k a0) (spec_Control.f (k + 1) a0) := by
  intro a0 k
  have ih0 := spec_Control.mono_l k
  unfold spec_Control.f
  repeat' first
      | (with_reducible exact ih0 _ _)
      | (with_reducible exact LeO.refl _)
      | (with_reducible exact LeO.none _)
      | (with_reducible refine LeO.ite ?_ ?_)
      | (with_reducible refine LeO.bind ?_ (fun _ => ?_))
      | exact ih0 _ _
      | exact LeO.none _
      | refine LeO.ite ?_ ?_
      | refine LeO.bind ?_ (fun _ => ?_)
set_option maxHeartbeats 8000000 in
set_option maxRecDepth 100000 in
theorem spec_Control.calls (k : Nat) (a0 : ByteArray) (r : Bool) (w : World) (h : spec_Control.f k a0 = some r) :
    Calls Try.prog 17 #[.string a0] w fun e w' => e = .returned (.bool r) ∧ Drawn0 w w' := by
  have H : (if a0.toList = ([116, 114, 117, 101, 47, 48] : List UInt8) then (spec_Control.j0 k a0 (a0.toList == ([116, 114, 117, 101, 47, 48] : List UInt8))) else (if a0.toList = ([102, 97, 105, 108, 47, 48] : List UInt8) then (spec_Control.j0 k a0 (a0.toList == ([102, 97, 105, 108, 47, 48] : List UInt8))) else (if a0.toList = ([33, 47, 48] : List UInt8) then (spec_Control.j0 k a0 (a0.toList == ([33, 47, 48] : List UInt8))) else (if a0.toList = ([44, 47, 50] : List UInt8) then (spec_Control.j0 k a0 (a0.toList == ([44, 47, 50] : List UInt8))) else (if a0.toList = ([59, 47, 50] : List UInt8) then (spec_Control.j0 k a0 (a0.toList == ([59, 47, 50] : List UInt8))) else (if a0.toList = ([45, 62, 47, 50] : List UInt8) then (spec_Control.j0 k a0 (a0.toList == ([45, 62, 47, 50] : List UInt8))) else (if a0.toList = ([92, 43, 47, 49] : List UInt8) then (spec_Control.j0 k a0 (a0.toList == ([92, 43, 47, 49] : List UInt8))) else (if a0.toList = ([99, 97, 108, 108, 47, 49] : List UInt8) then (spec_Control.j0 k a0 (a0.toList == ([99, 97, 108, 108, 47, 49] : List UInt8))) else (if a0.toList = ([99, 97, 108, 108, 47, 50] : List UInt8) then (spec_Control.j0 k a0 (a0.toList == ([99, 97, 108, 108, 47, 50] : List UInt8))) else (if a0.toList = ([99, 97, 108, 108, 47, 51] : List UInt8) then (spec_Control.j0 k a0 (a0.toList == ([99, 97, 108, 108, 47, 51] : List UInt8))) else (if a0.toList = ([99, 97, 116, 99, 104, 47, 51] : List UInt8) then (spec_Control.j0 k a0 (a0.toList == ([99, 97, 116, 99, 104, 47, 51] : List UInt8))) else (spec_Control.j0 k a0 (a0.toList == ([116, 104, 114, 111, 119, 47, 49] : List UInt8)))))))))))))) = some r := h
  clear h
  have HC2 := Aside0.mk H
  clear H
  go_enter Try.func17, Try.ntmps17
  go_upto_if 4 with (fail)
  go_cut [4] (fun v4 wc => ∃ (kq : Nat) (x4_1 : Bool), v4 = .bool x4_1 ∧ Aside0 (spec_Control.j0 kq a0 x4_1 = some r) ∧ Aside0 (kq ≤ k) ∧ Drawn0 w wc)
  case first =>
    have H := HC2.out
    clear HC2
    by_cases c3 : a0.toList = ([116, 114, 117, 101, 47, 48] : List UInt8)
    · rw [if_pos c3] at H
      have c3b0 : (a0.toList == ([116, 114, 117, 101, 47, 48] : List UInt8)) = true := beq_iff_eq.mpr c3
      have c3b1 : (a0.toList != ([116, 114, 117, 101, 47, 48] : List UInt8)) = false := bne_eq_false_iff_eq.mpr c3
      clear c3
      (first | rw [c3b0] | (simp only [i64_w, i32_w]; rw [c3b0]) | skip)
      have H' := Aside0.mk H
      clear H
      go_wp2
      go_meet
      case rel => exact ⟨_, ((a0.toList == ([116, 114, 117, 101, 47, 48] : List UInt8))), (by first | rfl | (simp; done) | (simp [*]; done)), H', ⟨by first | omega | exact Nat.le_refl _⟩, by repeat (first | exact Drawn0.refl _ | apply Drawn0.step)⟩
    · rw [if_neg c3] at H
      have c3b0 : (a0.toList == ([116, 114, 117, 101, 47, 48] : List UInt8)) = false := beq_eq_false_iff_ne.mpr c3
      have c3b1 : (a0.toList != ([116, 114, 117, 101, 47, 48] : List UInt8)) = true := bne_iff_ne.mpr c3
      (first | rw [c3b0] | (simp only [i64_w, i32_w]; rw [c3b0]) | skip)
      by_cases c4 : a0.toList = ([102, 97, 105, 108, 47, 48] : List UInt8)
      · rw [if_pos c4] at H
        have c4b0 : (a0.toList == ([102, 97, 105, 108, 47, 48] : List UInt8)) = true := beq_iff_eq.mpr c4
        have c4b1 : (a0.toList != ([102, 97, 105, 108, 47, 48] : List UInt8)) = false := bne_eq_false_iff_eq.mpr c4
        clear c4
        have H' := Aside0.mk H
        clear H
        go_wp2
        go_meet
        case rel => exact ⟨_, ((a0.toList == ([102, 97, 105, 108, 47, 48] : List UInt8))), (by first | rfl | (simp; done) | (simp [*]; done)), H', ⟨by first | omega | exact Nat.le_refl _⟩, by repeat (first | exact Drawn0.refl _ | apply Drawn0.step)⟩
      · rw [if_neg c4] at H
        have c4b0 : (a0.toList == ([102, 97, 105, 108, 47, 48] : List UInt8)) = false := beq_eq_false_iff_ne.mpr c4
        have c4b1 : (a0.toList != ([102, 97, 105, 108, 47, 48] : List UInt8)) = true := bne_iff_ne.mpr c4
        by_cases c5 : a0.toList = ([33, 47, 48] : List UInt8)
        · rw [if_pos c5] at H
          have c5b0 : (a0.toList == ([33, 47, 48] : List UInt8)) = true := beq_iff_eq.mpr c5
          have c5b1 : (a0.toList != ([33, 47, 48] : List UInt8)) = false := bne_eq_false_iff_eq.mpr c5
          clear c5
          have H' := Aside0.mk H
          clear H
          go_wp2
          go_meet
          case rel => exact ⟨_, ((a0.toList == ([33, 47, 48] : List UInt8))), (by first | rfl | (simp; done) | (simp [*]; done)), H', ⟨by first | omega | exact Nat.le_refl _⟩, by repeat (first | exact Drawn0.refl _ | apply Drawn0.step)⟩
        · rw [if_neg c5] at H
          have c5b0 : (a0.toList == ([33, 47, 48] : List UInt8)) = false := beq_eq_false_iff_ne.mpr c5
          have c5b1 : (a0.toList != ([33, 47, 48] : List UInt8)) = true := bne_iff_ne.mpr c5
          by_cases c6 : a0.toList = ([44, 47, 50] : List UInt8)
          · rw [if_pos c6] at H
            have c6b0 : (a0.toList == ([44, 47, 50] : List UInt8)) = true := beq_iff_eq.mpr c6
            have c6b1 : (a0.toList != ([44, 47, 50] : List UInt8)) = false := bne_eq_false_iff_eq.mpr c6
            clear c6
            have H' := Aside0.mk H
            clear H
            go_wp2
            go_meet
            case rel => exact ⟨_, ((a0.toList == ([44, 47, 50] : List UInt8))), (by first | rfl | (simp; done) | (simp [*]; done)), H', ⟨by first | omega | exact Nat.le_refl _⟩, by repeat (first | exact Drawn0.refl _ | apply Drawn0.step)⟩
          · rw [if_neg c6] at H
            have c6b0 : (a0.toList == ([44, 47, 50] : List UInt8)) = false := beq_eq_false_iff_ne.mpr c6
            have c6b1 : (a0.toList != ([44, 47, 50] : List UInt8)) = true := bne_iff_ne.mpr c6
            by_cases c7 : a0.toList = ([59, 47, 50] : List UInt8)
            · rw [if_pos c7] at H
              have c7b0 : (a0.toList == ([59, 47, 50] : List UInt8)) = true := beq_iff_eq.mpr c7
              have c7b1 : (a0.toList != ([59, 47, 50] : List UInt8)) = false := bne_eq_false_iff_eq.mpr c7
              clear c7
              have H' := Aside0.mk H
              clear H
              go_wp2
              go_meet
              case rel => exact ⟨_, ((a0.toList == ([59, 47, 50] : List UInt8))), (by first | rfl | (simp; done) | (simp [*]; done)), H', ⟨by first | omega | exact Nat.le_refl _⟩, by repeat (first | exact Drawn0.refl _ | apply Drawn0.step)⟩
            · rw [if_neg c7] at H
              have c7b0 : (a0.toList == ([59, 47, 50] : List UInt8)) = false := beq_eq_false_iff_ne.mpr c7
              have c7b1 : (a0.toList != ([59, 47, 50] : List UInt8)) = true := bne_iff_ne.mpr c7
              by_cases c8 : a0.toList = ([45, 62, 47, 50] : List UInt8)
              · rw [if_pos c8] at H
                have c8b0 : (a0.toList == ([45, 62, 47, 50] : List UInt8)) = true := beq_iff_eq.mpr c8
                have c8b1 : (a0.toList != ([45, 62, 47, 50] : List UInt8)) = false := bne_eq_false_iff_eq.mpr c8
                clear c8
                have H' := Aside0.mk H
                clear H
                go_wp2
                go_meet
                case rel => exact ⟨_, ((a0.toList == ([45, 62, 47, 50] : List UInt8))), (by first | rfl | (simp; done) | (simp [*]; done)), H', ⟨by first | omega | exact Nat.le_refl _⟩, by repeat (first | exact Drawn0.refl _ | apply Drawn0.step)⟩
              · rw [if_neg c8] at H
                have c8b0 : (a0.toList == ([45, 62, 47, 50] : List UInt8)) = false := beq_eq_false_iff_ne.mpr c8
                have c8b1 : (a0.toList != ([45, 62, 47, 50] : List UInt8)) = true := bne_iff_ne.mpr c8
                by_cases c9 : a0.toList = ([92, 43, 47, 49] : List UInt8)
                · rw [if_pos c9] at H
                  have c9b0 : (a0.toList == ([92, 43, 47, 49] : List UInt8)) = true := beq_iff_eq.mpr c9
                  have c9b1 : (a0.toList != ([92, 43, 47, 49] : List UInt8)) = false := bne_eq_false_iff_eq.mpr c9
                  clear c9
                  have H' := Aside0.mk H
                  clear H
                  go_wp2
                  go_meet
                  case rel => exact ⟨_, ((a0.toList == ([92, 43, 47, 49] : List UInt8))), (by first | rfl | (simp; done) | (simp [*]; done)), H', ⟨by first | omega | exact Nat.le_refl _⟩, by repeat (first | exact Drawn0.refl _ | apply Drawn0.step)⟩
                · rw [if_neg c9] at H
                  have c9b0 : (a0.toList == ([92, 43, 47, 49] : List UInt8)) = false := beq_eq_false_iff_ne.mpr c9
                  have c9b1 : (a0.toList != ([92, 43, 47, 49] : List UInt8)) = true := bne_iff_ne.mpr c9
                  by_cases c10 : a0.toList = ([99, 97, 108, 108, 47, 49] : List UInt8)
                  · rw [if_pos c10] at H
                    have c10b0 : (a0.toList == ([99, 97, 108, 108, 47, 49] : List UInt8)) = true := beq_iff_eq.mpr c10
                    have c10b1 : (a0.toList != ([99, 97, 108, 108, 47, 49] : List UInt8)) = false := bne_eq_false_iff_eq.mpr c10
                    clear c10
                    have H' := Aside0.mk H
                    clear H
                    go_wp2
                    go_meet
                    case rel => exact ⟨_, ((a0.toList == ([99, 97, 108, 108, 47, 49] : List UInt8))), (by first | rfl | (simp; done) | (simp [*]; done)), H', ⟨by first | omega | exact Nat.le_refl _⟩, by repeat (first | exact Drawn0.refl _ | apply Drawn0.step)⟩
                  · rw [if_neg c10] at H
                    have c10b0 : (a0.toList == ([99, 97, 108, 108, 47, 49] : List UInt8)) = false := beq_eq_false_iff_ne.mpr c10
                    have c10b1 : (a0.toList != ([99, 97, 108, 108, 47, 49] : List UInt8)) = true := bne_iff_ne.mpr c10
                    by_cases c11 : a0.toList = ([99, 97, 108, 108, 47, 50] : List UInt8)
                    · rw [if_pos c11] at H
                      have c11b0 : (a0.toList == ([99, 97, 108, 108, 47, 50] : List UInt8)) = true := beq_iff_eq.mpr c11
                      have c11b1 : (a0.toList != ([99, 97, 108, 108, 47, 50] : List UInt8)) = false := bne_eq_false_iff_eq.mpr c11
                      clear c11
                      have H' := Aside0.mk H
                      clear H
                      go_wp2
                      go_meet
                      case rel => exact ⟨_, ((a0.toList == ([99, 97, 108, 108, 47, 50] : List UInt8))), (by first | rfl | (simp; done) | (simp [*]; done)), H', ⟨by first | omega | exact Nat.le_refl _⟩, by repeat (first | exact Drawn0.refl _ | apply Drawn0.step)⟩
                    · rw [if_neg c11] at H
                      have c11b0 : (a0.toList == ([99, 97, 108, 108, 47, 50] : List UInt8)) = false := beq_eq_false_iff_ne.mpr c11
                      have c11b1 : (a0.toList != ([99, 97, 108, 108, 47, 50] : List UInt8)) = true := bne_iff_ne.mpr c11
                      by_cases c12 : a0.toList = ([99, 97, 108, 108, 47, 51] : List UInt8)
                      · rw [if_pos c12] at H
                        have c12b0 : (a0.toList == ([99, 97, 108, 108, 47, 51] : List UInt8)) = true := beq_iff_eq.mpr c12
                        have c12b1 : (a0.toList != ([99, 97, 108, 108, 47, 51] : List UInt8)) = false := bne_eq_false_iff_eq.mpr c12
                        clear c12
                        have H' := Aside0.mk H
                        clear H
                        go_wp2
                        go_meet
                        case rel => exact ⟨_, ((a0.toList == ([99, 97, 108, 108, 47, 51] : List UInt8))), (by first | rfl | (simp; done) | (simp [*]; done)), H', ⟨by first | omega | exact Nat.le_refl _⟩, by repeat (first | exact Drawn0.refl _ | apply Drawn0.step)⟩
                      · rw [if_neg c12] at H
                        have c12b0 : (a0.toList == ([99, 97, 108, 108, 47, 51] : List UInt8)) = false := beq_eq_false_iff_ne.mpr c12
                        have c12b1 : (a0.toList != ([99, 97, 108, 108, 47, 51] : List UInt8)) = true := bne_iff_ne.mpr c12
                        by_cases c13 : a0.toList = ([99, 97, 116, 99, 104, 47, 51] : List UInt8)
                        · rw [if_pos c13] at H
                          have c13b0 : (a0.toList == ([99, 97, 116, 99, 104, 47, 51] : List UInt8)) = true := beq_iff_eq.mpr c13
                          have c13b1 : (a0.toList != ([99, 97, 116, 99, 104, 47, 51] : List UInt8)) = false := bne_eq_false_iff_eq.mpr c13
                          clear c13
                          have H' := Aside0.mk H
                          clear H
                          go_wp2
                          go_meet
                          case rel => exact ⟨_, ((a0.toList == ([99, 97, 116, 99, 104, 47, 51] : List UInt8))), (by first | rfl | (simp; done) | (simp [*]; done)), H', ⟨by first | omega | exact Nat.le_refl _⟩, by repeat (first | exact Drawn0.refl _ | apply Drawn0.step)⟩
                        · rw [if_neg c13] at H
                          have c13b0 : (a0.toList == ([99, 97, 116, 99, 104, 47, 51] : List UInt8)) = false := beq_eq_false_iff_ne.mpr c13
                          have c13b1 : (a0.toList != ([99, 97, 116, 99, 104, 47, 51] : List UInt8)) = true := bne_iff_ne.mpr c13
                          have H' := Aside0.mk H
                          clear H
                          go_wp2
                          go_meet
                          case rel => exact ⟨_, ((a0.toList == ([116, 104, 114, 111, 119, 47, 49] : List UInt8))), (by first | rfl | (simp; done) | (simp [*]; done)), H', ⟨by first | omega | exact Nat.le_refl _⟩, by repeat (first | exact Drawn0.refl _ | apply Drawn0.step)⟩
  case rest =>
    clear HC2
    try clear c1
    try clear p2
    try clear c3
    try clear c3b0
    try clear c3b1
    try clear c4
    try clear c4b0
    try clear c4b1
    try clear c5
    try clear c5b0
    try clear c5b1
    try clear c6
    try clear c6b0
    try clear c6b1
    try clear c7
    try clear c7b0
    try clear c7b1
    try clear c8
    try clear c8b0
    try clear c8b1
    try clear c9
    try clear c9b0
    try clear c9b1
    try clear c10
    try clear c10b0
    try clear c10b1
    try clear c11
    try clear c11b0
    try clear c11b1
    try clear c12
    try clear c12b0
    try clear c12b1
    try clear c13
    try clear c13b0
    try clear c13b1
    obtain ⟨kq, x4_1, rfl, HA, HJ1, ⟨mc1, rfl⟩⟩ := hcut
    cases kq with
    | zero => exact absurd HA.out (by simp [spec_Control.j0])
    | succ kj1 =>
      have H := HA.out
      clear HA
      simp only [spec_Control.j0] at H
      by_cases c14 : x4_1 = true
      · subst c14
        have H1 : (some true) = some r := by rw [if_pos rfl] at H; exact H
        clear H
        have H := H1
        clear H1
        obtain rfl := Option.some.inj H
        go_wp2
        go_ret
        exact ⟨by first | rfl | (simp; done) | (simp [*]; done), by repeat (first | exact Drawn0.refl _ | apply Drawn0.step)⟩
      · replace c14 := Bool.eq_false_iff.mpr c14
        subst c14
        have H1 : (if a0.toList = ([61, 47, 50] : List UInt8) then (some true) else (if a0.toList = ([92, 61, 47, 50] : List UInt8) then (some true) else (if a0.toList = ([61, 61, 47, 50] : List UInt8) then (some true) else (if a0.toList = ([105, 115, 47, 50] : List UInt8) then (some true) else (if a0.toList = ([60, 47, 50] : List UInt8) then (some true) else (if a0.toList = ([61, 58, 61, 47, 50] : List UInt8) then (some true) else (if a0.toList = ([118, 97, 114, 47, 49] : List UInt8) then (some true) else (if a0.toList = ([97, 116, 111, 109, 47, 49] : List UInt8) then (some true) else (if a0.toList = ([119, 114, 105, 116, 101, 47, 49] : List UInt8) then (some true) else (if a0.toList = ([97, 115, 115, 101, 114, 116, 122, 47, 49] : List UInt8) then (some true) else (if a0.toList = ([114, 101, 116, 114, 97, 99, 116, 47, 49] : List UInt8) then (some true) else (if a0.toList = ([58, 45, 47, 50] : List UInt8) then (some true) else (if a0.toList = ([58, 45, 47, 49] : List UInt8) then (some true) else (if a0.toList = ([45, 45, 62, 47, 50] : List UInt8) then (some true) else (some false))))))))))))))) = some r := by rw [if_neg (show ¬ (false = true) by decide)] at H; exact H
        clear H
        have H := H1
        clear H1
        by_cases c15 : a0.toList = ([61, 47, 50] : List UInt8)
        · rw [if_pos c15] at H
          have c15b0 : (a0.toList == ([61, 47, 50] : List UInt8)) = true := beq_iff_eq.mpr c15
          have c15b1 : (a0.toList != ([61, 47, 50] : List UInt8)) = false := bne_eq_false_iff_eq.mpr c15
          clear c15
          obtain rfl := Option.some.inj H
          go_wp2
          go_ret
          exact ⟨by first | rfl | (simp; done) | (simp [*]; done), by repeat (first | exact Drawn0.refl _ | apply Drawn0.step)⟩
        · rw [if_neg c15] at H
          have c15b0 : (a0.toList == ([61, 47, 50] : List UInt8)) = false := beq_eq_false_iff_ne.mpr c15
          have c15b1 : (a0.toList != ([61, 47, 50] : List UInt8)) = true := bne_iff_ne.mpr c15
          by_cases c16 : a0.toList = ([92, 61, 47, 50] : List UInt8)
          · rw [if_pos c16] at H
            have c16b0 : (a0.toList == ([92, 61, 47, 50] : List UInt8)) = true := beq_iff_eq.mpr c16
            have c16b1 : (a0.toList != ([92, 61, 47, 50] : List UInt8)) = false := bne_eq_false_iff_eq.mpr c16
            clear c16
            obtain rfl := Option.some.inj H
            go_wp2
            go_ret
            exact ⟨by first | rfl | (simp; done) | (simp [*]; done), by repeat (first | exact Drawn0.refl _ | apply Drawn0.step)⟩
          · rw [if_neg c16] at H
            have c16b0 : (a0.toList == ([92, 61, 47, 50] : List UInt8)) = false := beq_eq_false_iff_ne.mpr c16
            have c16b1 : (a0.toList != ([92, 61, 47, 50] : List UInt8)) = true := bne_iff_ne.mpr c16
            by_cases c17 : a0.toList = ([61, 61, 47, 50] : List UInt8)
            · rw [if_pos c17] at H
              have c17b0 : (a0.toList == ([61, 61, 47, 50] : List UInt8)) = true := beq_iff_eq.mpr c17
              have c17b1 : (a0.toList != ([61, 61, 47, 50] : List UInt8)) = false := bne_eq_false_iff_eq.mpr c17
              clear c17
              obtain rfl := Option.some.inj H
              go_wp2
              go_ret
              exact ⟨by first | rfl | (simp; done) | (simp [*]; done), by repeat (first | exact Drawn0.refl _ | apply Drawn0.step)⟩
            · rw [if_neg c17] at H
              have c17b0 : (a0.toList == ([61, 61, 47, 50] : List UInt8)) = false := beq_eq_false_iff_ne.mpr c17
              have c17b1 : (a0.toList != ([61, 61, 47, 50] : List UInt8)) = true := bne_iff_ne.mpr c17
              by_cases c18 : a0.toList = ([105, 115, 47, 50] : List UInt8)
              · rw [if_pos c18] at H
                have c18b0 : (a0.toList == ([105, 115, 47, 50] : List UInt8)) = true := beq_iff_eq.mpr c18
                have c18b1 : (a0.toList != ([105, 115, 47, 50] : List UInt8)) = false := bne_eq_false_iff_eq.mpr c18
                clear c18
                obtain rfl := Option.some.inj H
                go_wp2
                go_ret
                exact ⟨by first | rfl | (simp; done) | (simp [*]; done), by repeat (first | exact Drawn0.refl _ | apply Drawn0.step)⟩
              · rw [if_neg c18] at H
                have c18b0 : (a0.toList == ([105, 115, 47, 50] : List UInt8)) = false := beq_eq_false_iff_ne.mpr c18
                have c18b1 : (a0.toList != ([105, 115, 47, 50] : List UInt8)) = true := bne_iff_ne.mpr c18
                by_cases c19 : a0.toList = ([60, 47, 50] : List UInt8)
                · rw [if_pos c19] at H
                  have c19b0 : (a0.toList == ([60, 47, 50] : List UInt8)) = true := beq_iff_eq.mpr c19
                  have c19b1 : (a0.toList != ([60, 47, 50] : List UInt8)) = false := bne_eq_false_iff_eq.mpr c19
                  clear c19
                  obtain rfl := Option.some.inj H
                  go_wp2
                  go_ret
                  exact ⟨by first | rfl | (simp; done) | (simp [*]; done), by repeat (first | exact Drawn0.refl _ | apply Drawn0.step)⟩
                · rw [if_neg c19] at H
                  have c19b0 : (a0.toList == ([60, 47, 50] : List UInt8)) = false := beq_eq_false_iff_ne.mpr c19
                  have c19b1 : (a0.toList != ([60, 47, 50] : List UInt8)) = true := bne_iff_ne.mpr c19
                  by_cases c20 : a0.toList = ([61, 58, 61, 47, 50] : List UInt8)
                  · rw [if_pos c20] at H
                    have c20b0 : (a0.toList == ([61, 58, 61, 47, 50] : List UInt8)) = true := beq_iff_eq.mpr c20
                    have c20b1 : (a0.toList != ([61, 58, 61, 47, 50] : List UInt8)) = false := bne_eq_false_iff_eq.mpr c20
                    clear c20
                    obtain rfl := Option.some.inj H
                    go_wp2
                    go_ret
                    exact ⟨by first | rfl | (simp; done) | (simp [*]; done), by repeat (first | exact Drawn0.refl _ | apply Drawn0.step)⟩
                  · rw [if_neg c20] at H
                    have c20b0 : (a0.toList == ([61, 58, 61, 47, 50] : List UInt8)) = false := beq_eq_false_iff_ne.mpr c20
                    have c20b1 : (a0.toList != ([61, 58, 61, 47, 50] : List UInt8)) = true := bne_iff_ne.mpr c20
                    by_cases c21 : a0.toList = ([118, 97, 114, 47, 49] : List UInt8)
                    · rw [if_pos c21] at H
                      have c21b0 : (a0.toList == ([118, 97, 114, 47, 49] : List UInt8)) = true := beq_iff_eq.mpr c21
                      have c21b1 : (a0.toList != ([118, 97, 114, 47, 49] : List UInt8)) = false := bne_eq_false_iff_eq.mpr c21
                      clear c21
                      obtain rfl := Option.some.inj H
                      go_wp2
                      go_ret
                      exact ⟨by first | rfl | (simp; done) | (simp [*]; done), by repeat (first | exact Drawn0.refl _ | apply Drawn0.step)⟩
                    · rw [if_neg c21] at H
                      have c21b0 : (a0.toList == ([118, 97, 114, 47, 49] : List UInt8)) = false := beq_eq_false_iff_ne.mpr c21
                      have c21b1 : (a0.toList != ([118, 97, 114, 47, 49] : List UInt8)) = true := bne_iff_ne.mpr c21
                      by_cases c22 : a0.toList = ([97, 116, 111, 109, 47, 49] : List UInt8)
                      · rw [if_pos c22] at H
                        have c22b0 : (a0.toList == ([97, 116, 111, 109, 47, 49] : List UInt8)) = true := beq_iff_eq.mpr c22
                        have c22b1 : (a0.toList != ([97, 116, 111, 109, 47, 49] : List UInt8)) = false := bne_eq_false_iff_eq.mpr c22
                        clear c22
                        obtain rfl := Option.some.inj H
                        go_wp2
                        go_ret
                        exact ⟨by first | rfl | (simp; done) | (simp [*]; done), by repeat (first | exact Drawn0.refl _ | apply Drawn0.step)⟩
                      · rw [if_neg c22] at H
                        have c22b0 : (a0.toList == ([97, 116, 111, 109, 47, 49] : List UInt8)) = false := beq_eq_false_iff_ne.mpr c22
                        have c22b1 : (a0.toList != ([97, 116, 111, 109, 47, 49] : List UInt8)) = true := bne_iff_ne.mpr c22
                        by_cases c23 : a0.toList = ([119, 114, 105, 116, 101, 47, 49] : List UInt8)
                        · rw [if_pos c23] at H
                          have c23b0 : (a0.toList == ([119, 114, 105, 116, 101, 47, 49] : List UInt8)) = true := beq_iff_eq.mpr c23
                          have c23b1 : (a0.toList != ([119, 114, 105, 116, 101, 47, 49] : List UInt8)) = false := bne_eq_false_iff_eq.mpr c23
                          clear c23
                          obtain rfl := Option.some.inj H
                          go_wp2
                          go_ret
                          exact ⟨by first | rfl | (simp; done) | (simp [*]; done), by repeat (first | exact Drawn0.refl _ | apply Drawn0.step)⟩
                        · rw [if_neg c23] at H
                          have c23b0 : (a0.toList == ([119, 114, 105, 116, 101, 47, 49] : List UInt8)) = false := beq_eq_false_iff_ne.mpr c23
                          have c23b1 : (a0.toList != ([119, 114, 105, 116, 101, 47, 49] : List UInt8)) = true := bne_iff_ne.mpr c23
                          by_cases c24 : a0.toList = ([97, 115, 115, 101, 114, 116, 122, 47, 49] : List UInt8)
                          · rw [if_pos c24] at H
                            have c24b0 : (a0.toList == ([97, 115, 115, 101, 114, 116, 122, 47, 49] : List UInt8)) = true := beq_iff_eq.mpr c24
                            have c24b1 : (a0.toList != ([97, 115, 115, 101, 114, 116, 122, 47, 49] : List UInt8)) = false := bne_eq_false_iff_eq.mpr c24
                            clear c24
                            obtain rfl := Option.some.inj H
                            go_wp2
                            go_ret
                            exact ⟨by first | rfl | (simp; done) | (simp [*]; done), by repeat (first | exact Drawn0.refl _ | apply Drawn0.step)⟩
                          · rw [if_neg c24] at H
                            have c24b0 : (a0.toList == ([97, 115, 115, 101, 114, 116, 122, 47, 49] : List UInt8)) = false := beq_eq_false_iff_ne.mpr c24
                            have c24b1 : (a0.toList != ([97, 115, 115, 101, 114, 116, 122, 47, 49] : List UInt8)) = true := bne_iff_ne.mpr c24
                            by_cases c25 : a0.toList = ([114, 101, 116, 114, 97, 99, 116, 47, 49] : List UInt8)
                            · rw [if_pos c25] at H
                              have c25b0 : (a0.toList == ([114, 101, 116, 114, 97, 99, 116, 47, 49] : List UInt8)) = true := beq_iff_eq.mpr c25
                              have c25b1 : (a0.toList != ([114, 101, 116, 114, 97, 99, 116, 47, 49] : List UInt8)) = false := bne_eq_false_iff_eq.mpr c25
                              clear c25
                              obtain rfl := Option.some.inj H
                              go_wp2
                              go_ret
                              exact ⟨by first | rfl | (simp; done) | (simp [*]; done), by repeat (first | exact Drawn0.refl _ | apply Drawn0.step)⟩
                            · rw [if_neg c25] at H
                              have c25b0 : (a0.toList == ([114, 101, 116, 114, 97, 99, 116, 47, 49] : List UInt8)) = false := beq_eq_false_iff_ne.mpr c25
                              have c25b1 : (a0.toList != ([114, 101, 116, 114, 97, 99, 116, 47, 49] : List UInt8)) = true := bne_iff_ne.mpr c25
                              by_cases c26 : a0.toList = ([58, 45, 47, 50] : List UInt8)
                              · rw [if_pos c26] at H
                                have c26b0 : (a0.toList == ([58, 45, 47, 50] : List UInt8)) = true := beq_iff_eq.mpr c26
                                have c26b1 : (a0.toList != ([58, 45, 47, 50] : List UInt8)) = false := bne_eq_false_iff_eq.mpr c26
                                clear c26
                                obtain rfl := Option.some.inj H
                                go_wp2
                                go_ret
                                exact ⟨by first | rfl | (simp; done) | (simp [*]; done), by repeat (first | exact Drawn0.refl _ | apply Drawn0.step)⟩
                              · rw [if_neg c26] at H
                                have c26b0 : (a0.toList == ([58, 45, 47, 50] : List UInt8)) = false := beq_eq_false_iff_ne.mpr c26
                                have c26b1 : (a0.toList != ([58, 45, 47, 50] : List UInt8)) = true := bne_iff_ne.mpr c26
                                by_cases c27 : a0.toList = ([58, 45, 47, 49] : List UInt8)
                                · rw [if_pos c27] at H
                                  have c27b0 : (a0.toList == ([58, 45, 47, 49] : List UInt8)) = true := beq_iff_eq.mpr c27
                                  have c27b1 : (a0.toList != ([58, 45, 47, 49] : List UInt8)) = false := bne_eq_false_iff_eq.mpr c27
                                  clear c27
                                  obtain rfl := Option.some.inj H
                                  go_wp2
                                  go_ret
                                  exact ⟨by first | rfl | (simp; done) | (simp [*]; done), by repeat (first | exact Drawn0.refl _ | apply Drawn0.step)⟩
                                · rw [if_neg c27] at H
                                  have c27b0 : (a0.toList == ([58, 45, 47, 49] : List UInt8)) = false := beq_eq_false_iff_ne.mpr c27
                                  have c27b1 : (a0.toList != ([58, 45, 47, 49] : List UInt8)) = true := bne_iff_ne.mpr c27
                                  by_cases c28 : a0.toList = ([45, 45, 62, 47, 50] : List UInt8)
                                  · rw [if_pos c28] at H
                                    have c28b0 : (a0.toList == ([45, 45, 62, 47, 50] : List UInt8)) = true := beq_iff_eq.mpr c28
                                    have c28b1 : (a0.toList != ([45, 45, 62, 47, 50] : List UInt8)) = false := bne_eq_false_iff_eq.mpr c28
                                    clear c28
                                    obtain rfl := Option.some.inj H
                                    go_wp2
                                    go_ret
                                    exact ⟨by first | rfl | (simp; done) | (simp [*]; done), by repeat (first | exact Drawn0.refl _ | apply Drawn0.step)⟩
                                  · rw [if_neg c28] at H
                                    have c28b0 : (a0.toList == ([45, 45, 62, 47, 50] : List UInt8)) = false := beq_eq_false_iff_ne.mpr c28
                                    have c28b1 : (a0.toList != ([45, 45, 62, 47, 50] : List UInt8)) = true := bne_iff_ne.mpr c28
                                    obtain rfl := Option.some.inj H
                                    go_wp2
                                    go_ret
                                    exact ⟨by first | rfl | (simp; done) | (simp [*]; done), by repeat (first | exact Drawn0.refl _ | apply Drawn0.step)⟩

/-! ### slices_Index_string_string: function 47 -/
def slices_Index_string_string.l0 : Nat → List ByteArray → ByteArray → Int → Int → Option (Int)
  | 0, _, _, _, _ => none
  | k + 1, x0, x1, x7, x8 => if x8 < x7 then (if 0 ≤ x8 then (if x8 < (x0.length : Int) then (if x1.toList = (rdOf ByteArray.empty x0 x8).toList then (some x8) else (slices_Index_string_string.l0 k x0 x1 x7 (wrap64 (x8 + 1)))) else (none)) else (none)) else (some (-1))
def slices_Index_string_string.f (k : Nat) (l0 : List ByteArray) (a1 : ByteArray) : Option (Int) := slices_Index_string_string.l0 k l0 a1 (l0.length : Int) 0
theorem slices_Index_string_string.mono_l : ∀ k, (∀ y0 y1 y2 y3, LeO (slices_Index_string_string.l0 k y0 y1 y2 y3) (slices_Index_string_string.l0 (k + 1) y0 y1 y2 y3))
  | 0 => fun _ _ _ _ r h => by simp [slices_Index_string_string.l0] at h
  | k + 1 => by
    have ih0 := slices_Index_string_string.mono_l k
    · intro y0 y1 y2 y3
      unfold slices_Index_string_string.l0
      repeat' first
      | (with_reducible exact ih0 _ _ _ _)
      | (with_reducible exact LeO.refl _)
      | (with_reducible exact LeO.none _)
      | (with_reducible refine LeO.ite ?_ ?_)
      | (with_reducible refine LeO.bind ?_ (fun _ => ?_))
      | exact ih0 _ _ _ _
      | exact LeO.none _
      | refine LeO.ite ?_ ?_
      | refine LeO.bind ?_ (fun _ => ?_)
theorem slices_Index_string_string.mono : ∀ a0 a1 k, LeO (slices_Index_string_string.f k a0 a1) (slices_Index_string_string.f (k + 1) a0 a1) := by
  intro a0 a1 k
  have ih0 := slices_Index_string_string.mono_l k
  unfold slices_Index_string_string.f
  repeat' first
      | (with_reducible exact ih0 _ _ _ _)
      | (with_reducible exact LeO.refl _)
      | (with_reducible exact LeO.none _)
      | (with_reducible refine LeO.ite ?_ ?_)
      | (with_reducible refine LeO.bind ?_ (fun _ => ?_))
      | exact ih0 _ _ _ _
      | exact LeO.none _
      | refine LeO.ite ?_ ?_
      | refine LeO.bind ?_ (fun _ => ?_)
set_option maxHeartbeats 8000000 in
set_option maxRecDepth 100000 in
theorem slices_Index_string_string.calls (k : Nat) (A0 : Option Addr) (c0 : Nat) (l0 : List ByteArray) (a1 : ByteArray) (r : Int) (w : World) (hr0 : Kd.C Kd.string w A0 l0.length l0) (hc0 : l0.length ≤ c0) (h : slices_Index_string_string.f k l0 a1 = some r) :
    Calls Try.prog 47 #[.slice A0 l0.length c0, .string a1] w fun e w' => e = .returned (.int .i64 r) ∧ Drawn0 w w' := by
  have HR0 := Aside0.mk hr0
  have HC0 := Aside0.mk hc0
  clear hr0 hc0
  have H : (slices_Index_string_string.l0 k l0 a1 (l0.length : Int) 0) = some r := h
  clear h
  have H' := Aside0.mk H
  clear H
  go_enter Try.func47, Try.ntmps47
  go_wp2
  go_loopg [8] k (fun kq v8 w' => ∃ (x8_1 : Int), v8 = .int .i64 x8_1 ∧ Aside0 (slices_Index_string_string.l0 kq l0 a1 (l0.length : Int) x8_1 = some r) ∧ Aside0 (kq ≤ k) ∧ Drawn0 w w')
  case atStart => exact ⟨(0), (by first | rfl | (simp; done) | (simp [*]; done)), H', ⟨Nat.le_refl _⟩, by repeat (first | exact Drawn0.refl _ | apply Drawn0.step)⟩
  case round =>
    clear H'
    try clear p2
    obtain ⟨x8_1, rfl, HA, HK1, ⟨m1, rfl⟩⟩ := hrel
    cases gk with
    | zero => exact absurd HA.out (by simp [slices_Index_string_string.l0])
    | succ k1 =>
      have H := HA.out
      clear HA
      simp only [slices_Index_string_string.l0] at H
      by_cases c3 : x8_1 < (l0.length : Int)
      · rw [if_pos c3] at H
        have c3b0 : decide (x8_1 < (l0.length : Int)) = true := decide_eq_true c3
        clear c3
        by_cases c4 : 0 ≤ x8_1
        · rw [if_pos c4] at H
          have c4b0 : decide (0 ≤ x8_1) = true := decide_eq_true c4
          clear c4
          by_cases c5 : x8_1 < (l0.length : Int)
          · rw [if_pos c5] at H
            have c5b0 : decide (x8_1 < (l0.length : Int)) = true := decide_eq_true c5
            clear c5
            by_cases c6 : a1.toList = (rdOf ByteArray.empty l0 x8_1).toList
            · rw [if_pos c6] at H
              have c6b0 : (a1.toList == (rdOf ByteArray.empty l0 x8_1).toList) = true := beq_iff_eq.mpr c6
              have c6b1 : (a1.toList != (rdOf ByteArray.empty l0 x8_1).toList) = false := bne_eq_false_iff_eq.mpr c6
              clear c6
              obtain rfl := Option.some.inj H
              have p101 : 0 ≤ (x8_1 : Int) := of_decide_eq_true (by first | (with_reducible assumption) | assumption)
              have q101 : x8_1 < (l0.length : Int) := of_decide_eq_true (by first | (with_reducible assumption) | assumption)
              obtain ⟨ad101, e101, hx101_0⟩ := Kd.at_string HR0.out x8_1 p101 q101
              cases e101
              replace p101 := eq_true p101
              replace q101 := eq_true q101
              go_wp2
              go_ret
              exact ⟨by first | rfl | (simp; done) | (simp [*]; done), by repeat (first | exact Drawn0.refl _ | apply Drawn0.step)⟩
            · rw [if_neg c6] at H
              have c6b0 : (a1.toList == (rdOf ByteArray.empty l0 x8_1).toList) = false := beq_eq_false_iff_ne.mpr c6
              have c6b1 : (a1.toList != (rdOf ByteArray.empty l0 x8_1).toList) = true := bne_iff_ne.mpr c6
              have H' := Aside0.mk H
              clear H
              have p101 : 0 ≤ (x8_1 : Int) := of_decide_eq_true (by first | (with_reducible assumption) | assumption)
              have q101 : x8_1 < (l0.length : Int) := of_decide_eq_true (by first | (with_reducible assumption) | assumption)
              obtain ⟨ad101, e101, hx101_0⟩ := Kd.at_string HR0.out x8_1 p101 q101
              cases e101
              replace p101 := eq_true p101
              replace q101 := eq_true q101
              go_wp2
              go_roundg k1
              case measure => have := HK1.out; omega
              case rel => exact ⟨(wrap64 (x8_1 + 1)), (by first | rfl | (simp; done) | (simp [*]; done)), H', ⟨by have := HK1.out; omega⟩, by repeat (first | exact Drawn0.refl _ | apply Drawn0.step)⟩
          · rw [if_neg c5] at H
            exact absurd H (by simp)
        · rw [if_neg c4] at H
          exact absurd H (by simp)
      · rw [if_neg c3] at H
        have c3b0 : decide (x8_1 < (l0.length : Int)) = false := decide_eq_false c3
        clear c3
        obtain rfl := Option.some.inj H
        go_wp2
        go_ret
        exact ⟨by first | rfl | (simp; done) | (simp [*]; done), by repeat (first | exact Drawn0.refl _ | apply Drawn0.step)⟩

/-! ### slices_Contains_string_string: function 39 -/
def slices_Contains_string_string.f (k : Nat) (l0 : List ByteArray) (a1 : ByteArray) : Option (Bool) := (slices_Index_string_string.f k l0 a1).bind fun t102 => (some (decide (t102 ≥ 0)))
theorem slices_Contains_string_string.mono : ∀ a0 a1 k, LeO (slices_Contains_string_string.f k a0 a1) (slices_Contains_string_string.f (k + 1) a0 a1) := by
  intro a0 a1 k
  unfold slices_Contains_string_string.f
  repeat' first
      | (with_reducible exact slices_Index_string_string.mono _ _ _)
      | (with_reducible exact LeO.refl _)
      | (with_reducible exact LeO.none _)
      | (with_reducible refine LeO.ite ?_ ?_)
      | (with_reducible refine LeO.bind ?_ (fun _ => ?_))
      | exact slices_Index_string_string.mono _ _ _
      | exact LeO.none _
      | refine LeO.ite ?_ ?_
      | refine LeO.bind ?_ (fun _ => ?_)
set_option maxHeartbeats 8000000 in
set_option maxRecDepth 100000 in
theorem slices_Contains_string_string.calls (k : Nat) (A0 : Option Addr) (c0 : Nat) (l0 : List ByteArray) (a1 : ByteArray) (r : Bool) (w : World) (hr0 : Kd.C Kd.string w A0 l0.length l0) (hc0 : l0.length ≤ c0) (h : slices_Contains_string_string.f k l0 a1 = some r) :
    Calls Try.prog 39 #[.slice A0 l0.length c0, .string a1] w fun e w' => e = .returned (.bool r) ∧ Drawn0 w w' := by
  have HR0 := Aside0.mk hr0
  have HC0 := Aside0.mk hc0
  clear hr0 hc0
  have H : ((slices_Index_string_string.f k l0 a1).bind fun t102 => (some (decide (t102 ≥ 0)))) = some r := h
  clear h
  replace H := Option.bind_eq_some_iff.mp H
  obtain ⟨t102, A30, H⟩ := H
  replace H : (some (decide (t102 ≥ 0))) = some r := H
  have A3 := Aside0.mk A30
  clear A30
  obtain rfl := Option.some.inj H
  go_enter Try.func39, Try.ntmps39
  go_wp2_with (first | ((with_reducible refine gate_callee (f := 47) rfl ?_); refine goesL_ (some 7) rfl rfl Try.func47 (by kernel_rfl) rfl #[.slice A0 l0.length c0, .string a1] rfl (by (try simp only [List.map_toArray, List.map_cons, List.map_nil]); first | done | rfl | (simp only [List.length_drop, List.length_take]; rfl)) ?_; (with_reducible refine (slices_Index_string_string.calls k _ _ l0 a1 t102 _ ?side1 ?side2 A3.out).mono ?_); (case side1 => repeat (first | exact HR0.out | (with_reducible refine Kd.C_alloc ?_ _) | (with_reducible refine Kd.C_drewN ?_ _) | (with_reducible refine Kd.C_drew ?_))); (case side2 => exact HC0.out); rintro e w' ⟨rfl, ⟨nd, rfl⟩⟩; refine ⟨_, rfl, ?_⟩))
  go_ret
  exact ⟨by first | rfl | (simp; done) | (simp [*]; done), by repeat (first | exact Drawn0.refl _ | apply Drawn0.step)⟩

/-! ### impl_Control: function 18 -/
def impl_Control.f (k : Nat) (a0 : ByteArray) : Option (Bool) := (slices_Contains_string_string.f k (([(⟨#[116, 114, 117, 101, 47, 48]⟩ : ByteArray), (⟨#[102, 97, 105, 108, 47, 48]⟩ : ByteArray), (⟨#[33, 47, 48]⟩ : ByteArray), (⟨#[44, 47, 50]⟩ : ByteArray), (⟨#[59, 47, 50]⟩ : ByteArray), (⟨#[45, 62, 47, 50]⟩ : ByteArray), (⟨#[92, 43, 47, 49]⟩ : ByteArray), (⟨#[99, 97, 108, 108, 47, 49]⟩ : ByteArray), (⟨#[99, 97, 108, 108, 47, 50]⟩ : ByteArray), (⟨#[99, 97, 108, 108, 47, 51]⟩ : ByteArray), (⟨#[99, 97, 116, 99, 104, 47, 51]⟩ : ByteArray), (⟨#[116, 104, 114, 111, 119, 47, 49]⟩ : ByteArray), (⟨#[61, 47, 50]⟩ : ByteArray), (⟨#[92, 61, 47, 50]⟩ : ByteArray), (⟨#[61, 61, 47, 50]⟩ : ByteArray), (⟨#[105, 115, 47, 50]⟩ : ByteArray), (⟨#[60, 47, 50]⟩ : ByteArray), (⟨#[61, 58, 61, 47, 50]⟩ : ByteArray), (⟨#[118, 97, 114, 47, 49]⟩ : ByteArray), (⟨#[97, 116, 111, 109, 47, 49]⟩ : ByteArray), (⟨#[119, 114, 105, 116, 101, 47, 49]⟩ : ByteArray), (⟨#[97, 115, 115, 101, 114, 116, 122, 47, 49]⟩ : ByteArray), (⟨#[114, 101, 116, 114, 97, 99, 116, 47, 49]⟩ : ByteArray), (⟨#[58, 45, 47, 50]⟩ : ByteArray), (⟨#[58, 45, 47, 49]⟩ : ByteArray), (⟨#[45, 45, 62, 47, 50]⟩ : ByteArray)] : List ByteArray)) a0).bind fun t106 => (some t106)
theorem impl_Control.mono : ∀ a0 k, LeO (impl_Control.f k a0) (impl_Control.f (k + 1) a0) := by
  intro a0 k
  unfold impl_Control.f
  repeat' first
      | (with_reducible exact slices_Contains_string_string.mono _ _ _)
      | (with_reducible exact LeO.refl _)
      | (with_reducible exact LeO.none _)
      | (with_reducible refine LeO.ite ?_ ?_)
      | (with_reducible refine LeO.bind ?_ (fun _ => ?_))
      | exact slices_Contains_string_string.mono _ _ _
      | exact LeO.none _
      | refine LeO.ite ?_ ?_
      | refine LeO.bind ?_ (fun _ => ?_)
set_option maxHeartbeats 8000000 in
set_option maxRecDepth 100000 in
theorem impl_Control.calls (k : Nat) (a0 : ByteArray) (r : Bool) (w : World) (h : impl_Control.f k a0 = some r) :
    Calls Try.prog 18 #[.string a0] w fun e w' => e = .returned (.bool r) ∧ Below w.heap.size w w' := by
  have HB := Aside0.mk (Below.refl w.heap.size w)
  have H : ((slices_Contains_string_string.f k (([(⟨#[116, 114, 117, 101, 47, 48]⟩ : ByteArray), (⟨#[102, 97, 105, 108, 47, 48]⟩ : ByteArray), (⟨#[33, 47, 48]⟩ : ByteArray), (⟨#[44, 47, 50]⟩ : ByteArray), (⟨#[59, 47, 50]⟩ : ByteArray), (⟨#[45, 62, 47, 50]⟩ : ByteArray), (⟨#[92, 43, 47, 49]⟩ : ByteArray), (⟨#[99, 97, 108, 108, 47, 49]⟩ : ByteArray), (⟨#[99, 97, 108, 108, 47, 50]⟩ : ByteArray), (⟨#[99, 97, 108, 108, 47, 51]⟩ : ByteArray), (⟨#[99, 97, 116, 99, 104, 47, 51]⟩ : ByteArray), (⟨#[116, 104, 114, 111, 119, 47, 49]⟩ : ByteArray), (⟨#[61, 47, 50]⟩ : ByteArray), (⟨#[92, 61, 47, 50]⟩ : ByteArray), (⟨#[61, 61, 47, 50]⟩ : ByteArray), (⟨#[105, 115, 47, 50]⟩ : ByteArray), (⟨#[60, 47, 50]⟩ : ByteArray), (⟨#[61, 58, 61, 47, 50]⟩ : ByteArray), (⟨#[118, 97, 114, 47, 49]⟩ : ByteArray), (⟨#[97, 116, 111, 109, 47, 49]⟩ : ByteArray), (⟨#[119, 114, 105, 116, 101, 47, 49]⟩ : ByteArray), (⟨#[97, 115, 115, 101, 114, 116, 122, 47, 49]⟩ : ByteArray), (⟨#[114, 101, 116, 114, 97, 99, 116, 47, 49]⟩ : ByteArray), (⟨#[58, 45, 47, 50]⟩ : ByteArray), (⟨#[58, 45, 47, 49]⟩ : ByteArray), (⟨#[45, 45, 62, 47, 50]⟩ : ByteArray)] : List ByteArray)) a0).bind fun t106 => (some t106)) = some r := h
  clear h
  obtain ⟨y103, hy103⟩ : ∃ y_ : List ByteArray, y_ = (([(⟨#[116, 114, 117, 101, 47, 48]⟩ : ByteArray), (⟨#[102, 97, 105, 108, 47, 48]⟩ : ByteArray), (⟨#[33, 47, 48]⟩ : ByteArray), (⟨#[44, 47, 50]⟩ : ByteArray), (⟨#[59, 47, 50]⟩ : ByteArray), (⟨#[45, 62, 47, 50]⟩ : ByteArray), (⟨#[92, 43, 47, 49]⟩ : ByteArray), (⟨#[99, 97, 108, 108, 47, 49]⟩ : ByteArray), (⟨#[99, 97, 108, 108, 47, 50]⟩ : ByteArray), (⟨#[99, 97, 108, 108, 47, 51]⟩ : ByteArray), (⟨#[99, 97, 116, 99, 104, 47, 51]⟩ : ByteArray), (⟨#[116, 104, 114, 111, 119, 47, 49]⟩ : ByteArray), (⟨#[61, 47, 50]⟩ : ByteArray), (⟨#[92, 61, 47, 50]⟩ : ByteArray), (⟨#[61, 61, 47, 50]⟩ : ByteArray), (⟨#[105, 115, 47, 50]⟩ : ByteArray), (⟨#[60, 47, 50]⟩ : ByteArray), (⟨#[61, 58, 61, 47, 50]⟩ : ByteArray), (⟨#[118, 97, 114, 47, 49]⟩ : ByteArray), (⟨#[97, 116, 111, 109, 47, 49]⟩ : ByteArray), (⟨#[119, 114, 105, 116, 101, 47, 49]⟩ : ByteArray), (⟨#[97, 115, 115, 101, 114, 116, 122, 47, 49]⟩ : ByteArray), (⟨#[114, 101, 116, 114, 97, 99, 116, 47, 49]⟩ : ByteArray), (⟨#[58, 45, 47, 50]⟩ : ByteArray), (⟨#[58, 45, 47, 49]⟩ : ByteArray), (⟨#[45, 45, 62, 47, 50]⟩ : ByteArray)] : List ByteArray)) := ⟨_, rfl⟩
  replace H : ((slices_Contains_string_string.f k y103 a0).bind fun t106 => (some t106)) = some r := by first | (rw [hy103]; with_reducible exact H) | (have H2_ := (Option.bind_some _ _).symm.trans H; rw [hy103]; with_reducible exact H2_) | (have H2_ := (Option.bind_some _ _).symm.trans H; with_reducible exact H2_) | with_reducible exact H | (rw [hy103]; exact H) | exact H
  have Ny103 := Aside0.mk hy103
  clear hy103
  replace H := Option.bind_eq_some_iff.mp H
  obtain ⟨t106, A20, H⟩ := H
  replace H : (some t106) = some r := H
  have A2 := Aside0.mk A20
  clear A20
  obtain rfl := Option.some.inj H
  go_enter Try.func18, Try.ntmps18
  go_wp2_with (first | ((with_reducible refine gate_dst (N := 4) rfl ?_); refine Kd.R_lit Kd.string _ 9 ?hg (N := 4) ?hd (xs := ([(⟨#[116, 114, 117, 101, 47, 48]⟩ : ByteArray), (⟨#[102, 97, 105, 108, 47, 48]⟩ : ByteArray), (⟨#[33, 47, 48]⟩ : ByteArray), (⟨#[44, 47, 50]⟩ : ByteArray), (⟨#[59, 47, 50]⟩ : ByteArray), (⟨#[45, 62, 47, 50]⟩ : ByteArray), (⟨#[92, 43, 47, 49]⟩ : ByteArray), (⟨#[99, 97, 108, 108, 47, 49]⟩ : ByteArray), (⟨#[99, 97, 108, 108, 47, 50]⟩ : ByteArray), (⟨#[99, 97, 108, 108, 47, 51]⟩ : ByteArray), (⟨#[99, 97, 116, 99, 104, 47, 51]⟩ : ByteArray), (⟨#[116, 104, 114, 111, 119, 47, 49]⟩ : ByteArray), (⟨#[61, 47, 50]⟩ : ByteArray), (⟨#[92, 61, 47, 50]⟩ : ByteArray), (⟨#[61, 61, 47, 50]⟩ : ByteArray), (⟨#[105, 115, 47, 50]⟩ : ByteArray), (⟨#[60, 47, 50]⟩ : ByteArray), (⟨#[61, 58, 61, 47, 50]⟩ : ByteArray), (⟨#[118, 97, 114, 47, 49]⟩ : ByteArray), (⟨#[97, 116, 111, 109, 47, 49]⟩ : ByteArray), (⟨#[119, 114, 105, 116, 101, 47, 49]⟩ : ByteArray), (⟨#[97, 115, 115, 101, 114, 116, 122, 47, 49]⟩ : ByteArray), (⟨#[114, 101, 116, 114, 97, 99, 116, 47, 49]⟩ : ByteArray), (⟨#[58, 45, 47, 50]⟩ : ByteArray), (⟨#[58, 45, 47, 49]⟩ : ByteArray), (⟨#[45, 45, 62, 47, 50]⟩ : ByteArray)] : List ByteArray)) (inner := [.string (⟨#[116, 114, 117, 101, 47, 48]⟩ : ByteArray), .string (⟨#[102, 97, 105, 108, 47, 48]⟩ : ByteArray), .string (⟨#[33, 47, 48]⟩ : ByteArray), .string (⟨#[44, 47, 50]⟩ : ByteArray), .string (⟨#[59, 47, 50]⟩ : ByteArray), .string (⟨#[45, 62, 47, 50]⟩ : ByteArray), .string (⟨#[92, 43, 47, 49]⟩ : ByteArray), .string (⟨#[99, 97, 108, 108, 47, 49]⟩ : ByteArray), .string (⟨#[99, 97, 108, 108, 47, 50]⟩ : ByteArray), .string (⟨#[99, 97, 108, 108, 47, 51]⟩ : ByteArray), .string (⟨#[99, 97, 116, 99, 104, 47, 51]⟩ : ByteArray), .string (⟨#[116, 104, 114, 111, 119, 47, 49]⟩ : ByteArray), .string (⟨#[61, 47, 50]⟩ : ByteArray), .string (⟨#[92, 61, 47, 50]⟩ : ByteArray), .string (⟨#[61, 61, 47, 50]⟩ : ByteArray), .string (⟨#[105, 115, 47, 50]⟩ : ByteArray), .string (⟨#[60, 47, 50]⟩ : ByteArray), .string (⟨#[61, 58, 61, 47, 50]⟩ : ByteArray), .string (⟨#[118, 97, 114, 47, 49]⟩ : ByteArray), .string (⟨#[97, 116, 111, 109, 47, 49]⟩ : ByteArray), .string (⟨#[119, 114, 105, 116, 101, 47, 49]⟩ : ByteArray), .string (⟨#[97, 115, 115, 101, 114, 116, 122, 47, 49]⟩ : ByteArray), .string (⟨#[114, 101, 116, 114, 97, 99, 116, 47, 49]⟩ : ByteArray), .string (⟨#[58, 45, 47, 50]⟩ : ByteArray), .string (⟨#[58, 45, 47, 49]⟩ : ByteArray), .string (⟨#[45, 45, 62, 47, 50]⟩ : ByteArray)]) (ok := fun _ => True) (okp := fun _ => True) ?hr ?hp (fun _ hk => hk) trivial (Below.refl _ _) (Nat.le_refl _) (by simp) ?_; (case hd => rfl); (case hg => rfl); (case hr => first | (go_simp; done) | (go_simp; rfl)); (case hp => exact (Reps.one (show Kd.M Kd.string _ _ _ (⟨#[116, 114, 117, 101, 47, 48]⟩ : ByteArray) [.string (⟨#[116, 114, 117, 101, 47, 48]⟩ : ByteArray)] from rfl) (Reps.one (show Kd.M Kd.string _ _ _ (⟨#[102, 97, 105, 108, 47, 48]⟩ : ByteArray) [.string (⟨#[102, 97, 105, 108, 47, 48]⟩ : ByteArray)] from rfl) (Reps.one (show Kd.M Kd.string _ _ _ (⟨#[33, 47, 48]⟩ : ByteArray) [.string (⟨#[33, 47, 48]⟩ : ByteArray)] from rfl) (Reps.one (show Kd.M Kd.string _ _ _ (⟨#[44, 47, 50]⟩ : ByteArray) [.string (⟨#[44, 47, 50]⟩ : ByteArray)] from rfl) (Reps.one (show Kd.M Kd.string _ _ _ (⟨#[59, 47, 50]⟩ : ByteArray) [.string (⟨#[59, 47, 50]⟩ : ByteArray)] from rfl) (Reps.one (show Kd.M Kd.string _ _ _ (⟨#[45, 62, 47, 50]⟩ : ByteArray) [.string (⟨#[45, 62, 47, 50]⟩ : ByteArray)] from rfl) (Reps.one (show Kd.M Kd.string _ _ _ (⟨#[92, 43, 47, 49]⟩ : ByteArray) [.string (⟨#[92, 43, 47, 49]⟩ : ByteArray)] from rfl) (Reps.one (show Kd.M Kd.string _ _ _ (⟨#[99, 97, 108, 108, 47, 49]⟩ : ByteArray) [.string (⟨#[99, 97, 108, 108, 47, 49]⟩ : ByteArray)] from rfl) (Reps.one (show Kd.M Kd.string _ _ _ (⟨#[99, 97, 108, 108, 47, 50]⟩ : ByteArray) [.string (⟨#[99, 97, 108, 108, 47, 50]⟩ : ByteArray)] from rfl) (Reps.one (show Kd.M Kd.string _ _ _ (⟨#[99, 97, 108, 108, 47, 51]⟩ : ByteArray) [.string (⟨#[99, 97, 108, 108, 47, 51]⟩ : ByteArray)] from rfl) (Reps.one (show Kd.M Kd.string _ _ _ (⟨#[99, 97, 116, 99, 104, 47, 51]⟩ : ByteArray) [.string (⟨#[99, 97, 116, 99, 104, 47, 51]⟩ : ByteArray)] from rfl) (Reps.one (show Kd.M Kd.string _ _ _ (⟨#[116, 104, 114, 111, 119, 47, 49]⟩ : ByteArray) [.string (⟨#[116, 104, 114, 111, 119, 47, 49]⟩ : ByteArray)] from rfl) (Reps.one (show Kd.M Kd.string _ _ _ (⟨#[61, 47, 50]⟩ : ByteArray) [.string (⟨#[61, 47, 50]⟩ : ByteArray)] from rfl) (Reps.one (show Kd.M Kd.string _ _ _ (⟨#[92, 61, 47, 50]⟩ : ByteArray) [.string (⟨#[92, 61, 47, 50]⟩ : ByteArray)] from rfl) (Reps.one (show Kd.M Kd.string _ _ _ (⟨#[61, 61, 47, 50]⟩ : ByteArray) [.string (⟨#[61, 61, 47, 50]⟩ : ByteArray)] from rfl) (Reps.one (show Kd.M Kd.string _ _ _ (⟨#[105, 115, 47, 50]⟩ : ByteArray) [.string (⟨#[105, 115, 47, 50]⟩ : ByteArray)] from rfl) (Reps.one (show Kd.M Kd.string _ _ _ (⟨#[60, 47, 50]⟩ : ByteArray) [.string (⟨#[60, 47, 50]⟩ : ByteArray)] from rfl) (Reps.one (show Kd.M Kd.string _ _ _ (⟨#[61, 58, 61, 47, 50]⟩ : ByteArray) [.string (⟨#[61, 58, 61, 47, 50]⟩ : ByteArray)] from rfl) (Reps.one (show Kd.M Kd.string _ _ _ (⟨#[118, 97, 114, 47, 49]⟩ : ByteArray) [.string (⟨#[118, 97, 114, 47, 49]⟩ : ByteArray)] from rfl) (Reps.one (show Kd.M Kd.string _ _ _ (⟨#[97, 116, 111, 109, 47, 49]⟩ : ByteArray) [.string (⟨#[97, 116, 111, 109, 47, 49]⟩ : ByteArray)] from rfl) (Reps.one (show Kd.M Kd.string _ _ _ (⟨#[119, 114, 105, 116, 101, 47, 49]⟩ : ByteArray) [.string (⟨#[119, 114, 105, 116, 101, 47, 49]⟩ : ByteArray)] from rfl) (Reps.one (show Kd.M Kd.string _ _ _ (⟨#[97, 115, 115, 101, 114, 116, 122, 47, 49]⟩ : ByteArray) [.string (⟨#[97, 115, 115, 101, 114, 116, 122, 47, 49]⟩ : ByteArray)] from rfl) (Reps.one (show Kd.M Kd.string _ _ _ (⟨#[114, 101, 116, 114, 97, 99, 116, 47, 49]⟩ : ByteArray) [.string (⟨#[114, 101, 116, 114, 97, 99, 116, 47, 49]⟩ : ByteArray)] from rfl) (Reps.one (show Kd.M Kd.string _ _ _ (⟨#[58, 45, 47, 50]⟩ : ByteArray) [.string (⟨#[58, 45, 47, 50]⟩ : ByteArray)] from rfl) (Reps.one (show Kd.M Kd.string _ _ _ (⟨#[58, 45, 47, 49]⟩ : ByteArray) [.string (⟨#[58, 45, 47, 49]⟩ : ByteArray)] from rfl) (Reps.one (show Kd.M Kd.string _ _ _ (⟨#[45, 45, 62, 47, 50]⟩ : ByteArray) [.string (⟨#[45, 45, 62, 47, 50]⟩ : ByteArray)] from rfl) (Reps.none _ _)))))))))))))))))))))))))))); intro v104 w3 ho4 hb hg_ hnew_; clear hg_ hnew_; (first | rw [← Ny103.out] at ho4 | (simp only [Int.reduceToNat] at ho4; rw [← Ny103.out] at ho4)); have n0_ := Aside0.mk (Kd.R_lower ho4 (below_size (by repeat (first | (with_reducible first | exact HB.out | apply below_alloc | apply pw_below_drewN | apply below_drew1) | exact HB.out)))); have n1_ := Aside0.mk (below_step (by repeat (first | (with_reducible first | exact HB.out | apply below_alloc | apply pw_below_drewN | apply below_drew1) | exact HB.out)) hb); clear HB; have HO105 := n0_; have HB := n1_; clear n0_ n1_; clear hb ho4; obtain ⟨Ao5, co5, eo5⟩ := Kd.R_slice HO105.out; subst eo5) | ((with_reducible refine gate_callee (f := 39) rfl ?_); refine goesL_ (some 7) rfl rfl Try.func39 (by kernel_rfl) rfl #[.slice Ao5 y103.length co5, .string a0] rfl (by (try simp only [List.map_toArray, List.map_cons, List.map_nil]); first | done | rfl | (simp only [List.length_drop, List.length_take]; rfl)) ?_; (with_reducible refine (slices_Contains_string_string.calls k _ _ y103 a0 t106 _ ?side1 ?side2 A2.out).mono ?_); (case side1 => repeat (first | exact (Kd.R_reads' HO105.out).2.2 | (with_reducible refine Kd.C_alloc ?_ _) | (with_reducible refine Kd.C_drewN ?_ _) | (with_reducible refine Kd.C_drew ?_))); (case side2 => exact (Kd.R_reads' HO105.out).2.1); rintro e w' ⟨rfl, ⟨nd, rfl⟩⟩; refine ⟨_, rfl, ?_⟩))
  go_ret
  exact ⟨by first | rfl | (simp [errW_none, errW_some] <;> rfl) | (simp [*, errW_none, errW_some] <;> rfl), by repeat (first | (with_reducible first | exact HB.out | apply below_alloc | apply pw_below_drewN | apply below_drew1) | exact HB.out)⟩

/-! ### laws_FnExactControl: function 5 -/
def laws_FnExactControl.f (k : Nat) (a0 : ByteArray) : Option (Bool) := if (a0.size : Int) > 1048576 then (some true) else ((spec_Control.f k a0).bind fun t107 => ((impl_Control.f k a0).bind fun t108 => (if (t108 != t107) = true then (some false) else (some true))))
theorem laws_FnExactControl.mono : ∀ a0 k, LeO (laws_FnExactControl.f k a0) (laws_FnExactControl.f (k + 1) a0) := by
  intro a0 k
  unfold laws_FnExactControl.f
  repeat' first
      | (with_reducible exact impl_Control.mono _ _)
      | (with_reducible exact spec_Control.mono _ _)
      | (with_reducible exact LeO.refl _)
      | (with_reducible exact LeO.none _)
      | (with_reducible refine LeO.ite ?_ ?_)
      | (with_reducible refine LeO.bind ?_ (fun _ => ?_))
      | exact impl_Control.mono _ _
      | exact spec_Control.mono _ _
      | exact LeO.none _
      | refine LeO.ite ?_ ?_
      | refine LeO.bind ?_ (fun _ => ?_)
set_option maxHeartbeats 8000000 in
set_option maxRecDepth 100000 in
theorem laws_FnExactControl.calls (k : Nat) (a0 : ByteArray) (r : Bool) (w : World) (h : laws_FnExactControl.f k a0 = some r) :
    Calls Try.prog 5 #[.string a0] w fun e w' => e = .returned (.bool r) ∧ Below w.heap.size w w' := by
  have HB := Aside0.mk (Below.refl w.heap.size w)
  have H : (if (a0.size : Int) > 1048576 then (some true) else ((spec_Control.f k a0).bind fun t107 => ((impl_Control.f k a0).bind fun t108 => (if (t108 != t107) = true then (some false) else (some true))))) = some r := h
  clear h
  by_cases c2 : (a0.size : Int) > 1048576
  · rw [if_pos c2] at H
    have c2b0 : decide (1048576 < (a0.size : Int)) = true := decide_eq_true c2
    have c2b1 : decide (1048576 < a0.size) = true := decide_eq_true (by omega)
    clear c2
    obtain rfl := Option.some.inj H
    go_enter Try.func5, Try.ntmps5
    go_wp2
    go_ret
    exact ⟨by first | rfl | (simp [errW_none, errW_some] <;> rfl) | (simp [*, errW_none, errW_some] <;> rfl), by repeat (first | (with_reducible first | exact HB.out | apply below_alloc | apply pw_below_drewN | apply below_drew1) | exact HB.out)⟩
  · rw [if_neg c2] at H
    have c2b0 : decide (1048576 < (a0.size : Int)) = false := decide_eq_false c2
    have c2b1 : decide (1048576 < a0.size) = false := decide_eq_false (by omega)
    clear c2
    replace H := Option.bind_eq_some_iff.mp H
    obtain ⟨t107, A30, H⟩ := H
    replace H : ((impl_Control.f k a0).bind fun t108 => (if (t108 != t107) = true then (some false) else (some true))) = some r := H
    have A3 := Aside0.mk A30
    clear A30
    replace H := Option.bind_eq_some_iff.mp H
    obtain ⟨t108, A40, H⟩ := H
    replace H : (if (t108 != t107) = true then (some false) else (some true)) = some r := H
    have A4 := Aside0.mk A40
    clear A40
    by_cases c5 : (t108 != t107) = true
    · rw [if_pos c5] at H
      have c5b0 : (t108 != t107) = true := c5
      (try (have c5b1 : decide (t108 = t107) = false := by simpa using c5))
      (try (have c5b2 : (t108 == t107) = false := by simpa using c5))
      (try (have c5b3 : ¬ (t108 = t107) := by simpa using c5))
      clear c5
      obtain rfl := Option.some.inj H
      go_enter Try.func5, Try.ntmps5
      go_wp2_with (first | ((with_reducible refine gate_callee (f := 17) rfl ?_); refine goesL_ (some 9) rfl rfl Try.func17 (by kernel_rfl) rfl #[.string a0] rfl (by (try simp only [List.map_toArray, List.map_cons, List.map_nil]); first | done | rfl | (simp only [List.length_drop, List.length_take]; rfl)) ?_; (with_reducible refine (spec_Control.calls k a0 t107 _ A3.out).mono ?_); rintro e w' ⟨rfl, ⟨nd, rfl⟩⟩; refine ⟨_, rfl, ?_⟩) | ((with_reducible refine gate_callee (f := 18) rfl ?_); refine goesL_ (some 11) rfl rfl Try.func18 (by kernel_rfl) rfl #[.string a0] rfl (by (try simp only [List.map_toArray, List.map_cons, List.map_nil]); first | done | rfl | (simp only [List.length_drop, List.length_take]; rfl)) ?_; (with_reducible refine (impl_Control.calls k a0 t108 _ A4.out).mono ?_); rintro e w6 ⟨rfl, hb⟩; refine ⟨_, rfl, ?_⟩; have n0_ := Aside0.mk (below_step (by repeat (first | (with_reducible first | exact HB.out | apply below_alloc | apply pw_below_drewN | apply below_drew1) | exact HB.out)) hb); clear HB; have HB := n0_; clear n0_; (try clear hb); (try clear hb2); (try clear hk); (try clear hi)))
      go_ret
      exact ⟨by first | rfl | (simp [errW_none, errW_some] <;> rfl) | (simp [*, errW_none, errW_some] <;> rfl), by repeat (first | (with_reducible first | exact HB.out | apply below_alloc | apply pw_below_drewN | apply below_drew1) | exact HB.out)⟩
    · rw [if_neg c5] at H
      have c5b0 : (t108 != t107) = false := by simpa using c5
      (try (have c5b1 : decide (t108 = t107) = true := by simpa using c5))
      (try (have c5b2 : (t108 == t107) = true := by simpa using c5))
      clear c5
      obtain rfl := Option.some.inj H
      go_enter Try.func5, Try.ntmps5
      go_wp2_with (first | ((with_reducible refine gate_callee (f := 17) rfl ?_); refine goesL_ (some 9) rfl rfl Try.func17 (by kernel_rfl) rfl #[.string a0] rfl (by (try simp only [List.map_toArray, List.map_cons, List.map_nil]); first | done | rfl | (simp only [List.length_drop, List.length_take]; rfl)) ?_; (with_reducible refine (spec_Control.calls k a0 t107 _ A3.out).mono ?_); rintro e w' ⟨rfl, ⟨nd, rfl⟩⟩; refine ⟨_, rfl, ?_⟩) | ((with_reducible refine gate_callee (f := 18) rfl ?_); refine goesL_ (some 11) rfl rfl Try.func18 (by kernel_rfl) rfl #[.string a0] rfl (by (try simp only [List.map_toArray, List.map_cons, List.map_nil]); first | done | rfl | (simp only [List.length_drop, List.length_take]; rfl)) ?_; (with_reducible refine (impl_Control.calls k a0 t108 _ A4.out).mono ?_); rintro e w7 ⟨rfl, hb⟩; refine ⟨_, rfl, ?_⟩; have n0_ := Aside0.mk (below_step (by repeat (first | (with_reducible first | exact HB.out | apply below_alloc | apply pw_below_drewN | apply below_drew1) | exact HB.out)) hb); clear HB; have HB := n0_; clear n0_; (try clear hb); (try clear hb2); (try clear hk); (try clear hi)))
      go_ret
      exact ⟨by first | rfl | (simp [errW_none, errW_some] <;> rfl) | (simp [*, errW_none, errW_some] <;> rfl), by repeat (first | (with_reducible first | exact HB.out | apply below_alloc | apply pw_below_drewN | apply below_drew1) | exact HB.out)⟩

/-- THE ONE PURE STATEMENT of laws_FnExactControl: yours. -/
def laws_FnExactControl.Pure : Prop := ∀ (a0 : ByteArray), a0.size ≤ 140737488351232 → ∃ k, laws_FnExactControl.f k a0 = some true
theorem laws_FnExactControl.walk (P : laws_FnExactControl.Pure) (a0 : ByteArray) (w : World) (w0 : a0.size ≤ 140737488351232) :
    Calls Try.prog 5 #[.string a0] w fun e w' => e = .returned (.bool true) ∧ Below w.heap.size w w' := by
  obtain ⟨k, h⟩ := P a0 w0
  refine (laws_FnExactControl.calls k a0 true w h).mono ?_
  rintro e w' ⟨rfl, hd⟩
  exact ⟨rfl, hd⟩

end Go.Proofs.Ytmbdcobggkhijaa.PFnExactControl
