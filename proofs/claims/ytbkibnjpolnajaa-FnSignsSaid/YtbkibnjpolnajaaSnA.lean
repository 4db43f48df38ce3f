/- SignsOf and AtomText: functions handed on to run, IndexByte, SymbolByte. No condition. -/
import Derived.Test.YtbkibnjpolnajaaKSnx5
import Derived.Test.YtbkibnjpolnajaaKSnx6
import Derived.Test.YtbkibnjpolnajaaKSnx7
import Derived.Test.YtbkibnjpolnajaaKSnx8
import Derived.Below
import Derived.WalkKit
import Derived.LoopTactic
import Derived.KernelRfl
import Derived.OpenShut
import Derived.Lib.Strings
import Derived.Lib.Slices
import Derived.Lib.Walk
import Derived.Lib.Bytealg
set_option linter.unusedVariables false
set_option linter.unusedSimpArgs false
namespace Go.Proofs.Ytbkibnjpolnajaa.KSn
open Go.RowKit Go.Proofs.YtbkibnjpolnajaaW.PrintWords Go.Proofs.YtbkibnjpolnajaaW.PrintLast Go.Proofs.YtbkibnjpolnajaaW.PrintMore
section
open Go.ChangeShapes Go.WideShapes
def symL : List Int := [43, 45, 42, 47, 92, 94, 60, 62, 61, 126, 58, 46, 63, 64, 35, 38, 36]
def symB (b : Int) : Bool := symL.any fun c => c == b
theorem ret_bool {a b : Bool} (h : a = b) : Ending.returned (.bool a) = .returned (.bool b) := by rw [h]
theorem sym_hit (b : Int) (i : Nat) (hi : i < 17) (h : (symL.getD i 0 == b) = true) : symB b = true := by
 unfold symB
 rw [List.any_eq_true]
 have hl : i < symL.length := hi
 refine ⟨symL[i], List.getElem_mem hl, ?_⟩
 have : symL.getD i 0 = symL[i] := by simp [List.getD, hl]
 rw [← this]; exact h
theorem sym_step (b : Int) (i : Nat) (hi : i < 17) (hno : (symL.take i).any (fun c => c == b) = false) (h : (symL.getD i 0 == b) = false) : (symL.take (i + 1)).any (fun c => c == b) = false := by
 have hl : i < symL.length := hi
 have : symL.getD i 0 = symL[i] := by simp [List.getD, hl]
 rw [List.take_succ_eq_append_getElem hl, List.any_append, hno, ← this]
 simpa using h
set_option maxHeartbeats 4000000 in
theorem spec_sym (b : Int) (w : World) :
  Calls Try.prog 13 #[.int .u8 b] w fun e w' => e = .returned (.bool (symB b)) ∧ w' = w := by
 go_enter Try.func13, Try.ntmps13
 go_wp2
 go_loop [4] (fun i => ∃ k : Nat, k ≤ 17 ∧ i = .int .i64 k ∧ (symL.take k).any (fun c => c == b) = false) (fun i => 17 - (intOf i).toNat)
 case atStart => exact ⟨0, by omega, rfl, rfl⟩
 case round =>
  obtain ⟨k, hk, rfl, hno⟩ := hrel
  have hc : k = 0 ∨ k = 1 ∨ k = 2 ∨ k = 3 ∨ k = 4 ∨ k = 5 ∨ k = 6 ∨ k = 7 ∨ k = 8 ∨ k = 9 ∨ k = 10 ∨ k = 11 ∨ k = 12 ∨ k = 13 ∨ k = 14 ∨ k = 15 ∨ k = 16 ∨ k = 17 := by omega
  rcases hc with rfl | rfl | rfl | rfl | rfl | rfl | rfl | rfl | rfl | rfl | rfl | rfl | rfl | rfl | rfl | rfl | rfl | rfl
  ·go_wp2
   ·go_ret
    have h : (symL.getD 0 0 == b) = true := by assumption
    exact ⟨ret_bool (sym_hit b 0 (by omega) h).symm, rfl⟩
   ·have h : (symL.getD 0 0 == b) = false := by assumption
    go_round
    case rel => exact ⟨1, by omega, rfl, sym_step b 0 (by omega) hno h⟩
    case measure => simp [intOf]
  ·go_wp2
   ·go_ret
    have h : (symL.getD 1 0 == b) = true := by assumption
    exact ⟨ret_bool (sym_hit b 1 (by omega) h).symm, rfl⟩
   ·have h : (symL.getD 1 0 == b) = false := by assumption
    go_round
    case rel => exact ⟨2, by omega, rfl, sym_step b 1 (by omega) hno h⟩
    case measure => simp [intOf]
  ·go_wp2
   ·go_ret
    have h : (symL.getD 2 0 == b) = true := by assumption
    exact ⟨ret_bool (sym_hit b 2 (by omega) h).symm, rfl⟩
   ·have h : (symL.getD 2 0 == b) = false := by assumption
    go_round
    case rel => exact ⟨3, by omega, rfl, sym_step b 2 (by omega) hno h⟩
    case measure => simp [intOf]
  ·go_wp2
   ·go_ret
    have h : (symL.getD 3 0 == b) = true := by assumption
    exact ⟨ret_bool (sym_hit b 3 (by omega) h).symm, rfl⟩
   ·have h : (symL.getD 3 0 == b) = false := by assumption
    go_round
    case rel => exact ⟨4, by omega, rfl, sym_step b 3 (by omega) hno h⟩
    case measure => simp [intOf]
  ·go_wp2
   ·go_ret
    have h : (symL.getD 4 0 == b) = true := by assumption
    exact ⟨ret_bool (sym_hit b 4 (by omega) h).symm, rfl⟩
   ·have h : (symL.getD 4 0 == b) = false := by assumption
    go_round
    case rel => exact ⟨5, by omega, rfl, sym_step b 4 (by omega) hno h⟩
    case measure => simp [intOf]
  ·go_wp2
   ·go_ret
    have h : (symL.getD 5 0 == b) = true := by assumption
    exact ⟨ret_bool (sym_hit b 5 (by omega) h).symm, rfl⟩
   ·have h : (symL.getD 5 0 == b) = false := by assumption
    go_round
    case rel => exact ⟨6, by omega, rfl, sym_step b 5 (by omega) hno h⟩
    case measure => simp [intOf]
  ·go_wp2
   ·go_ret
    have h : (symL.getD 6 0 == b) = true := by assumption
    exact ⟨ret_bool (sym_hit b 6 (by omega) h).symm, rfl⟩
   ·have h : (symL.getD 6 0 == b) = false := by assumption
    go_round
    case rel => exact ⟨7, by omega, rfl, sym_step b 6 (by omega) hno h⟩
    case measure => simp [intOf]
  ·go_wp2
   ·go_ret
    have h : (symL.getD 7 0 == b) = true := by assumption
    exact ⟨ret_bool (sym_hit b 7 (by omega) h).symm, rfl⟩
   ·have h : (symL.getD 7 0 == b) = false := by assumption
    go_round
    case rel => exact ⟨8, by omega, rfl, sym_step b 7 (by omega) hno h⟩
    case measure => simp [intOf]
  ·go_wp2
   ·go_ret
    have h : (symL.getD 8 0 == b) = true := by assumption
    exact ⟨ret_bool (sym_hit b 8 (by omega) h).symm, rfl⟩
   ·have h : (symL.getD 8 0 == b) = false := by assumption
    go_round
    case rel => exact ⟨9, by omega, rfl, sym_step b 8 (by omega) hno h⟩
    case measure => simp [intOf]
  ·go_wp2
   ·go_ret
    have h : (symL.getD 9 0 == b) = true := by assumption
    exact ⟨ret_bool (sym_hit b 9 (by omega) h).symm, rfl⟩
   ·have h : (symL.getD 9 0 == b) = false := by assumption
    go_round
    case rel => exact ⟨10, by omega, rfl, sym_step b 9 (by omega) hno h⟩
    case measure => simp [intOf]
  ·go_wp2
   ·go_ret
    have h : (symL.getD 10 0 == b) = true := by assumption
    exact ⟨ret_bool (sym_hit b 10 (by omega) h).symm, rfl⟩
   ·have h : (symL.getD 10 0 == b) = false := by assumption
    go_round
    case rel => exact ⟨11, by omega, rfl, sym_step b 10 (by omega) hno h⟩
    case measure => simp [intOf]
  ·go_wp2
   ·go_ret
    have h : (symL.getD 11 0 == b) = true := by assumption
    exact ⟨ret_bool (sym_hit b 11 (by omega) h).symm, rfl⟩
   ·have h : (symL.getD 11 0 == b) = false := by assumption
    go_round
    case rel => exact ⟨12, by omega, rfl, sym_step b 11 (by omega) hno h⟩
    case measure => simp [intOf]
  ·go_wp2
   ·go_ret
    have h : (symL.getD 12 0 == b) = true := by assumption
    exact ⟨ret_bool (sym_hit b 12 (by omega) h).symm, rfl⟩
   ·have h : (symL.getD 12 0 == b) = false := by assumption
    go_round
    case rel => exact ⟨13, by omega, rfl, sym_step b 12 (by omega) hno h⟩
    case measure => simp [intOf]
  ·go_wp2
   ·go_ret
    have h : (symL.getD 13 0 == b) = true := by assumption
    exact ⟨ret_bool (sym_hit b 13 (by omega) h).symm, rfl⟩
   ·have h : (symL.getD 13 0 == b) = false := by assumption
    go_round
    case rel => exact ⟨14, by omega, rfl, sym_step b 13 (by omega) hno h⟩
    case measure => simp [intOf]
  ·go_wp2
   ·go_ret
    have h : (symL.getD 14 0 == b) = true := by assumption
    exact ⟨ret_bool (sym_hit b 14 (by omega) h).symm, rfl⟩
   ·have h : (symL.getD 14 0 == b) = false := by assumption
    go_round
    case rel => exact ⟨15, by omega, rfl, sym_step b 14 (by omega) hno h⟩
    case measure => simp [intOf]
  ·go_wp2
   ·go_ret
    have h : (symL.getD 15 0 == b) = true := by assumption
    exact ⟨ret_bool (sym_hit b 15 (by omega) h).symm, rfl⟩
   ·have h : (symL.getD 15 0 == b) = false := by assumption
    go_round
    case rel => exact ⟨16, by omega, rfl, sym_step b 15 (by omega) hno h⟩
    case measure => simp [intOf]
  ·go_wp2
   ·go_ret
    have h : (symL.getD 16 0 == b) = true := by assumption
    exact ⟨ret_bool (sym_hit b 16 (by omega) h).symm, rfl⟩
   ·have h : (symL.getD 16 0 == b) = false := by assumption
    go_round
    case rel => exact ⟨17, by omega, rfl, sym_step b 16 (by omega) hno h⟩
    case measure => simp [intOf]
  ·go_wp2
   go_ret
   exact ⟨ret_bool hno.symm, rfl⟩
set_option maxHeartbeats 1000000 in
set_option maxRecDepth 100000 in
theorem lite_index (s : ByteArray) (c : Int) (w : World) :
  Calls Try.prog 62 #[.string s, .int .u8 c] w fun e w' => e = .returned (.int .i64 (Lib.indexByte s.data.toList c.toNat.toUInt8)) ∧ w' = w := by
 go_enter Try.func62, Try.ntmps62
 go_wp2
 rw [run_callFunc_extern Try.func76 (by kernel_rfl) (by kernel_rfl) (by kernel_rfl) (e := Extern.BytealgIndexByte.indexByte) (by kernel_rfl), Lib.run_indexByteString]
 simp only [Result.andThen]
 rw [Oper.upon_value]
 go_wp2
 go_ret
 exact ⟨rfl, rfl⟩
set_option maxHeartbeats 1000000 in
theorem index_byte (s : ByteArray) (c : Int) (w : World) :
  Calls Try.prog 40 #[.string s, .int .u8 c] w fun e w' => e = .returned (.int .i64 (Lib.indexByte s.data.toList c.toNat.toUInt8)) ∧ w' = w := by
 go_enter Try.func40, Try.ntmps40
 go_wp2_with (go_at_call 62; refine (lite_index _ _ _).mono ?_; rintro e w' ⟨rfl, rfl⟩)
 go_ret
 exact ⟨rfl, rfl⟩
theorem index_any (l : List UInt8) (b : Int) (h0 : 0 ≤ b) (h1 : b ≤ 255) : decide (Lib.indexByte l b.toNat.toUInt8 ≥ 0) = l.any fun c => (c.toNat : Int) == b := by
 induction l with
 | nil => rfl
 | cons c l ih =>
  have e : (c == b.toNat.toUInt8) = ((c.toNat : Int) == b) := by
   rw [Bool.eq_iff_iff, beq_iff_eq, beq_iff_eq, ← UInt8.toNat_inj]
   have : b.toNat.toUInt8.toNat = b.toNat := by
    rw [Nat.toUInt8_eq, UInt8.toNat_ofNat']; omega
   rw [this]; omega
  have hge := Lib.indexByte_ge l b.toNat.toUInt8
  rw [List.any_cons, ← ih, ← e, show Lib.indexByte (c :: l) b.toNat.toUInt8 = if c == b.toNat.toUInt8 then 0 else if Lib.indexByte l b.toNat.toUInt8 == -1 then -1 else Lib.indexByte l b.toNat.toUInt8 + 1 from rfl]
  cases c == b.toNat.toUInt8
  ·simp only [Bool.false_eq_true, if_false, Bool.false_or]
   by_cases h : Lib.indexByte l b.toNat.toUInt8 == -1
   ·rw [if_pos h]; have := beq_iff_eq.1 h; rw [this]
   ·rw [if_neg h]
    have : Lib.indexByte l b.toNat.toUInt8 ≠ -1 := by simpa using h
    rw [decide_eq_true (by omega), decide_eq_true (by omega)]
  ·rfl
end
theorem symB_lit (b : Int) (h0 : 0 ≤ b) (h1 : b ≤ 255) : decide (Lib.indexByte [43, 45, 42, 47, 92, 94, 60, 62, 61, 126, 58, 46, 63, 64, 35, 38, 36] b.toNat.toUInt8 ≥ 0) = symB b := by
 rw [index_any _ b h0 h1]
 simp only [symB, symL, List.any_cons, List.any_nil, Bool.or_false]
 rfl
@[reducible] def i_ib : fk_strings_IndexByte := ⟨fun _ s b => some (Lib.indexByte s.data.toList b.toNat.toUInt8), fun _ _ _ => LeO.refl _, fun k s b r w h => by
 cases h
 refine (index_byte s b w).mono ?_
 rintro e w' ⟨rfl, rfl⟩
 exact ⟨rfl, Below.refl _ _⟩⟩
@[reducible] def i_ss : fk_spec_SymbolByte := ⟨fun _ b => some (symB b), fun _ _ => LeO.refl _, fun k b r w h => by
 cases h
 refine (spec_sym b w).mono ?_
 rintro e w' ⟨rfl, rfl⟩
 exact ⟨rfl, Below.refl _ _⟩⟩
def runL (g : Nat → Int → Option Bool) : Nat → ByteArray → Int → Option Int
 | 0, _, _ => none
 | k + 1, x0, x1 => if x1 < (x0.size : Int) then (if 0 ≤ x1 then ((g k (bt x0 x1)).bind fun t => (if t = true then (runL g k x0 (wrap64 (x1 + 1))) else (some x1))) else (none)) else (some x1)
theorem runL_mono (g : Nat → Int → Option Bool) (hg : ∀ b k, LeO (g k b) (g (k + 1) b)) : ∀ k x0 x1, LeO (runL g k x0 x1) (runL g (k + 1) x0 x1)
 | 0, _, _ => LeO.none _
 | k + 1, x0, x1 => by
  rw [runL, runL]
  refine LeO.ite (LeO.ite ?_ (LeO.refl _)) (LeO.refl _)
  exact LeO.bind (hg _ k) fun t => LeO.ite (runL_mono g hg k x0 _) (LeO.refl _)
@[reducible] def Tests (F : Nat) (g : Nat → Int → Option Bool) : Prop := ∀ k b r w, g k b = some r → Calls Try.prog F #[.int .u8 b] w fun e w' => e = .returned (.bool r) ∧ Below w.heap.size w w'
set_option maxHeartbeats 40000000 in
set_option maxRecDepth 100000 in
theorem run_any (F : Nat) (hF : F = 73 ∨ F = 74 ∨ F = 14 ∨ F = 75 ∨ F = 56) (g : Nat → Int → Option Bool) (hT : Tests F g) (k : Nat) (a0 : ByteArray) (a1 : Int) (r : Int) (w : World) (h : runL g k a0 a1 = some r) :
  Calls Try.prog 55 #[.string a0, .int .i64 a1, .func (.func F) #[] #[]] w fun e w' => e = .returned (.int .i64 r) ∧ Below w.heap.size w w' := by
 rcases hF with rfl | rfl | rfl | rfl | rfl
 all_goals
  have H' := Aside0.mk h
  have HT := Aside0.mk hT
  clear h hT
  go_enter Try.func55, Try.ntmps55
  go_wp2
  go_loopg [1] k (fun kq v1 w' => ∃ (x1_1 : Int), v1 = .int .i64 x1_1 ∧ Aside0 (runL g kq a0 x1_1 = some r) ∧ Aside0 (kq ≤ k) ∧ Aside0 (Below w.heap.size w w'))
  case atStart => exact ⟨(a1), (by first | rfl | (simp; done) | (simp [*]; done)), H', ⟨Nat.le_refl _⟩, ⟨by repeat (first | exact Below.refl _ _ | apply pw_below_drewN | apply below_drew1)⟩⟩
  case round =>
   clear H'
   obtain ⟨x1_1, rfl, HA, HK1, HB⟩ := hrel
   cases gk with
   | zero => exact absurd HA.out (by simp [runL])
   | succ k1 =>
    have H := HA.out
    clear HA
    simp only [runL] at H
    by_cases c4 : x1_1 < (a0.size : Int)
    ·rw [if_pos c4] at H
     have c4b0 : decide (x1_1 < (a0.size : Int)) = true := decide_eq_true c4
     clear c4
     by_cases c5 : 0 ≤ x1_1
     ·rw [if_pos c5] at H
      have c5b0 : decide (0 ≤ x1_1) = true := decide_eq_true c5
      clear c5
      replace H := Option.bind_eq_some_iff.mp H
      obtain ⟨t104, A70, H⟩ := H
      replace H : (if t104 = true then (runL g k1 a0 (wrap64 (x1_1 + 1))) else (some x1_1)) = some r := H
      have A7 := Aside0.mk A70
      clear A70
      have p6 : 0 ≤ (x1_1 : Int) := of_decide_eq_true (by first | (with_reducible assumption) | assumption)
      have q6 : x1_1 < (a0.size : Int) := of_decide_eq_true (by first | (with_reducible assumption) | assumption)
      have hx6 := bt_at a0 x1_1
      replace p6 := eq_true p6
      replace q6 := eq_true q6
      by_cases c8 : t104 = true
      ·subst c8
       have H1 : (runL g k1 a0 (wrap64 (x1_1 + 1))) = some r := by rw [if_pos rfl] at H; exact H
       clear H
       have H' := Aside0.mk H1
       clear H1
       go_wp2_with (first | (go_at_call 73; (with_reducible refine (HT.out k1 (bt a0 x1_1) true _ A7.out).mono ?_); rintro e w' ⟨rfl, hb⟩) | (go_at_call 74; (with_reducible refine (HT.out k1 (bt a0 x1_1) true _ A7.out).mono ?_); rintro e w' ⟨rfl, hb⟩) | (go_at_call 14; (with_reducible refine (HT.out k1 (bt a0 x1_1) true _ A7.out).mono ?_); rintro e w' ⟨rfl, hb⟩) | (go_at_call 75; (with_reducible refine (HT.out k1 (bt a0 x1_1) true _ A7.out).mono ?_); rintro e w' ⟨rfl, hb⟩) | (go_at_call 56; (with_reducible refine (HT.out k1 (bt a0 x1_1) true _ A7.out).mono ?_); rintro e w' ⟨rfl, hb⟩))
       go_roundg k1
       case measure => have := HK1.out; omega
       case rel => exact ⟨(wrap64 (x1_1 + 1)), (by first | rfl | (simp; done) | (simp [*]; done)), H', ⟨by have := HK1.out; omega⟩, ⟨by (repeat (first | apply pw_below_drewN | apply below_drew1)); refine below_step ?_ hb; repeat (first | exact HB.out | apply pw_below_drewN | apply below_drew1)⟩⟩
      ·replace c8 := Bool.eq_false_iff.mpr c8
       subst c8
       have H1 : (some x1_1) = some r := by rw [if_neg (show ¬ (false = true) by decide)] at H; exact H
       clear H
       obtain rfl := Option.some.inj H1
       clear H1
       go_wp2_with (first | (go_at_call 73; (with_reducible refine (HT.out k1 (bt a0 x1_1) false _ A7.out).mono ?_); rintro e w' ⟨rfl, hb⟩) | (go_at_call 74; (with_reducible refine (HT.out k1 (bt a0 x1_1) false _ A7.out).mono ?_); rintro e w' ⟨rfl, hb⟩) | (go_at_call 14; (with_reducible refine (HT.out k1 (bt a0 x1_1) false _ A7.out).mono ?_); rintro e w' ⟨rfl, hb⟩) | (go_at_call 75; (with_reducible refine (HT.out k1 (bt a0 x1_1) false _ A7.out).mono ?_); rintro e w' ⟨rfl, hb⟩) | (go_at_call 56; (with_reducible refine (HT.out k1 (bt a0 x1_1) false _ A7.out).mono ?_); rintro e w' ⟨rfl, hb⟩))
       go_ret
       exact ⟨by first | rfl | (simp; done) | (simp [*]; done), by (repeat (first | apply pw_below_drewN | apply below_drew1)); refine below_step ?_ hb; repeat (first | exact HB.out | apply pw_below_drewN | apply below_drew1)⟩
     ·rw [if_neg c5] at H
      exact absurd H (by simp)
    ·rw [if_neg c4] at H
     have c4b0 : decide (x1_1 < (a0.size : Int)) = false := decide_eq_false c4
     clear c4
     obtain rfl := Option.some.inj H
     go_wp2
     go_ret
     exact ⟨by first | rfl | (simp; done) | (simp [*]; done), by repeat (first | exact HB.out | apply pw_below_drewN | apply below_drew1)⟩
def q1 (b : Int) : Bool := decide (33 ≤ b) && decide (b ≤ 126) && !(b == 39) && !(b == 34)
@[reducible] def d_run : fk_impl_run := ⟨fun _ _ _ _ => none, fun _ _ _ _ => LeO.none _, by intros; contradiction, by intros; contradiction, by intros; contradiction, by intros; contradiction, by intros; contradiction⟩
theorem t_word : Tests 73 fun _ b => impl_wordByte.f b := fun k b r w h => by
 letI := d_run; letI := i_ib; letI := i_ss
 exact (impl_wordByte.calls b r w h).mono fun e w' ⟨he, hd⟩ => ⟨he, hd.below⟩
theorem t_fig : Tests 74 fun _ b => impl_figure.f b := fun k b r w h => by
 letI := d_run; letI := i_ib; letI := i_ss
 exact (impl_figure.calls b r w h).mono fun e w' ⟨he, hd⟩ => ⟨he, hd.below⟩
theorem t_sym : Tests 14 fun k b => @impl_SymbolByte.f i_ib k b := fun k b r w h => by
 letI := d_run; letI := i_ib; letI := i_ss
 exact impl_SymbolByte.calls k b r w h
set_option maxHeartbeats 2000000 in
theorem t_q1 : Tests 75 fun _ b => if 0 ≤ b ∧ b ≤ 255 then some (q1 b) else none := fun k b r w h => by
 replace h : (if 0 ≤ b ∧ b ≤ 255 then some (q1 b) else none) = some r := h
 by_cases hb : 0 ≤ b ∧ b ≤ 255
 case neg => rw [if_neg hb] at h; cases h
 rw [if_pos hb] at h
 cases h
 have hwb : wrap64 b = b := by unfold wrap64; omega
 have hwc : IntKind.i64.wrap b = b := (i64_w b).trans hwb
 clear hb
 letI := d_run; letI := i_ib; letI := i_ss
 have hw : ∀ w1 : World, Calls Try.prog 47 #[.int .i64 b, .int .i64 33, .int .i64 126] w1 fun e w' => e = .returned (.bool (decide (33 ≤ b) && decide (b ≤ 126))) ∧ Drawn0 w1 w' := fun w1 => by
  refine impl_within.calls b 33 126 _ w1 ?_
  unfold impl_within.f
  by_cases h1 : b ≥ 33
  ·rw [if_pos h1, decide_eq_true h1]; rfl
  ·rw [if_neg h1, decide_eq_false h1]; rfl
 have HW := Aside0.mk hw
 clear hw
 cases hc : (decide (33 ≤ b) && decide (b ≤ 126)) with
 | false =>
  have hq : q1 b = false := by unfold q1; rw [hc]; rfl
  rw [hq]
  rw [hc] at HW
  clear hc hq
  go_enter Try.func75, Try.ntmps75
  go_wp2_with (go_at_call 47; refine (HW.out _).mono ?_; rintro e w' ⟨rfl, ⟨nd, rfl⟩⟩)
  go_ret
  exact ⟨rfl, by repeat (first | exact Below.refl _ _ | apply pw_below_drewN | apply below_drew1)⟩
 | true =>
  by_cases h2 : b = 39
  ·have hq : q1 b = false := by unfold q1; rw [hc, h2]; rfl
   rw [hq]
   rw [hc] at HW
   clear hc hq
   have c1 : (b == 39) = true := beq_iff_eq.mpr h2
   have c2 : (b != 39) = false := bne_eq_false_iff_eq.mpr h2
   clear h2
   go_enter Try.func75, Try.ntmps75
   go_wp2_with (go_at_call 47; refine (HW.out _).mono ?_; rintro e w' ⟨rfl, ⟨nd, rfl⟩⟩)
   go_ret
   exact ⟨rfl, by repeat (first | exact Below.refl _ _ | apply pw_below_drewN | apply below_drew1)⟩
  ·have c1 : (b == 39) = false := beq_eq_false_iff_ne.mpr h2
   have c2 : (b != 39) = true := bne_iff_ne.mpr h2
   have hq : q1 b = !(b == 34) := by unfold q1; rw [hc, c1]; rfl
   rw [hq]
   rw [hc] at HW
   clear hc hq h2
   go_enter Try.func75, Try.ntmps75
   go_wp2_with (go_at_call 47; refine (HW.out _).mono ?_; rintro e w' ⟨rfl, ⟨nd, rfl⟩⟩)
   go_ret
   exact ⟨by first | rfl | (simp; done) | (simp [*]; done), by repeat (first | exact Below.refl _ _ | apply pw_below_drewN | apply below_drew1)⟩
set_option maxHeartbeats 2000000 in
theorem t_nl : Tests 56 fun _ b => some (!(b == 10)) := fun k b r w h => by
 cases h
 go_enter Try.func56, Try.ntmps56
 go_wp2
 go_ret
 exact ⟨rfl, Below.refl _ _⟩
@[reducible] def i_run : fk_impl_run := ⟨fun k t a n => if n = 73 then runL (fun _ b => impl_wordByte.f b) k t a else if n = 74 then runL (fun _ b => impl_figure.f b) k t a else if n = 14 then runL (fun k b => @impl_SymbolByte.f i_ib k b) k t a else if n = 75 then runL (fun _ b => if 0 ≤ b ∧ b ≤ 255 then some (q1 b) else none) k t a else if n = 56 then runL (fun _ b => some (!(b == 10))) k t a else none,
 fun t a n k => by
  refine LeO.ite (runL_mono _ (fun _ _ => LeO.refl _) k t a) (LeO.ite (runL_mono _ (fun _ _ => LeO.refl _) k t a) (LeO.ite (runL_mono _ (fun _ _ => ?_) k t a) (LeO.ite (runL_mono _ (fun _ _ => LeO.refl _) k t a) (LeO.ite (runL_mono _ (fun _ _ => LeO.refl _) k t a) (LeO.refl _)))))
  exact LeO.refl _,
 fun k s a r w h => run_any 73 (by decide) _ t_word k s a r w (by simpa using h), fun k s a r w h => run_any 74 (by decide) _ t_fig k s a r w (by simpa using h), fun k s a r w h => run_any 14 (by decide) _ t_sym k s a r w (by simpa using h), fun k s a r w h => run_any 75 (by decide) _ t_q1 k s a r w (by simpa using h), fun k s a r w h => run_any 56 (by decide) _ t_nl k s a r w (by simpa using h)⟩
theorem Ev.pos {α : Type} {c : Prop} [Decidable c] {g f : Nat → Option α} {r : α} (h : c) (k : Ev g r) : Ev (fun n => if c then g n else f n) r := Ev.congr (fun _ => if_pos h) k
theorem Ev.neg {α : Type} {c : Prop} [Decidable c] {g f : Nat → Option α} {r : α} (h : ¬c) (k : Ev f r) : Ev (fun n => if c then g n else f n) r := Ev.congr (fun _ => if_neg h) k
theorem Ev.put {α β : Type} {f : Nat → α → Option β} {a : α} {r : β} (k : Ev (fun n => f n a) r) : Ev (fun n => (some a).bind (f n)) r := k
theorem Ev.tt {α : Type} {g f : Nat → Option α} {r : α} (k : Ev g r) : Ev (fun n => if true = true then g n else f n) r := Ev.pos rfl k
theorem Ev.ff {α : Type} {g f : Nat → Option α} {r : α} (k : Ev f r) : Ev (fun n => if false = true then g n else f n) r := Ev.neg (by decide) k
def bytesI (s : ByteArray) : List Int := s.data.toList.map fun b => (b.toNat : Int)
theorem bytesI_length (s : ByteArray) : (bytesI s).length = s.size := by unfold bytesI; rw [List.length_map, Array.length_toList]; rfl
theorem bt_get (s : ByteArray) (i : Nat) (h : i < s.size) : bt s (i : Int) = (bytesI s)[i]'(by rw [bytesI_length]; exact h) := by
 unfold bt bytesI
 rw [dif_pos (by simpa using h)]
 simp only [List.getElem_map, Array.getElem_toList, Int.toNat_natCast]
 rfl
theorem bytes_drop (s : ByteArray) (i : Nat) (h : i < s.size) : (bytesI s).drop i = bt s (i : Int) :: (bytesI s).drop (i + 1) := by
 have hl : i < (bytesI s).length := by rw [bytesI_length]; exact h
 rw [List.drop_eq_getElem_cons hl, bt_get s i h]
theorem bytes_end (s : ByteArray) (i : Nat) (h : s.size ≤ i) : (bytesI s).drop i = [] := List.drop_eq_nil_of_le (by rw [bytesI_length]; exact h)
theorem w_next (i n : Nat) (h : i < n) (hn : n ≤ 4611686018427387904) : wrap64 ((i : Int) + 1) = ((i + 1 : Nat) : Int) := by unfold wrap64; omega
def span (p : Int → Bool) : List Int → Nat
 | [] => 0
 | c :: l => if p c then span p l + 1 else 0
theorem span_le (p : Int → Bool) (l : List Int) : span p l ≤ l.length := by
 induction l with
 | nil => exact Nat.le_refl _
 | cons c l ih => rw [span]; split <;> simp only [List.length_cons] <;> omega
def smallM (b : Int) : Bool := decide (97 ≤ b) && decide (b ≤ 122)
def upM (b : Int) : Bool := decide (65 ≤ b) && decide (b ≤ 90)
def figM (b : Int) : Bool := decide (48 ≤ b) && decide (b ≤ 57)
def wordM (b : Int) : Bool := smallM b || upM b || figM b || b == 95
def numM : List Int → Int → Option (Int × Nat)
 | [], a => if a ≤ 999999999 then some (a, 0) else none
 | c :: l, a => if figM c then (if a ≤ 999999999 then (numM l (10 * a + (c - 48))).map fun x => (x.1, x.2 + 1) else none) else if a ≤ 999999999 then some (a, 0) else none
def blankM (b : Int) : Bool := b == 32 || b == 9 || b == 10
def endM (prev : Option Int) (l : List Int) : Bool :=
 match l with
 | [] => false
 | c :: r => c == 46 && !(prev.any symB) && (match r with
  | [] => true
  | d :: _ => blankM d || d == 37)
def markM (b : Int) : Bool := b == 40 || b == 41 || b == 91 || b == 93 || b == 44 || b == 124
def signC (prev : Option Int) (b : Int) (r : List Int) : Int × Nat × Nat × Int × Nat :=
 if smallM b || (upM b || b == 95) then (if span wordM (b :: r) ≤ 20 then (if smallM b then 1 else 2, 0, span wordM (b :: r), 0, span wordM (b :: r)) else (6, 0, 1, 0, 1))
 else if figM b then (match numM (b :: r) 0 with
   | some (v, n) => (3, 0, 0, v, n)
   | none => (6, 0, 1, 0, 1))
 else if b == 39 then (if span (fun c => !(c == 39)) r < r.length ∧ (r.take (span (fun c => !(c == 39)) r)).all q1 = true ∧ 1 ≤ span (fun c => !(c == 39)) r ∧ span (fun c => !(c == 39)) r ≤ 20 then (1, 1, span (fun c => !(c == 39)) r + 1, 0, span (fun c => !(c == 39)) r + 2) else (6, 0, 1, 0, 1))
 else if b == 33 || b == 59 then (1, 0, 1, 0, 1)
 else if markM b then (4, 0, 1, 0, 1)
 else if endM prev (b :: r) then (5, 0, 1, 0, 1)
 else if symB b then (if span symB (b :: r) ≤ 20 then (1, 0, span symB (b :: r), 0, span symB (b :: r)) else (6, 0, 1, 0, 1))
 else (6, 0, 1, 0, 1)
def signM (prev : Option Int) (l : List Int) : Int × Nat × Nat × Int × Nat :=
 match l with
 | [] => (6, 0, 1, 0, 1)
 | b :: r => signC prev b r
def toSign (t : ByteArray) (i : Nat) (m : Int × Nat × Nat × Int × Nat) : Int × ByteArray × Int × Int × Bool × Int := (m.1, t.extract (i + m.2.1) (i + m.2.2.1), m.2.2.2.1, (i : Int), false, ((i + m.2.2.2.2 : Nat) : Int))
theorem wordM_start {b : Int} (h : (smallM b || (upM b || b == 95)) = true) : wordM b = true := by
 unfold wordM
 revert h
 generalize smallM b = x
 generalize upM b = y
 generalize figM b = z
 generalize (b == 95) = u
 revert x y z u
 decide
theorem numM_len : ∀ (l : List Int) (a : Int) v n, numM l a = some (v, n) → n = span figM l ∧ v ≤ 999999999
 | [], a, v, n, h => by
  rw [numM] at h
  split at h
  ·injection h with h; injection h with h1 h2; subst h1; subst h2; exact ⟨rfl, by omega⟩
  ·cases h
 | c :: l, a, v, n, h => by
  rw [numM] at h
  rw [span]
  split at h
  ·rename_i hc
   rw [if_pos hc]
   split at h
   ·obtain ⟨⟨v', n'⟩, h1, h2⟩ := Option.map_eq_some_iff.1 h
    injection h2 with h2 h3
    obtain ⟨h4, h5⟩ := numM_len l _ v' n' h1
    simp only at h2 h3
    exact ⟨by omega, by omega⟩
   ·cases h
  ·rename_i hc
   rw [if_neg hc]
   split at h
   ·injection h with h; injection h with h1 h2; subst h1; subst h2; exact ⟨rfl, by omega⟩
   ·cases h
def okM (n : Nat) (m : Int × Nat × Nat × Int × Nat) : Prop := 1 ≤ m.2.2.2.2 ∧ m.2.2.2.2 ≤ n ∧ m.2.1 ≤ m.2.2.1 ∧ m.2.2.1 ≤ m.2.2.2.2
theorem okM_ite {n : Nat} {c : Prop} [Decidable c] {x y : Int × Nat × Nat × Int × Nat} (h : c → okM n x) (k : ¬c → okM n y) : okM n (if c then x else y) := by
 by_cases hc : c
 ·rw [if_pos hc]; exact h hc
 ·rw [if_neg hc]; exact k hc
theorem okM_one (n : Nat) (m : Int) : okM (n + 1) (m, 0, 1, 0, 1) := ⟨Nat.le_refl _, Nat.le_add_left _ _, Nat.zero_le _, Nat.le_refl _⟩
theorem okM_span (p : Int → Bool) (m : Int) (b : Int) (r : List Int) (hb : p b = true) : okM (r.length + 1) (m, 0, span p (b :: r), 0, span p (b :: r)) := by
 have h := span_le p (b :: r)
 refine ⟨?_, h, Nat.zero_le _, Nat.le_refl _⟩
 show 1 ≤ span p (b :: r)
 rw [span, if_pos hb]
 omega
theorem signM_len (prev : Option Int) (b : Int) (r : List Int) : okM (r.length + 1) (signM prev (b :: r)) := by
 show okM (r.length + 1) (signC prev b r)
 unfold signC
 refine okM_ite (fun hw => okM_ite (fun _ => okM_span wordM _ b r (wordM_start hw)) (fun _ => okM_one _ _)) (fun _ => ?_)
 refine okM_ite (fun hf => ?_) (fun _ => ?_)
 ·have h3 := span_le figM (b :: r)
  have h5 : 1 ≤ span figM (b :: r) := by rw [span, if_pos hf]; omega
  cases hn : numM (b :: r) 0 with
  | none => exact okM_one _ _
  | some x =>
   obtain ⟨v, n⟩ := x
   have := (numM_len _ _ _ _ hn).1
   subst this
   exact ⟨h5, h3, Nat.le_refl _, Nat.zero_le _⟩
 ·refine okM_ite (fun _ => okM_ite (fun hq => ?_) (fun _ => okM_one _ _)) (fun _ => ?_)
  ·obtain ⟨h1, h2, h3, h4⟩ := hq
   generalize span (fun c => !(c == 39)) r = n at h1 h3
   exact ⟨by show 1 ≤ n + 2; omega, by show n + 2 ≤ _; omega, by show 1 ≤ n + 1; omega, by show n + 1 ≤ n + 2; omega⟩
  ·refine okM_ite (fun _ => okM_one _ _) (fun _ => okM_ite (fun _ => okM_one _ _) (fun _ => okM_ite (fun _ => okM_one _ _) (fun _ => okM_ite (fun hs => okM_ite (fun _ => okM_span symB _ b r hs) (fun _ => okM_one _ _)) (fun _ => okM_one _ _))))
theorem e_small (b : Int) : spec_l05Small.f b = some (smallM b) := by
 unfold spec_l05Small.f smallM
 by_cases h : b ≥ 97
 ·rw [if_pos h, decide_eq_true h]; rfl
 ·rw [if_neg h, decide_eq_false h]; rfl
theorem e_lower (b : Int) : impl_lower.f b = some (smallM b) := by
 unfold impl_lower.f smallM
 by_cases h : b ≥ 97
 ·rw [if_pos h, decide_eq_true h]; rfl
 ·rw [if_neg h, decide_eq_false h]; rfl
theorem e_upper (b : Int) : impl_upper.f b = some (upM b) := by
 unfold impl_upper.f upM
 by_cases h : b ≥ 65
 ·rw [if_pos h, decide_eq_true h]; rfl
 ·rw [if_neg h, decide_eq_false h]; rfl
theorem e_fig (b : Int) : impl_figure.f b = some (figM b) := by
 unfold impl_figure.f figM
 by_cases h : b ≥ 48
 ·rw [if_pos h, decide_eq_true h]; rfl
 ·rw [if_neg h, decide_eq_false h]; rfl
theorem e_fig5 (b : Int) : spec_l05Figure.f b = some (figM b) := by
 unfold spec_l05Figure.f figM
 by_cases h : b ≥ 48
 ·rw [if_pos h, decide_eq_true h]; rfl
 ·rw [if_neg h, decide_eq_false h]; rfl
theorem e_great (b : Int) : spec_l05Great.f b = some (upM b || b == 95) := by
 unfold spec_l05Great.f upM
 by_cases h : b ≥ 65
 ·rw [if_pos h, decide_eq_true h]
  by_cases h2 : b ≤ 90
  ·rw [if_pos h2, decide_eq_true h2]; rfl
  ·rw [if_neg h2, decide_eq_false h2]; rfl
 ·rw [if_neg h, decide_eq_false h]; rfl
theorem e_word (b : Int) : impl_wordByte.f b = some (wordM b) := by
 unfold impl_wordByte.f wordM
 rw [e_lower, e_upper, e_fig]
 simp only [Option.bind_some]
 cases smallM b <;> cases upM b <;> cases figM b <;> simp
theorem e_word5 (b : Int) : spec_l05Word.f b = some (wordM b) := by
 unfold spec_l05Word.f wordM
 rw [e_small, e_great, e_fig5]
 simp only [Option.bind_some]
 cases smallM b <;> cases upM b <;> cases figM b <;> cases (b == 95) <;> simp
theorem e_sym (k : Nat) (b : Int) (h0 : 0 ≤ b) (h1 : b ≤ 255) : @impl_SymbolByte.f i_ib k b = some (symB b) := by
 unfold impl_SymbolByte.f
 show some (decide (Lib.indexByte _ b.toNat.toUInt8 ≥ 0)) = _
 rw [← symB_lit b h0 h1]
theorem e_blank (b : Int) : spec_l05Blank.f b = some (blankM b) := by
 unfold spec_l05Blank.f blankM
 split
 ·rename_i h; rw [h]; rfl
 ·rename_i h
  have : (b == 32) = false := by simpa using h
  split
  ·rename_i h2; rw [h2]; rfl
  ·rename_i h2
   have h3 : (b == 9) = false := by simpa using h2
   rw [this, h3]; rfl
theorem run_ev (g : Nat → Int → Option Bool) (p : Int → Bool) (hg : ∀ k b, 0 ≤ b → b ≤ 255 → g k b = some (p b)) (t : ByteArray) (ht : t.size ≤ 4611686018427387904) (d : Nat) : ∀ i : Nat, i ≤ t.size → t.size - i = d →
  Ev (fun k => runL g k t i) ((i + span p ((bytesI t).drop i) : Nat) : Int) := by
 induction d with
 | zero =>
  intro i hi hd
  refine Ev.step (f := fun _ => some (i : Int)) (fun k => ?_) ?_
  ·rw [runL, if_neg (by omega)]
  ·rw [bytes_end t i (by omega)]; exact Ev.now _
 | succ d ih =>
  intro i hi hd
  have hr := bt_range t i
  rw [bytes_drop t i (by omega), span]
  cases hp : p (bt t i) with
  | true =>
   refine Ev.step (f := fun k => runL g k t ((i + 1 : Nat) : Int)) (fun k => ?_) ?_
   ·rw [runL, if_pos (by omega), if_pos (by omega), hg k _ hr.1 hr.2, hp, w_next i _ (by omega) ht]
    rfl
   ·have := ih (i + 1) (by omega) (by omega)
    rw [if_pos rfl, show i + (span p ((bytesI t).drop (i + 1)) + 1) = i + 1 + span p ((bytesI t).drop (i + 1)) by omega]
    exact this
  | false =>
   refine Ev.step (f := fun _ => some (i : Int)) (fun k => ?_) ?_
   ·rw [runL, if_pos (by omega), if_pos (by omega), hg k _ hr.1 hr.2, hp]
    rfl
   ·exact Ev.now _
theorem run5_ev (t : ByteArray) (ht : t.size ≤ 4611686018427387904) (d : Nat) : ∀ i : Nat, i ≤ t.size → t.size - i = d →
  Ev (fun k => spec_l05Run.l0 k t i) ((i + span wordM ((bytesI t).drop i) : Nat) : Int) := by
 induction d with
 | zero =>
  intro i hi hd
  refine Ev.step (f := fun _ => some (i : Int)) (fun k => ?_) ?_
  ·rw [spec_l05Run.l0, if_neg (by omega)]
  ·rw [bytes_end t i (by omega)]; exact Ev.now _
 | succ d ih =>
  intro i hi hd
  rw [bytes_drop t i (by omega), span]
  cases hp : wordM (bt t i) with
  | true =>
   refine Ev.step (f := fun k => spec_l05Run.l0 k t ((i + 1 : Nat) : Int)) (fun k => ?_) ?_
   ·rw [spec_l05Run.l0, if_pos (by omega), if_pos (by omega), e_word5, hp, w_next i _ (by omega) ht]
    rfl
   ·have := ih (i + 1) (by omega) (by omega)
    rw [if_pos rfl, show i + (span wordM ((bytesI t).drop (i + 1)) + 1) = i + 1 + span wordM ((bytesI t).drop (i + 1)) by omega]
    exact this
  | false =>
   refine Ev.step (f := fun _ => some (i : Int)) (fun k => ?_) ?_
   ·rw [spec_l05Run.l0, if_pos (by omega), if_pos (by omega), e_word5, hp]
    rfl
   ·exact Ev.now _
theorem num5_ev (t : ByteArray) (ht : t.size ≤ 4611686018427387904) (x1 x8 s0 : Int) (s1 : ByteArray) (s2 s3 : Int) (s4 : Bool) (d : Nat) : ∀ (i : Nat) (a : Int), i ≤ t.size → t.size - i = d → 0 ≤ a → a ≤ 9999999999 →
  Ev (fun k => @spec_l05Sign.l0 i_ss k t x1 x8 i a s0 s1 s2 s3 s4) (match numM ((bytesI t).drop i) a with | some (v, n) => (3, (⟨#[]⟩ : ByteArray), v, x1, false, ((i + n : Nat) : Int)) | none => (s0, s1, s2, s3, s4, x8)) := by
 have fin : ∀ (i : Nat) (a : Int), Ev (fun _ : Nat => if a ≤ 999999999 then some ((3 : Int), (⟨#[]⟩ : ByteArray), a, x1, false, (i : Int)) else some (s0, s1, s2, s3, s4, x8)) (match (if a ≤ 999999999 then some (a, 0) else none : Option (Int × Nat)) with | some (v, n) => (3, (⟨#[]⟩ : ByteArray), v, x1, false, ((i + n : Nat) : Int)) | none => (s0, s1, s2, s3, s4, x8)) := by
  intro i a
  by_cases h : a ≤ 999999999
  ·simp only [if_pos h]; exact Ev.now _
  ·simp only [if_neg h]; exact Ev.now _
 induction d with
 | zero =>
  intro i a hi hd h0 h1
  rw [bytes_end t i (by omega), numM]
  refine Ev.step (fun k => ?_) (fin i a)
  simp only [spec_l05Sign.l0]
  rw [if_neg (by omega)]
 | succ d ih =>
  intro i a hi hd h0 h1
  have hr := bt_range t i
  rw [bytes_drop t i (by omega), numM]
  cases hf : figM (bt t i) with
  | false =>
   simp only [Bool.false_eq_true, if_false]
   refine Ev.step (fun k => ?_) (fin i a)
   simp only [spec_l05Sign.l0]
   rw [if_pos (by omega), if_pos (by omega), e_fig5, hf]; rfl
  | true =>
   simp only [if_true]
   have hd' : 48 ≤ bt t i ∧ bt t i ≤ 57 := by simpa [figM] using hf
   by_cases h : a ≤ 999999999
   ·rw [if_pos h]
    refine Ev.step (f := fun k => @spec_l05Sign.l0 i_ss k t x1 x8 ((i + 1 : Nat) : Int) (10 * a + (bt t i - 48)) s0 s1 s2 s3 s4) (fun k => ?_) ?_
    ·simp only [spec_l05Sign.l0]
     rw [if_pos (by omega), if_pos (by omega), e_fig5, hf]
     rw [Option.bind_some, if_pos rfl, if_pos h, w_next i _ (by omega) ht, show wrap64 (wrap64 (wrap64 (10 * a) + wrap64 (bt t i)) - 48) = 10 * a + (bt t i - 48) by unfold wrap64; omega]
    ·have := ih (i + 1) (10 * a + (bt t i - 48)) (by omega) (by omega) (by omega) (by omega)
     cases hn : numM ((bytesI t).drop (i + 1)) (10 * a + (bt t i - 48)) with
     | none => rw [hn] at this; exact this
     | some x =>
      rw [hn] at this
      obtain ⟨v, n⟩ := x
      simp only [Option.map_some]
      rw [show i + (n + 1) = i + 1 + n by omega]
      exact this
   ·rw [if_neg h]
    refine Ev.step (f := fun k => some (s0, s1, s2, s3, s4, x8)) (fun k => ?_) (Ev.now _)
    simp only [spec_l05Sign.l0]
    rw [if_pos (by omega), if_pos (by omega), e_fig5, hf]
    rw [Option.bind_some, if_pos rfl, if_neg h]
theorem numM_zero (l : List Int) (a : Int) (h : span figM l = 0) : numM l a = if a ≤ 999999999 then some (a, 0) else none := by
 cases l with
 | nil => rfl
 | cons c l =>
  rw [span] at h
  rw [numM]
  cases hf : figM c with
  | true => rw [hf] at h; simp at h
  | false => rfl
theorem j2_ev (t : ByteArray) (ht : t.size ≤ 4611686018427387904) (i : Nat) (x8 a : Int) (s1 : ByteArray) (s2 s3 : Int) (s4 : Bool) (hi : i < t.size) (h8 : (i : Int) ≤ x8) (h9 : x8 ≤ t.size) :
  Ev (fun k => @impl_nextSign.j2 i_run i_ib k t i x8 a 0 s1 s2 s3 s4) (if a ≤ 999999999 then (3, s1, a, s3, s4, x8) else (6, t.extract i (i + 1), s2, s3, s4, ((i + 1 : Nat) : Int))) := by
 by_cases h : a ≤ 999999999
 ·rw [if_pos h]
  refine Ev.step (f := fun k => some (3, s1, a, s3, s4, x8)) (fun k => ?_) (Ev.now _)
  simp only [impl_nextSign.j2]
  rw [if_pos h]
 ·rw [if_neg h]
  refine Ev.step (f := fun k => some (6, t.extract i (i + 1), s2, s3, s4, ((i + 1 : Nat) : Int))) (fun k => ?_) (Ev.now _)
  simp only [impl_nextSign.j2]
  rw [if_neg h, if_pos (by omega), if_pos h8, if_pos h9, if_pos trivial, w_next i _ hi ht, if_pos (by omega), if_pos (by omega), Int.toNat_natCast, Int.toNat_natCast]
theorem numI_ev (t : ByteArray) (ht : t.size ≤ 4611686018427387904) (i0 : Nat) (s1 : ByteArray) (s2 s3 : Int) (s4 : Bool) (d : Nat) : ∀ (i : Nat) (a : Int), i0 ≤ i → i0 < t.size → i ≤ t.size → span figM ((bytesI t).drop i) = d → 0 ≤ a → a ≤ 9999999999 →
  Ev (fun k => @impl_nextSign.l0 i_run i_ib k t i0 ((i + d : Nat) : Int) a i 0 s1 s2 s3 s4) (match numM ((bytesI t).drop i) a with | some (v, n) => (3, s1, v, s3, s4, ((i + d : Nat) : Int)) | none => (6, t.extract i0 (i0 + 1), s2, s3, s4, ((i0 + 1 : Nat) : Int))) := by
 induction d with
 | zero =>
  intro i a hi0 hl0 hi hd h0 h1
  rw [numM_zero _ _ hd]
  refine Ev.step (f := fun k => @impl_nextSign.j2 i_run i_ib k t i0 ((i + 0 : Nat) : Int) a 0 s1 s2 s3 s4) (fun k => ?_) ?_
  ·simp only [impl_nextSign.l0]
   rw [if_neg (by omega)]
  ·have := j2_ev t ht i0 ((i + 0 : Nat) : Int) a s1 s2 s3 s4 hl0 (by omega) (by omega)
   by_cases h : a ≤ 999999999
   ·rw [if_pos h] at this ⊢; exact this
   ·rw [if_neg h] at this ⊢; exact this
 | succ d ih =>
  intro i a hi0 hl0 hi hd h0 h1
  have hlt : i < t.size := by
   rcases Nat.lt_or_ge i t.size with h | h
   ·exact h
   ·rw [bytes_end t i h] at hd; simp [span] at hd
  have hr := bt_range t i
  have hsp := span_le figM ((bytesI t).drop i)
  rw [hd, List.length_drop, bytesI_length] at hsp
  rw [bytes_drop t i hlt, span] at hd
  rw [bytes_drop t i hlt, numM]
  cases hf : figM (bt t i) with
  | false => rw [hf] at hd; simp at hd
  | true =>
   rw [hf, if_pos rfl] at hd
   rw [if_pos rfl]
   have hd' : 48 ≤ bt t i ∧ bt t i ≤ 57 := by simpa [figM] using hf
   by_cases h : a ≤ 999999999
   ·rw [if_pos h]
    refine Ev.step (f := fun k => @impl_nextSign.l0 i_run i_ib k t i0 ((i + 1 + d : Nat) : Int) (10 * a + (bt t i - 48)) ((i + 1 : Nat) : Int) 0 s1 s2 s3 s4) (fun k => ?_) ?_
    ·simp only [impl_nextSign.l0]
     rw [if_pos (by omega), if_pos h, if_pos (by omega), if_pos (by omega), w_next i _ hlt ht, show wrap64 (wrap64 (10 * a) + (bt t i - 48) % 256) = 10 * a + (bt t i - 48) by unfold wrap64; omega, show ((i + (d + 1) : Nat) : Int) = ((i + 1 + d : Nat) : Int) by omega]
    ·have := ih (i + 1) (10 * a + (bt t i - 48)) (by omega) hl0 (by omega) (by omega) (by omega) (by omega)
     rw [show i + (d + 1) = i + 1 + d by omega]
     cases hn : numM ((bytesI t).drop (i + 1)) (10 * a + (bt t i - 48)) with
     | none => rw [hn] at this; exact this
     | some x => rw [hn] at this; exact this
   ·rw [if_neg h]
    refine Ev.step (f := fun k => @impl_nextSign.j2 i_run i_ib k t i0 ((i + (d + 1) : Nat) : Int) a 0 s1 s2 s3 s4) (fun k => ?_) ?_
    ·simp only [impl_nextSign.l0]
     rw [if_pos (by omega), if_neg h]
    ·have := j2_ev t ht i0 ((i + (d + 1) : Nat) : Int) a s1 s2 s3 s4 hl0 (by omega) (by omega)
     rw [if_neg h] at this
     exact this
theorem bytesI_cut (t : ByteArray) (i j : Nat) : bytesI (t.extract i j) = ((bytesI t).drop i).take (j - i) := by
 unfold bytesI
 rw [ByteArray.data_extract, Array.toList_extract]
 simp [List.extract_eq_take_drop, List.map_take, List.map_drop]
theorem name_ev (s : ByteArray) (hs : s.size ≤ 4611686018427387904) (d : Nat) : ∀ i : Nat, i ≤ s.size → s.size - i = d →
  Ev (fun k => spec_l03Name.l0 k s i) (((bytesI s).drop i).all q1 && (decide (1 ≤ s.size) && decide (s.size ≤ 20))) := by
 induction d with
 | zero =>
  intro i hi hd
  rw [bytes_end s i (by omega)]
  refine Ev.step (f := fun k => some (decide (1 ≤ s.size) && decide (s.size ≤ 20))) (fun k => ?_) (Ev.now _)
  simp only [spec_l03Name.l0]
  rw [if_neg (by omega)]
  unfold spec_l01In.f
  by_cases h : 1 ≤ s.size
  ·rw [if_pos (by omega), decide_eq_true h]
   show some (decide ((s.size : Int) ≤ 20)) = _
   congr 1
   rw [Bool.true_and]
   exact decide_eq_decide.2 (by omega)
  ·rw [if_neg (by omega), decide_eq_false h]; rfl
 | succ d ih =>
  intro i hi hd
  rw [bytes_drop s i (by omega), List.all_cons]
  cases hq : q1 (bt s i) with
  | true =>
   have h : (33 ≤ bt s i ∧ bt s i ≤ 126) ∧ bt s i ≠ 39 ∧ bt s i ≠ 34 := by simpa [q1, and_assoc] using hq
   refine Ev.step (f := fun k => spec_l03Name.l0 k s ((i + 1 : Nat) : Int)) (fun k => ?_) (ih (i + 1) (by omega) (by omega))
   simp only [spec_l03Name.l0]
   rw [if_pos (by omega), if_pos (by omega), if_neg (by omega), if_neg (by omega), if_neg h.2.1, if_neg h.2.2, w_next i _ (by omega) hs]
  | false =>
   refine Ev.step (f := fun k => some false) (fun k => ?_) (Ev.now _)
   simp only [spec_l03Name.l0]
   rw [if_pos (by omega), if_pos (by omega)]
   by_cases h1 : bt s i < 33
   ·rw [if_pos h1]
   ·rw [if_neg h1]
    by_cases h2 : bt s i > 126
    ·rw [if_pos h2]
    ·rw [if_neg h2]
     by_cases h3 : bt s i = 39
     ·rw [if_pos h3]
     ·rw [if_neg h3]
      by_cases h4 : bt s i = 34
      ·rw [if_pos h4]
      ·exfalso
       unfold q1 at hq
       rw [decide_eq_true (by omega), decide_eq_true (by omega), beq_eq_false_iff_ne.2 h3, beq_eq_false_iff_ne.2 h4] at hq
       simp at hq
def n39 (c : Int) : Bool := !(c == 39)
theorem quoted_ev (t : ByteArray) (ht : t.size ≤ 4611686018427387904) (i0 : Nat) (d : Nat) : ∀ i : Nat, i0 + 1 ≤ i → i ≤ t.size → t.size - i = d →
  Ev (fun k => spec_l05Quoted.l0 k t i0 i) (if i + span n39 ((bytesI t).drop i) < t.size ∧ ((((bytesI t).drop (i0 + 1)).take (i + span n39 ((bytesI t).drop i) - (i0 + 1))).all q1 = true ∧ 1 ≤ i + span n39 ((bytesI t).drop i) - (i0 + 1) ∧ i + span n39 ((bytesI t).drop i) - (i0 + 1) ≤ 20) then ((i + span n39 ((bytesI t).drop i) + 1 : Nat) : Int) else 0) := by
 induction d with
 | zero =>
  intro i hi0 hi hd
  rw [bytes_end t i (by omega)]
  refine Ev.step (f := fun k => some 0) (fun k => ?_) ?_
  ·simp only [spec_l05Quoted.l0]
   rw [if_neg (by omega)]
  ·rw [if_neg (by simp only [span]; omega)]; exact Ev.now _
 | succ d ih =>
  intro i hi0 hi hd
  rw [bytes_drop t i (by omega), span]
  by_cases h : bt t i = 39
  ·have hn : n39 (bt t i) = false := by rw [h]; rfl
   simp only [hn, Bool.false_eq_true, if_false, Nat.add_zero]
   have hz : (t.extract (i0 + 1) i).size = i - (i0 + 1) := by rw [ByteArray.size_extract]; omega
   have hnm := name_ev (t.extract (i0 + 1) i) (by omega) (t.extract (i0 + 1) i).size 0 (by omega) (by omega)
   rw [List.drop_zero, bytesI_cut, hz] at hnm
   refine Ev.step (f := fun k => (spec_l03Name.f k (t.extract (i0 + 1) i)).bind fun t106 => if t106 = true then some (((i + 1 : Nat)) : Int) else some 0) (fun k => ?_) ?_
   ·simp only [spec_l05Quoted.l0]
    rw [if_pos (by omega), if_pos (by omega), if_pos h, w_next i0 _ (by omega) ht, if_pos (by omega), if_pos (by omega), if_pos (by omega), w_next i _ (by omega) ht, Int.toNat_natCast, Int.toNat_natCast]
   ·refine Ev.bind (f := fun _ t106 => if t106 = true then some (((i + 1 : Nat)) : Int) else some 0) (show Ev (fun k => spec_l03Name.f k (t.extract (i0 + 1) i)) _ from hnm) ?_
    cases hx : (((bytesI t).drop (i0 + 1)).take (i - (i0 + 1))).all q1 && (decide (1 ≤ i - (i0 + 1)) && decide (i - (i0 + 1) ≤ 20)) with
    | true =>
     simp only [Bool.and_eq_true, decide_eq_true_eq] at hx
     refine Ev.tt ?_
     rw [if_pos ⟨by omega, hx.1, hx.2⟩]
     exact Ev.now _
    | false =>
     refine Ev.ff ?_
     rw [if_neg (by
      rintro ⟨_, h1, h2, h3⟩
      rw [h1, decide_eq_true h2, decide_eq_true h3] at hx
      exact absurd hx (by decide))]
     exact Ev.now _
  ·have hn : n39 (bt t i) = true := by unfold n39; rw [beq_eq_false_iff_ne.2 h]; rfl
   simp only [hn, if_true]
   refine Ev.step (f := fun k => spec_l05Quoted.l0 k t i0 ((i + 1 : Nat) : Int)) (fun k => ?_) ?_
   ·simp only [spec_l05Quoted.l0]
    rw [if_pos (by omega), if_pos (by omega), if_neg h, w_next i _ (by omega) ht]
   ·have := ih (i + 1) (by omega) (by omega) (by omega)
    rw [show i + (span n39 ((bytesI t).drop (i + 1)) + 1) = i + 1 + span n39 ((bytesI t).drop (i + 1)) by omega]
    exact this
theorem q_span (r : List Int) : ((∃ h : span q1 r < r.length, r[span q1 r] = 39) → span q1 r = span n39 r ∧ span n39 r < r.length ∧ (r.take (span n39 r)).all q1 = true) ∧
  ((span n39 r < r.length ∧ (r.take (span n39 r)).all q1 = true) → ∃ h : span q1 r < r.length, r[span q1 r] = 39) := by
 induction r with
 | nil => exact ⟨fun ⟨h, _⟩ => absurd h (by simp [span]), fun h => absurd h.1 (by simp [span])⟩
 | cons c l ih =>
  cases hq : q1 c with
  | true =>
   have h39 : n39 c = true := by
    unfold n39
    cases hc : c == 39 with
    | false => rfl
    | true => rw [beq_iff_eq.1 hc] at hq; exact absurd hq (by decide)
   have e1 : span q1 (c :: l) = span q1 l + 1 := by rw [span, if_pos hq]
   have e2 : span n39 (c :: l) = span n39 l + 1 := by rw [span, if_pos h39]
   constructor
   ·rintro ⟨h, h2⟩
    simp only [e1, List.length_cons, List.getElem_cons_succ] at h h2
    obtain ⟨h3, h4, h5⟩ := ih.1 ⟨by omega, h2⟩
    rw [e1, e2, List.take_succ_cons, List.all_cons, hq, h5, List.length_cons]
    exact ⟨by omega, by omega, rfl⟩
   ·rintro ⟨h, h2⟩
    rw [e2, List.take_succ_cons, List.all_cons, hq, Bool.true_and] at h2
    rw [e2, List.length_cons] at h
    obtain ⟨h3, h4⟩ := ih.2 ⟨by omega, h2⟩
    exact ⟨by rw [e1, List.length_cons]; omega, by simp only [e1, List.getElem_cons_succ]; exact h4⟩
  | false =>
   have e1 : span q1 (c :: l) = 0 := by rw [span, hq]; rfl
   cases hc : c == 39 with
   | true =>
    have hc' := beq_iff_eq.1 hc
    have e2 : span n39 (c :: l) = 0 := by rw [span]; unfold n39; rw [hc]; rfl
    constructor
    ·rintro _
     rw [e1, e2]
     exact ⟨rfl, by simp, rfl⟩
    ·rintro _
     exact ⟨by rw [e1]; simp, by simp only [e1, List.getElem_cons_zero]; exact hc'⟩
   | false =>
    have e2 : span n39 (c :: l) = span n39 l + 1 := by rw [span]; unfold n39; rw [hc]; rfl
    constructor
    ·rintro ⟨h, h2⟩
     simp only [e1, List.getElem_cons_zero] at h2
     rw [h2] at hc
     exact absurd hc (by decide)
    ·rintro ⟨h, h2⟩
     rw [e2, List.take_succ_cons, List.all_cons, hq] at h2
     exact absurd h2 (by simp)
def prevOf (t : ByteArray) (i : Nat) : Option Int := if i = 0 then none else some (bt t ((i : Int) - 1))
theorem ib_lit (b : Int) (h0 : 0 ≤ b) (h1 : b ≤ 255) : decide (Lib.indexByte [32, 9, 10, 37] b.toNat.toUInt8 ≥ 0) = (blankM b || b == 37) := by
 rw [index_any _ b h0 h1]
 unfold blankM
 simp only [List.any_cons, List.any_nil, Bool.or_false]
 rw [Bool.eq_iff_iff]
 simp only [Bool.or_eq_true, beq_iff_eq]
 constructor <;> intro h <;> (simp at h ⊢; omega)
theorem ib_mark (b : Int) (h0 : 0 ≤ b) (h1 : b ≤ 255) : decide (Lib.indexByte [40, 41, 91, 93, 44, 124] b.toNat.toUInt8 ≥ 0) = markM b := by
 rw [index_any _ b h0 h1]
 unfold markM
 simp only [List.any_cons, List.any_nil, Bool.or_false]
 rw [Bool.eq_iff_iff]
 simp only [Bool.or_eq_true, beq_iff_eq]
 constructor <;> intro h <;> (simp at h ⊢; omega)
theorem endM_at (t : ByteArray) (i : Nat) (hi : i < t.size) : endM (prevOf t i) ((bytesI t).drop i) = (bt t i == 46 && !((prevOf t i).any symB) && (if i + 1 = t.size then true else blankM (bt t ((i + 1 : Nat) : Int)) || bt t ((i + 1 : Nat) : Int) == 37)) := by
 rw [bytes_drop t i hi]
 unfold endM
 by_cases h : i + 1 = t.size
 ·rw [bytes_end t (i + 1) (by omega), if_pos h]
 ·rw [bytes_drop t (i + 1) (by omega), if_neg h]
theorem end5_ev (t : ByteArray) (ht : t.size ≤ 4611686018427387904) (i k : Nat) (hi : i < t.size) : @spec_l05End.f i_ss k t i = some (endM (prevOf t i) ((bytesI t).drop i)) := by
 rw [endM_at t i hi]
 have hn := w_next i _ hi ht
 unfold spec_l05End.f
 rw [if_pos (by omega), if_pos (by omega)]
 by_cases h : bt t i = 46
 ·rw [if_pos h, h, hn]
  have tail : (if ((i + 1 : Nat) : Int) = (t.size : Int) then some true else (if 0 ≤ ((i + 1 : Nat) : Int) then (if ((i + 1 : Nat) : Int) < (t.size : Int) then ((spec_l05Blank.f (bt t ((i + 1 : Nat) : Int))).bind fun t107 => (if t107 = true then (some true) else (some ((bt t ((i + 1 : Nat) : Int)) == 37)))) else none) else none)) = some (if i + 1 = t.size then true else blankM (bt t ((i + 1 : Nat) : Int)) || bt t ((i + 1 : Nat) : Int) == 37) := by
   by_cases h2 : i + 1 = t.size
   ·rw [if_pos (by omega), if_pos h2]
   ·rw [if_neg (by omega), if_neg h2, if_pos (by omega), if_pos (by omega), e_blank, Option.bind_some]
    cases blankM (bt t ((i + 1 : Nat) : Int)) <;> rfl
  by_cases h0 : i = 0
  ·rw [if_pos (by omega), tail]
   simp [prevOf, h0]
  ·rw [if_neg (by omega), show wrap64 ((i : Int) - 1) = i - 1 by unfold wrap64; omega, if_pos (by omega), if_pos (by omega)]
   show (some (symB (bt t ((i : Int) - 1)))).bind _ = _
   rw [Option.bind_some]
   simp only [prevOf, if_neg h0, Option.any_some]
   cases symB (bt t ((i : Int) - 1)) with
   | true => rfl
   | false => rw [if_neg (by decide), tail]; rfl
 ·rw [if_neg h, beq_eq_false_iff_ne.2 h]; rfl
theorem endI_ev (t : ByteArray) (ht : t.size ≤ 4611686018427387904) (i k : Nat) (hi : i < t.size) : @impl_endsHere.f i_ib k t i = some (endM (prevOf t i) ((bytesI t).drop i)) := by
 rw [endM_at t i hi]
 have hn := w_next i _ hi ht
 unfold impl_endsHere.f
 rw [if_pos (by omega), if_pos (by omega)]
 by_cases h : bt t i = 46
 ·rw [if_pos h, h, hn]
  have tail : (if ((i + 1 : Nat) : Int) = (t.size : Int) then some true else (if 0 ≤ ((i + 1 : Nat) : Int) then (if ((i + 1 : Nat) : Int) < (t.size : Int) then ((i_ib.f k (⟨#[32, 9, 10, 37]⟩ : ByteArray) (bt t ((i + 1 : Nat) : Int))).bind fun t107 => (some (decide (t107 ≥ 0)))) else none) else none)) = some (if i + 1 = t.size then true else blankM (bt t ((i + 1 : Nat) : Int)) || bt t ((i + 1 : Nat) : Int) == 37) := by
   have hr := bt_range t ((i + 1 : Nat) : Int)
   by_cases h2 : i + 1 = t.size
   ·rw [if_pos (by omega), if_pos h2]
   ·rw [if_neg (by omega), if_neg h2, if_pos (by omega), if_pos (by omega), ← ib_lit _ hr.1 hr.2]
    rfl
  by_cases h0 : i = 0
  ·rw [if_neg (by omega), tail]
   simp [prevOf, h0]
  ·have hr := bt_range t ((i : Int) - 1)
   rw [if_pos (by omega), show wrap64 ((i : Int) - 1) = i - 1 by unfold wrap64; omega, if_pos (by omega), if_pos (by omega), e_sym _ _ hr.1 hr.2]
   rw [Option.bind_some]
   simp only [prevOf, if_neg h0, Option.any_some]
   cases symB (bt t ((i : Int) - 1)) with
   | true => rfl
   | false => rw [if_neg (by decide), tail]; rfl
 ·rw [if_neg h, beq_eq_false_iff_ne.2 h]; rfl
theorem cut_none (t : ByteArray) (i : Nat) : t.extract (i + 0) (i + 0) = (⟨#[]⟩ : ByteArray) := by
 apply ByteArray.ext
 rw [ByteArray.data_extract]
 simp [Array.extract_eq_empty_iff]
 exact Nat.min_le_left _ _
theorem sym5_ev (t : ByteArray) (ht : t.size ≤ 4611686018427387904) (i0 : Nat) (x8 s0 : Int) (s1 : ByteArray) (s2 s3 : Int) (s4 : Bool) (d : Nat) : ∀ i : Nat, i0 ≤ i → i ≤ t.size → t.size - i = d →
  Ev (fun k => @spec_l05Sign.l1 i_ss k t i0 x8 i s0 s1 s2 s3 s4) (if i + span symB ((bytesI t).drop i) - i0 ≤ 20 then (1, t.extract i0 (i + span symB ((bytesI t).drop i)), s2, s3, s4, ((i + span symB ((bytesI t).drop i) : Nat) : Int)) else (s0, s1, s2, s3, s4, x8)) := by
 have fin : ∀ i : Nat, i0 ≤ i → i ≤ t.size → Ev (fun _ : Nat => if (wrap64 ((i : Int) - i0)) ≤ 20 then (if 0 ≤ (i0 : Int) then (if (i0 : Int) ≤ i then (if (i : Int) ≤ (t.size : Int) then (some (1, t.extract (i0 : Int).toNat (i : Int).toNat, s2, s3, s4, (i : Int))) else none) else none) else none) else (some (s0, s1, s2, s3, s4, x8))) (if i - i0 ≤ 20 then ((1 : Int), t.extract i0 i, s2, s3, s4, (i : Int)) else (s0, s1, s2, s3, s4, x8)) := by
  intro i h0 h1
  have hw : wrap64 ((i : Int) - i0) = i - i0 := by unfold wrap64; omega
  rw [hw]
  by_cases h : i - i0 ≤ 20
  ·rw [if_pos h, if_pos (by omega), if_pos (by omega), if_pos (by omega), if_pos (by omega), Int.toNat_natCast, Int.toNat_natCast]; exact Ev.now _
  ·rw [if_neg h, if_neg (by omega)]; exact Ev.now _
 induction d with
 | zero =>
  intro i hi0 hi hd
  rw [bytes_end t i (by omega)]
  exact Ev.step (fun k => by simp only [spec_l05Sign.l1]; rw [if_neg (by omega)]) (fin i hi0 hi)
 | succ d ih =>
  intro i hi0 hi hd
  rw [bytes_drop t i (by omega), span]
  cases hs : symB (bt t i) with
  | true =>
   simp only [if_true]
   refine Ev.step (f := fun k => @spec_l05Sign.l1 i_ss k t i0 x8 ((i + 1 : Nat) : Int) s0 s1 s2 s3 s4) (fun k => ?_) ?_
   ·simp only [spec_l05Sign.l1]
    rw [if_pos (by omega), if_pos (by omega), w_next i _ (by omega) ht]
    show (some (symB (bt t i))).bind _ = _
    rw [hs]; rfl
   ·have := ih (i + 1) (by omega) (by omega) (by omega)
    rw [show i + (span symB ((bytesI t).drop (i + 1)) + 1) = i + 1 + span symB ((bytesI t).drop (i + 1)) by omega]
    exact this
  | false =>
   simp only [Bool.false_eq_true, if_false, Nat.add_zero]
   refine Ev.step (fun k => ?_) (fin i hi0 hi)
   simp only [spec_l05Sign.l1]
   rw [if_pos (by omega), if_pos (by omega)]
   show (some (symB (bt t i))).bind _ = _
   rw [hs]; rfl
theorem q_cut (t : ByteArray) (i : Nat) (hi : i < t.size) (n : Nat) : (i + 1 + n < t.size ↔ n < ((bytesI t).drop (i + 1)).length) := by
 rw [List.length_drop, bytesI_length]; omega
theorem sign5_ev (t : ByteArray) (ht : t.size ≤ 4611686018427387904) (i : Nat) (hi : i < t.size) : Ev (fun k => @spec_l05Sign.f i_ss k t i) (toSign t i (signM (prevOf t i) ((bytesI t).drop i))) := by
 have hn := w_next i _ hi ht
 have hr := bt_range t i
 have hend := fun k => end5_ev t ht i k hi
 have hl : (bytesI t).drop i = bt t i :: (bytesI t).drop (i + 1) := bytes_drop t i hi
 have bad : toSign t i (6, 0, 1, 0, 1) = (6, t.extract i (i + 1), 0, (i : Int), false, ((i + 1 : Nat) : Int)) := rfl
 have one : ∀ m : Int, toSign t i (m, 0, 1, 0, 1) = (m, t.extract i (i + 1), 0, (i : Int), false, ((i + 1 : Nat) : Int)) := fun m => rfl
 unfold spec_l05Sign.f
 refine Ev.pos (by omega) (Ev.pos (by omega) ?_)
 rw [hn]
 refine Ev.pos (by omega) (Ev.pos (by omega) ?_)
 simp only [Int.toNat_natCast, e_small, Option.bind_some, e_great]
 have hj : ∀ x : Bool, x = (smallM (bt t i) || (upM (bt t i) || bt t i == 95)) → Ev (fun k => @spec_l05Sign.j0 i_ss k t i (bt t i) ((i + 1 : Nat) : Int) x 6 (t.extract i (i + 1)) 0 i false) (toSign t i (signM (prevOf t i) ((bytesI t).drop i))) := by
  intro x hx
  cases x with
  | true =>
   have hq : signM (prevOf t i) ((bytesI t).drop i) = if span wordM ((bytesI t).drop i) ≤ 20 then (if smallM (bt t i) then 1 else 2, 0, span wordM ((bytesI t).drop i), 0, span wordM ((bytesI t).drop i)) else (6, 0, 1, 0, 1) := by
    rw [hl]; show signC _ _ _ = _; unfold signC; rw [if_pos hx.symm]
   rw [hq]
   have hs := span_le wordM ((bytesI t).drop i)
   rw [List.length_drop, bytesI_length] at hs
   refine Ev.step (fun k => by simp only [spec_l05Sign.j0, if_true] <;> rfl) ?_
   refine Ev.bind (show Ev (fun k => spec_l05Run.f k t i) _ from run5_ev t ht _ i (by omega) rfl) ?_
   rw [show wrap64 (((i + span wordM ((bytesI t).drop i) : Nat) : Int) - i) = (span wordM ((bytesI t).drop i) : Int) by unfold wrap64; omega]
   by_cases h20 : span wordM ((bytesI t).drop i) ≤ 20
   ·refine Ev.pos (by omega) ?_
    rw [if_pos h20, e_great]
    refine Ev.put ?_
    have hsm : (upM (bt t i) || bt t i == 95) = !smallM (bt t i) := by
     cases h1 : smallM (bt t i) with
     | false => rw [h1] at hx; simpa using hx.symm
     | true =>
      have h2 : 97 ≤ bt t i ∧ bt t i ≤ 122 := by simpa [smallM] using h1
      have h3 : upM (bt t i) = false := by unfold upM; rw [decide_eq_false (p := bt t i ≤ 90) (by omega), Bool.and_false]
      rw [h3, beq_eq_false_iff_ne.2 (by omega)]; rfl
    rw [hsm]
    cases smallM (bt t i) with
    | false =>
     refine Ev.tt (Ev.pos (by omega) (Ev.pos (by omega) (Ev.pos (by omega) ?_)))
     rw [Int.toNat_natCast, Int.toNat_natCast]
     exact Ev.now _
    | true =>
     refine Ev.ff (Ev.pos (by omega) (Ev.pos (by omega) (Ev.pos (by omega) ?_)))
     rw [Int.toNat_natCast, Int.toNat_natCast]
     exact Ev.now _
   ·refine Ev.neg (by omega) ?_
    rw [if_neg h20, bad]
    exact Ev.now _
  | false =>
   by_cases hf : figM (bt t i) = true
   ·have hq : signM (prevOf t i) ((bytesI t).drop i) = (match numM ((bytesI t).drop i) 0 with
     | some (v, n) => (3, 0, 0, v, n)
     | none => (6, 0, 1, 0, 1)) := by
     rw [hl]; show signC _ _ _ = _; unfold signC; rw [← hx, if_neg (by decide), if_pos hf]
    rw [hq]
    have := num5_ev t ht i ((i + 1 : Nat) : Int) 6 (t.extract i (i + 1)) 0 i false _ i 0 (by omega) rfl (by omega) (by omega)
    refine Ev.step (f := fun k => @spec_l05Sign.l0 i_ss k t i ((i + 1 : Nat) : Int) i 0 6 (t.extract i (i + 1)) 0 i false) (fun k => ?_) ?_
    ·simp only [spec_l05Sign.j0, Bool.false_eq_true, if_false, e_fig5, hf, Option.bind_some, if_true]
    ·cases hm : numM ((bytesI t).drop i) 0 with
     | none => rw [hm] at this; exact this
     | some x =>
      obtain ⟨v, n⟩ := x
      rw [hm] at this
      show Ev _ ((3 : Int), t.extract (i + 0) (i + 0), v, (i : Int), false, ((i + n : Nat) : Int))
      rw [cut_none]
      exact this
   ·have hf' : figM (bt t i) = false := by simpa using hf
    by_cases h39 : bt t i = 39
    ·have hq : signM (prevOf t i) ((bytesI t).drop i) = if span n39 ((bytesI t).drop (i + 1)) < ((bytesI t).drop (i + 1)).length ∧ (((bytesI t).drop (i + 1)).take (span n39 ((bytesI t).drop (i + 1)))).all q1 = true ∧ 1 ≤ span n39 ((bytesI t).drop (i + 1)) ∧ span n39 ((bytesI t).drop (i + 1)) ≤ 20 then (1, 1, span n39 ((bytesI t).drop (i + 1)) + 1, 0, span n39 ((bytesI t).drop (i + 1)) + 2) else (6, 0, 1, 0, 1) := by
      rw [hl]; show signC _ _ _ = _; unfold signC; rw [← hx, if_neg (by decide), if_neg hf, if_pos (by rw [h39]; rfl)]; rfl
     rw [hq]
     have hquo := quoted_ev t ht i _ (i + 1) (by omega) (by omega) rfl
     simp only [show i + 1 + span n39 ((bytesI t).drop (i + 1)) - (i + 1) = span n39 ((bytesI t).drop (i + 1)) by omega, q_cut t i hi] at hquo
     refine Ev.step (fun k => by simp only [spec_l05Sign.j0, Bool.false_eq_true, if_false, e_fig5, hf', Option.bind_some, if_pos h39] <;> rfl) ?_
     refine Ev.bind (show Ev (fun k => spec_l05Quoted.f k t i) _ by unfold spec_l05Quoted.f; rw [hn]; exact hquo) ?_
     have hs := span_le n39 ((bytesI t).drop (i + 1))
     rw [List.length_drop, bytesI_length] at hs
     by_cases hc : span n39 ((bytesI t).drop (i + 1)) < ((bytesI t).drop (i + 1)).length ∧ (((bytesI t).drop (i + 1)).take (span n39 ((bytesI t).drop (i + 1)))).all q1 = true ∧ 1 ≤ span n39 ((bytesI t).drop (i + 1)) ∧ span n39 ((bytesI t).drop (i + 1)) ≤ 20
     ·rw [if_pos hc, if_pos hc]
      have hc1 := hc.1
      rw [List.length_drop, bytesI_length] at hc1
      rw [show wrap64 (((i + 1 + span n39 ((bytesI t).drop (i + 1)) + 1 : Nat) : Int) - 1) = ((i + 1 + span n39 ((bytesI t).drop (i + 1)) : Nat) : Int) by unfold wrap64; omega, hn]
      refine Ev.pos (by omega) (Ev.pos (by omega) (Ev.pos (by omega) (Ev.pos (by omega) ?_)))
      rw [Int.toNat_natCast, Int.toNat_natCast]
      show Ev _ ((1 : Int), t.extract (i + 1) (i + (span n39 ((bytesI t).drop (i + 1)) + 1)), (0 : Int), (i : Int), false, ((i + (span n39 ((bytesI t).drop (i + 1)) + 2) : Nat) : Int))
      rw [show i + (span n39 ((bytesI t).drop (i + 1)) + 1) = i + 1 + span n39 ((bytesI t).drop (i + 1)) by omega, show i + (span n39 ((bytesI t).drop (i + 1)) + 2) = i + 1 + span n39 ((bytesI t).drop (i + 1)) + 1 by omega]
      exact Ev.now _
     ·rw [if_neg hc, if_neg hc, bad]
      exact Ev.neg (by omega) (Ev.now _)
    ·have h39' : (bt t i == 39) = false := beq_eq_false_iff_ne.2 h39
     have hj2 : ∀ y : Bool, y = (bt t i == 33 || bt t i == 59) → Ev (fun k => @spec_l05Sign.j2 i_ss k t i (bt t i) ((i + 1 : Nat) : Int) y 6 (t.extract i (i + 1)) 0 i false) (toSign t i (signM (prevOf t i) ((bytesI t).drop i))) := by
      intro y hy
      have hq : signM (prevOf t i) ((bytesI t).drop i) = if y then (1, 0, 1, 0, 1) else if markM (bt t i) then (4, 0, 1, 0, 1) else if endM (prevOf t i) ((bytesI t).drop i) then (5, 0, 1, 0, 1) else if symB (bt t i) then (if span symB ((bytesI t).drop i) ≤ 20 then (1, 0, span symB ((bytesI t).drop i), 0, span symB ((bytesI t).drop i)) else (6, 0, 1, 0, 1)) else (6, 0, 1, 0, 1) := by
       rw [hl]; show signC _ _ _ = _; unfold signC; rw [← hx, if_neg (by decide), if_neg hf, if_neg (by rw [h39']; decide), ← hy]
      rw [hq]
      cases y with
      | true =>
       refine Ev.step (f := fun k => some (1, t.extract i (i + 1), 0, (i : Int), false, ((i + 1 : Nat) : Int))) (fun k => by simp only [spec_l05Sign.j2, if_true]) ?_
       rw [if_pos rfl, one]
       exact Ev.now _
      | false =>
       rw [if_neg (by decide)]
       have hj3 : ∀ z : Bool, z = markM (bt t i) → Ev (fun k => @spec_l05Sign.j3 i_ss k t i (bt t i) ((i + 1 : Nat) : Int) z 6 (t.extract i (i + 1)) 0 i false) (toSign t i (if markM (bt t i) then (4, 0, 1, 0, 1) else if endM (prevOf t i) ((bytesI t).drop i) then (5, 0, 1, 0, 1) else if symB (bt t i) then (if span symB ((bytesI t).drop i) ≤ 20 then (1, 0, span symB ((bytesI t).drop i), 0, span symB ((bytesI t).drop i)) else (6, 0, 1, 0, 1)) else (6, 0, 1, 0, 1))) := by
        intro z hz
        rw [← hz]
        cases z with
        | true =>
         refine Ev.step (f := fun k => some (4, t.extract i (i + 1), 0, (i : Int), false, ((i + 1 : Nat) : Int))) (fun k => by simp only [spec_l05Sign.j3, if_true]) ?_
         rw [if_pos rfl, one]
         exact Ev.now _
        | false =>
         rw [if_neg (by decide)]
         cases he : endM (prevOf t i) ((bytesI t).drop i) with
         | true =>
          refine Ev.step (f := fun k => some (5, t.extract i (i + 1), 0, (i : Int), false, ((i + 1 : Nat) : Int))) (fun k => ?_) ?_
          ·simp only [spec_l05Sign.j3, Bool.false_eq_true, if_false, hend, he, Option.bind_some]; rfl
          ·rw [if_pos rfl, one]
           exact Ev.now _
         | false =>
          rw [if_neg (by decide)]
          cases hs : symB (bt t i) with
          | true =>
           rw [if_pos rfl]
           refine Ev.step (f := fun k => @spec_l05Sign.l1 i_ss k t i ((i + 1 : Nat) : Int) i 6 (t.extract i (i + 1)) 0 i false) (fun k => ?_) ?_
           ·simp only [spec_l05Sign.j3, Bool.false_eq_true, if_false, hend, he, Option.bind_some]
            show (some (symB (bt t i))).bind _ = _
            rw [hs]; rfl
           ·have := sym5_ev t ht i ((i + 1 : Nat) : Int) 6 (t.extract i (i + 1)) 0 i false _ i (by omega) (by omega) rfl
            rw [show i + span symB ((bytesI t).drop i) - i = span symB ((bytesI t).drop i) by omega] at this
            by_cases h20 : span symB ((bytesI t).drop i) ≤ 20
            ·rw [if_pos h20] at this ⊢; exact this
            ·rw [if_neg h20] at this ⊢; exact this
          | false =>
           rw [if_neg (by decide), bad]
           refine Ev.step (f := fun k => some (6, t.extract i (i + 1), 0, (i : Int), false, ((i + 1 : Nat) : Int))) (fun k => ?_) (Ev.now _)
           simp only [spec_l05Sign.j3, Bool.false_eq_true, if_false, hend, he, Option.bind_some]
           show (some (symB (bt t i))).bind _ = _
           rw [hs]; rfl
       by_cases m1 : bt t i = 40
       ·exact Ev.step (fun k => by simp only [spec_l05Sign.j2, Bool.false_eq_true, if_false, if_pos m1] <;> rfl) (hj3 true (by rw [m1]; rfl))
       by_cases m2 : bt t i = 41
       ·exact Ev.step (fun k => by simp only [spec_l05Sign.j2, Bool.false_eq_true, if_false, if_neg m1, if_pos m2] <;> rfl) (hj3 true (by rw [m2]; rfl))
       by_cases m3 : bt t i = 91
       ·exact Ev.step (fun k => by simp only [spec_l05Sign.j2, Bool.false_eq_true, if_false, if_neg m1, if_neg m2, if_pos m3] <;> rfl) (hj3 true (by rw [m3]; rfl))
       by_cases m4 : bt t i = 93
       ·exact Ev.step (fun k => by simp only [spec_l05Sign.j2, Bool.false_eq_true, if_false, if_neg m1, if_neg m2, if_neg m3, if_pos m4] <;> rfl) (hj3 true (by rw [m4]; rfl))
       by_cases m5 : bt t i = 44
       ·exact Ev.step (fun k => by simp only [spec_l05Sign.j2, Bool.false_eq_true, if_false, if_neg m1, if_neg m2, if_neg m3, if_neg m4, if_pos m5] <;> rfl) (hj3 true (by rw [m5]; rfl))
       refine Ev.step (fun k => by simp only [spec_l05Sign.j2, Bool.false_eq_true, if_false, if_neg m1, if_neg m2, if_neg m3, if_neg m4, if_neg m5] <;> rfl) (hj3 (bt t i == 124) ?_)
       unfold markM
       rw [beq_eq_false_iff_ne.2 m1, beq_eq_false_iff_ne.2 m2, beq_eq_false_iff_ne.2 m3, beq_eq_false_iff_ne.2 m4, beq_eq_false_iff_ne.2 m5]
       rfl
     by_cases h33 : bt t i = 33
     ·refine Ev.step (fun k => by simp only [spec_l05Sign.j0, Bool.false_eq_true, if_false, e_fig5, hf', Option.bind_some, if_neg h39, if_pos h33] <;> rfl) (hj2 true ?_)
      rw [h33]; rfl
     ·refine Ev.step (fun k => by simp only [spec_l05Sign.j0, Bool.false_eq_true, if_false, e_fig5, hf', Option.bind_some, if_neg h39, if_neg h33] <;> rfl) (hj2 (bt t i == 59) ?_)
      rw [beq_eq_false_iff_ne.2 h33]; rfl
 cases hs : smallM (bt t i) with
 | true => exact Ev.tt (hj true (by rw [hs]; rfl))
 | false => exact Ev.ff (hj _ (by rw [hs]; rfl))
theorem irun_ev (n : Int) (g : Nat → Int → Option Bool) (p : Int → Bool) (hi : ∀ k t a, i_run.f k t a n = runL g k t a) (hg : ∀ k b, 0 ≤ b → b ≤ 255 → g k b = some (p b)) (t : ByteArray) (ht : t.size ≤ 4611686018427387904) (i : Nat) (hl : i ≤ t.size) :
  Ev (fun k => i_run.f k t i n) ((i + span p ((bytesI t).drop i) : Nat) : Int) := Ev.congr (fun k => hi k t i) (run_ev g p hg t ht _ i hl rfl)
theorem irun_word (t : ByteArray) (ht : t.size ≤ 4611686018427387904) (i : Nat) (hl : i ≤ t.size) : Ev (fun k => i_run.f k t i 73) ((i + span wordM ((bytesI t).drop i) : Nat) : Int) :=
 irun_ev _ (fun _ b => impl_wordByte.f b) wordM (fun _ _ _ => rfl) (fun _ b _ _ => e_word b) t ht i hl
theorem irun_fig (t : ByteArray) (ht : t.size ≤ 4611686018427387904) (i : Nat) (hl : i ≤ t.size) : Ev (fun k => i_run.f k t i 74) ((i + span figM ((bytesI t).drop i) : Nat) : Int) :=
 irun_ev _ (fun _ b => impl_figure.f b) figM (fun _ _ _ => rfl) (fun _ b _ _ => e_fig b) t ht i hl
theorem irun_sym (t : ByteArray) (ht : t.size ≤ 4611686018427387904) (i : Nat) (hl : i ≤ t.size) : Ev (fun k => i_run.f k t i 14) ((i + span symB ((bytesI t).drop i) : Nat) : Int) :=
 irun_ev _ (fun k b => @impl_SymbolByte.f i_ib k b) symB (fun _ _ _ => rfl) (fun k b h0 h1 => e_sym k b h0 h1) t ht i hl
theorem irun_q1 (t : ByteArray) (ht : t.size ≤ 4611686018427387904) (i : Nat) (hl : i ≤ t.size) : Ev (fun k => i_run.f k t i 75) ((i + span q1 ((bytesI t).drop i) : Nat) : Int) :=
 irun_ev _ (fun _ b => if 0 ≤ b ∧ b ≤ 255 then some (q1 b) else none) q1 (fun _ _ _ => rfl) (fun _ b h0 h1 => if_pos ⟨h0, h1⟩) t ht i hl
theorem irun_nl (t : ByteArray) (ht : t.size ≤ 4611686018427387904) (i : Nat) (hl : i ≤ t.size) : Ev (fun k => i_run.f k t i 56) ((i + span (fun b => !(b == 10)) ((bytesI t).drop i) : Nat) : Int) :=
 irun_ev _ (fun _ b => some (!(b == 10))) _ (fun _ _ _ => rfl) (fun _ b _ _ => rfl) t ht i hl
theorem cut_one (t : ByteArray) (i : Nat) (hi : i < t.size) (h : bt t i = 46) : t.extract i (i + 1) = (⟨#[46]⟩ : ByteArray) := by
 have h1 : bytesI (t.extract i (i + 1)) = [46] := by
  rw [bytesI_cut, bytes_drop t i hi, show i + 1 - i = 1 by omega, h]; rfl
 have h2 : (t.extract i (i + 1)).data.toList = [46] := by
  unfold bytesI at h1
  cases hx : (t.extract i (i + 1)).data.toList with
  | nil => rw [hx] at h1; cases h1
  | cons b l =>
   rw [hx] at h1
   cases l with
   | cons c l => simp at h1
   | nil =>
    simp only [List.map_cons, List.map_nil, List.cons.injEq, and_true] at h1
    have : b = 46 := by
     apply UInt8.toNat_inj.1
     show b.toNat = 46
     omega
    rw [this]
 apply ByteArray.ext
 apply Array.toList_inj.1
 exact h2
theorem signI_ev (t : ByteArray) (ht : t.size ≤ 4611686018427387904) (i : Nat) (hi : i < t.size) : Ev (fun k => @impl_nextSign.f i_run i_ib k t i) (toSign t i (signM (prevOf t i) ((bytesI t).drop i))) := by
 letI := i_run
 letI := i_ib
 have hn := w_next i _ hi ht
 have hr := bt_range t i
 have hl : (bytesI t).drop i = bt t i :: (bytesI t).drop (i + 1) := bytes_drop t i hi
 have bad : toSign t i (6, 0, 1, 0, 1) = (6, t.extract i (i + 1), 0, (i : Int), false, ((i + 1 : Nat) : Int)) := rfl
 have one : ∀ m : Int, toSign t i (m, 0, 1, 0, 1) = (m, t.extract i (i + 1), 0, (i : Int), false, ((i + 1 : Nat) : Int)) := fun m => rfl
 have len : ∀ n : Nat, i + n ≤ t.size → ((t.extract i (i + n)).size : Int) = n := fun n h => by rw [ByteArray.size_extract, Nat.min_eq_left h]; omega
 unfold impl_nextSign.f
 refine Ev.pos (by omega) (Ev.pos (by omega) ?_)
 refine Ev.congr (f := fun k => (some (endM (prevOf t i) ((bytesI t).drop i))).bind fun t148 => _) (fun k => by rw [endI_ev t ht i k hi]) ?_
 simp only [Option.bind_some, e_lower, e_upper, hn]
 cases he : endM (prevOf t i) ((bytesI t).drop i) with
 | true =>
  have h46 : bt t i = 46 := by
   rw [endM_at t i hi] at he
   simp only [Bool.and_eq_true, beq_iff_eq] at he
   exact he.1.1
  have hq : signM (prevOf t i) ((bytesI t).drop i) = (5, 0, 1, 0, 1) := by
   rw [hl]; show signC _ _ _ = _; unfold signC; rw [← hl, he, h46]; rfl
  rw [hq, one, cut_one t i hi h46]
  exact Ev.tt (Ev.now _)
 | false =>
  refine Ev.ff ?_
  have hj : ∀ x : Bool, x = (smallM (bt t i) || (upM (bt t i) || bt t i == 95)) → Ev (fun k => impl_nextSign.j0 k t i (bt t i) ((i + 1 : Nat) : Int) x 0 (⟨#[]⟩ : ByteArray) 0 i false) (toSign t i (signM (prevOf t i) ((bytesI t).drop i))) := by
   intro x hx
   cases x with
   | true =>
    have hq : signM (prevOf t i) ((bytesI t).drop i) = if span wordM ((bytesI t).drop i) ≤ 20 then (if smallM (bt t i) then 1 else 2, 0, span wordM ((bytesI t).drop i), 0, span wordM ((bytesI t).drop i)) else (6, 0, 1, 0, 1) := by
     rw [hl]; show signC _ _ _ = _; unfold signC; rw [if_pos hx.symm]
    rw [hq]
    have hs := span_le wordM ((bytesI t).drop i)
    rw [List.length_drop, bytesI_length] at hs
    refine Ev.step (fun k => by simp only [impl_nextSign.j0, if_true, e_lower, Option.bind_some] <;> rfl) ?_
    refine Ev.bind (irun_word t ht i (by omega)) ?_
    simp only [Int.toNat_natCast, len _ (show i + span wordM ((bytesI t).drop i) ≤ t.size by omega)]
    cases smallM (bt t i) with
    | true =>
     refine Ev.tt (Ev.pos (by omega) (Ev.pos (by omega) (Ev.pos (by omega) (Ev.neg (by decide) (Ev.neg (by decide) ?_)))))
     by_cases h20 : span wordM ((bytesI t).drop i) ≤ 20
     ·rw [if_pos h20]
      exact Ev.neg (by omega) (Ev.now _)
     ·rw [if_neg h20, bad]
      refine Ev.pos (by omega) ?_
      rw [hn]
      refine Ev.pos (by omega) (Ev.pos (by omega) ?_)
      exact Ev.now _
    | false =>
     refine Ev.ff (Ev.pos (by omega) (Ev.pos (by omega) (Ev.pos (by omega) (Ev.neg (by decide) (Ev.neg (by decide) ?_)))))
     by_cases h20 : span wordM ((bytesI t).drop i) ≤ 20
     ·rw [if_pos h20]
      exact Ev.neg (by omega) (Ev.now _)
     ·rw [if_neg h20, bad]
      refine Ev.pos (by omega) ?_
      rw [hn]
      refine Ev.pos (by omega) (Ev.pos (by omega) ?_)
      exact Ev.now _
   | false =>
    by_cases hf : figM (bt t i) = true
    ·have hq : signM (prevOf t i) ((bytesI t).drop i) = (match numM ((bytesI t).drop i) 0 with
      | some (v, n) => (3, 0, 0, v, n)
      | none => (6, 0, 1, 0, 1)) := by
      rw [hl]; show signC _ _ _ = _; unfold signC; rw [← hx, if_neg (by decide), if_pos hf]
     rw [hq]
     have := numI_ev t ht i (⟨#[]⟩ : ByteArray) 0 i false _ i 0 (by omega) (by omega) (by omega) rfl (by omega) (by omega)
     refine Ev.step (fun k => by simp only [impl_nextSign.j0, Bool.false_eq_true, if_false, e_fig, hf, Option.bind_some, if_true] <;> rfl) ?_
     refine Ev.bind (irun_fig t ht i (by omega)) ?_
     cases hm : numM ((bytesI t).drop i) 0 with
     | none => rw [hm] at this; exact this
     | some x =>
      obtain ⟨v, n⟩ := x
      have hlen := (numM_len _ _ _ _ hm).1
      rw [hm] at this
      show Ev _ ((3 : Int), t.extract (i + 0) (i + 0), v, (i : Int), false, ((i + n : Nat) : Int))
      rw [cut_none, hlen]
      exact this
    ·have hf' : figM (bt t i) = false := by simpa using hf
     cases hs : symB (bt t i) with
     | true =>
      have hb : bt t i ≠ 39 ∧ bt t i ≠ 33 ∧ bt t i ≠ 59 ∧ markM (bt t i) = false := by
       have := List.any_eq_true.1 hs
       obtain ⟨c, hc, h⟩ := this
       have h := beq_iff_eq.1 h
       subst h
       revert hc
       generalize bt t i = c
       intro hc
       simp only [symL, List.mem_cons, List.not_mem_nil, or_false] at hc
       rcases hc with rfl | rfl | rfl | rfl | rfl | rfl | rfl | rfl | rfl | rfl | rfl | rfl | rfl | rfl | rfl | rfl | rfl <;> decide
      have hq : signM (prevOf t i) ((bytesI t).drop i) = if span symB ((bytesI t).drop i) ≤ 20 then (1, 0, span symB ((bytesI t).drop i), 0, span symB ((bytesI t).drop i)) else (6, 0, 1, 0, 1) := by
       rw [hl]; show signC _ _ _ = _; unfold signC
       rw [← hx, if_neg (by decide), if_neg hf, if_neg (by rw [beq_eq_false_iff_ne.2 hb.1]; decide), if_neg (by rw [beq_eq_false_iff_ne.2 hb.2.1, beq_eq_false_iff_ne.2 hb.2.2.1]; decide), if_neg (by rw [hb.2.2.2]; decide), ← hl, he, if_neg (by decide), if_pos hs]
      rw [hq]
      have hsp := span_le symB ((bytesI t).drop i)
      rw [List.length_drop, bytesI_length] at hsp
      refine Ev.step (fun k => by simp only [impl_nextSign.j0, Bool.false_eq_true, if_false, e_fig, hf', Option.bind_some, e_sym k _ hr.1 hr.2, hs, if_true] <;> rfl) ?_
      refine Ev.bind (irun_sym t ht i (by omega)) ?_
      simp only [Int.toNat_natCast, len _ (show i + span symB ((bytesI t).drop i) ≤ t.size by omega)]
      refine Ev.pos (by omega) (Ev.pos (by omega) (Ev.pos (by omega) (Ev.neg (by decide) (Ev.neg (by decide) ?_))))
      by_cases h20 : span symB ((bytesI t).drop i) ≤ 20
      ·rw [if_pos h20]
       exact Ev.neg (by omega) (Ev.now _)
      ·rw [if_neg h20, bad]
       refine Ev.pos (by omega) ?_
       rw [hn]
       refine Ev.pos (by omega) (Ev.pos (by omega) ?_)
       exact Ev.now _
     | false =>
      have hj3 : ∀ y : Bool, y = (bt t i == 33 || bt t i == 59) → Ev (fun k => impl_nextSign.j3 k t i (bt t i) ((i + 1 : Nat) : Int) y 0 (⟨#[]⟩ : ByteArray) 0 i false) (toSign t i (signM (prevOf t i) ((bytesI t).drop i))) := by
       intro y hy
       have len1 := len 1 (by omega)
       by_cases h39 : bt t i = 39
       ·have hy' : y = false := by rw [hy, h39]; rfl
        have hm : markM (bt t i) = false := by rw [h39]; rfl
        subst hy'
        have hq : signM (prevOf t i) ((bytesI t).drop i) = if span n39 ((bytesI t).drop (i + 1)) < ((bytesI t).drop (i + 1)).length ∧ (((bytesI t).drop (i + 1)).take (span n39 ((bytesI t).drop (i + 1)))).all q1 = true ∧ 1 ≤ span n39 ((bytesI t).drop (i + 1)) ∧ span n39 ((bytesI t).drop (i + 1)) ≤ 20 then (1, 1, span n39 ((bytesI t).drop (i + 1)) + 1, 0, span n39 ((bytesI t).drop (i + 1)) + 2) else (6, 0, 1, 0, 1) := by
         rw [hl]; show signC _ _ _ = _; unfold signC; rw [← hx, if_neg (by decide), if_neg hf, if_pos (by rw [h39]; rfl)]; rfl
        rw [hq]
        have hqs := q_span ((bytesI t).drop (i + 1))
        have hspq := span_le q1 ((bytesI t).drop (i + 1))
        rw [List.length_drop, bytesI_length] at hspq
        have hib : i_ib.f 0 (⟨#[40, 41, 91, 93, 44, 124]⟩ : ByteArray) (bt t i) = some (Lib.indexByte [40, 41, 91, 93, 44, 124] (bt t i).toNat.toUInt8) := rfl
        have hneg : ¬ (Lib.indexByte [40, 41, 91, 93, 44, 124] (bt t i).toNat.toUInt8 ≥ 0) := by
         have := ib_mark (bt t i) hr.1 hr.2
         rw [hm] at this
         exact of_decide_eq_false this
        refine Ev.step (f := fun k => (i_run.f k t ((i + 1 : Nat) : Int) 75).bind fun t158 => (if t158 < (t.size : Int) then (if 0 ≤ t158 then (if (bt t t158) = 39 then ((impl_within.f (wrap64 ((wrap64 (t158 - i)) - 1)) 1 20).bind fun t159 => (impl_nextSign.j4 k t i ((i + 1 : Nat) : Int) t158 t159 0 (⟨#[]⟩ : ByteArray) 0 i false)) else (impl_nextSign.j4 k t i ((i + 1 : Nat) : Int) t158 false 0 (⟨#[]⟩ : ByteArray) 0 i false)) else (none)) else (impl_nextSign.j4 k t i ((i + 1 : Nat) : Int) t158 false 0 (⟨#[]⟩ : ByteArray) 0 i false))) (fun k => ?_) ?_
        ·simp only [impl_nextSign.j3, Bool.false_eq_true, if_false]
         show (if Lib.indexByte [40, 41, 91, 93, 44, 124] (bt t i).toNat.toUInt8 ≥ 0 then _ else _) = _
         rw [if_neg hneg, if_pos h39, hn]
        refine Ev.bind (irun_q1 t ht (i + 1) (by omega)) ?_
        have hj4f : ∀ x11 : Int, Ev (fun k => impl_nextSign.j4 k t i ((i + 1 : Nat) : Int) x11 false 0 (⟨#[]⟩ : ByteArray) 0 i false) (toSign t i (6, 0, 1, 0, 1)) := by
         intro x11
         refine Ev.step (f := fun k => some (6, t.extract i (i + 1), 0, (i : Int), false, ((i + 1 : Nat) : Int))) (fun k => ?_) (Ev.now _)
         simp only [impl_nextSign.j4, Bool.false_eq_true, if_false]
         rw [if_pos (by omega), if_pos (by omega), if_pos (by omega), if_pos trivial, hn, if_pos (by omega), if_pos (by omega), Int.toNat_natCast, Int.toNat_natCast]
        by_cases hlt : i + 1 + span q1 ((bytesI t).drop (i + 1)) < t.size
        ·refine Ev.pos (by omega) (Ev.pos (by omega) ?_)
         have hidx : span q1 ((bytesI t).drop (i + 1)) < ((bytesI t).drop (i + 1)).length := (q_cut t i hi _).1 hlt
         have hbt : bt t ((i + 1 + span q1 ((bytesI t).drop (i + 1)) : Nat) : Int) = ((bytesI t).drop (i + 1))[span q1 ((bytesI t).drop (i + 1))] := by
          rw [bt_get t _ hlt, List.getElem_drop]
         by_cases hb : bt t ((i + 1 + span q1 ((bytesI t).drop (i + 1)) : Nat) : Int) = 39
         ·obtain ⟨g1, g2, g3⟩ := hqs.1 ⟨hidx, by rw [← hbt]; exact hb⟩
          refine Ev.pos hb ?_
          rw [show wrap64 (wrap64 (((i + 1 + span q1 ((bytesI t).drop (i + 1)) : Nat) : Int) - i) - 1) = (span q1 ((bytesI t).drop (i + 1)) : Int) by unfold wrap64; omega]
          have hw : impl_within.f (span q1 ((bytesI t).drop (i + 1)) : Int) 1 20 = some (decide (1 ≤ span q1 ((bytesI t).drop (i + 1))) && decide (span q1 ((bytesI t).drop (i + 1)) ≤ 20)) := by
           unfold impl_within.f
           by_cases h1 : 1 ≤ span q1 ((bytesI t).drop (i + 1))
           ·rw [if_pos (by omega), decide_eq_true h1, Bool.true_and]
            congr 1
            exact decide_eq_decide.2 (by omega)
           ·rw [if_neg (by omega), decide_eq_false h1]; rfl
          rw [hw]
          refine Ev.put ?_
          rw [← g1] at g2 g3 ⊢
          by_cases hc : 1 ≤ span q1 ((bytesI t).drop (i + 1)) ∧ span q1 ((bytesI t).drop (i + 1)) ≤ 20
          ·rw [if_pos ⟨g2, g3, hc⟩, decide_eq_true hc.1, decide_eq_true hc.2]
           refine Ev.step (f := fun k => some (1, t.extract (i + 1) (i + 1 + span q1 ((bytesI t).drop (i + 1))), 0, (i : Int), false, ((i + 1 + span q1 ((bytesI t).drop (i + 1)) + 1 : Nat) : Int))) (fun k => ?_) ?_
           ·simp only [impl_nextSign.j4, Bool.and_self, if_true]
            rw [hn, if_pos (by omega), if_pos (by omega), if_pos (by omega), Int.toNat_natCast, Int.toNat_natCast, w_next _ _ hlt ht]
           ·show Ev _ ((1 : Int), t.extract (i + 1) (i + (span q1 ((bytesI t).drop (i + 1)) + 1)), (0 : Int), (i : Int), false, ((i + (span q1 ((bytesI t).drop (i + 1)) + 2) : Nat) : Int))
            rw [show i + (span q1 ((bytesI t).drop (i + 1)) + 1) = i + 1 + span q1 ((bytesI t).drop (i + 1)) by omega, show i + (span q1 ((bytesI t).drop (i + 1)) + 2) = i + 1 + span q1 ((bytesI t).drop (i + 1)) + 1 by omega]
            exact Ev.now _
          ·rw [if_neg (fun h => hc h.2.2)]
           have : (decide (1 ≤ span q1 ((bytesI t).drop (i + 1))) && decide (span q1 ((bytesI t).drop (i + 1)) ≤ 20)) = false := by
            rw [← Bool.not_eq_true]
            simpa using hc
           rw [this]
           exact hj4f _
         ·refine Ev.neg hb ?_
          rw [if_neg (fun h => hb (by
           obtain ⟨_, h2⟩ := hqs.2 ⟨h.1, h.2.1⟩
           rw [hbt]; exact h2))]
          exact hj4f _
        ·refine Ev.neg (by omega) ?_
         rw [if_neg (fun h => hlt (by
          obtain ⟨h1, _⟩ := hqs.2 ⟨h.1, h.2.1⟩
          exact (q_cut t i hi _).2 h1))]
         exact hj4f _
       ·have hq : signM (prevOf t i) ((bytesI t).drop i) = if y then (1, 0, 1, 0, 1) else if markM (bt t i) then (4, 0, 1, 0, 1) else (6, 0, 1, 0, 1) := by
         rw [hl]; show signC _ _ _ = _; unfold signC; rw [← hx, if_neg (by decide), if_neg hf, if_neg (by rw [beq_eq_false_iff_ne.2 h39]; decide), ← hy, ← hl, he, hs]
         rfl
        rw [hq]
        cases y with
        | true =>
         rw [if_pos rfl, one]
         refine Ev.step (f := fun k => some (1, t.extract i (i + 1), 0, (i : Int), false, ((i + 1 : Nat) : Int))) (fun k => ?_) (Ev.now _)
         simp only [impl_nextSign.j3, if_true, Int.toNat_natCast, len1]
         rw [if_pos (by omega), if_pos (by omega), if_pos (by omega), if_neg (by decide), if_neg (by decide), if_neg (by omega)]
        | false =>
         rw [if_neg (by decide)]
         have him := ib_mark (bt t i) hr.1 hr.2
         cases hm : markM (bt t i) with
         | true =>
          rw [hm] at him
          rw [if_pos rfl, one]
          refine Ev.step (f := fun k => some (4, t.extract i (i + 1), 0, (i : Int), false, ((i + 1 : Nat) : Int))) (fun k => ?_) (Ev.now _)
          simp only [impl_nextSign.j3, Bool.false_eq_true, if_false]
          show (if Lib.indexByte [40, 41, 91, 93, 44, 124] (bt t i).toNat.toUInt8 ≥ 0 then _ else _) = _
          rw [if_pos (of_decide_eq_true him), if_pos (by omega), if_pos (by omega), if_pos (by omega), if_neg (by decide), if_pos trivial, Int.toNat_natCast, Int.toNat_natCast]
         | false =>
          rw [hm] at him
          rw [if_neg (by decide), bad]
          refine Ev.step (f := fun k => some (6, t.extract i (i + 1), 0, (i : Int), false, ((i + 1 : Nat) : Int))) (fun k => ?_) (Ev.now _)
          simp only [impl_nextSign.j3, Bool.false_eq_true, if_false]
          show (if Lib.indexByte [40, 41, 91, 93, 44, 124] (bt t i).toNat.toUInt8 ≥ 0 then _ else _) = _
          rw [if_neg (of_decide_eq_false him), if_neg h39, if_pos (by omega), if_pos (by omega), if_pos (by omega), if_pos trivial, hn, if_pos (by omega), if_pos (by omega), Int.toNat_natCast, Int.toNat_natCast]
      by_cases h33 : bt t i = 33
      ·refine Ev.step (fun k => by simp only [impl_nextSign.j0, Bool.false_eq_true, if_false, e_fig, hf', Option.bind_some, e_sym k _ hr.1 hr.2, hs, if_pos h33] <;> rfl) (hj3 true ?_)
       rw [h33]; rfl
      ·refine Ev.step (fun k => by simp only [impl_nextSign.j0, Bool.false_eq_true, if_false, e_fig, hf', Option.bind_some, e_sym k _ hr.1 hr.2, hs, if_neg h33] <;> rfl) (hj3 (bt t i == 59) ?_)
       rw [beq_eq_false_iff_ne.2 h33]; rfl
  cases hs : smallM (bt t i) with
  | true => exact Ev.tt (hj true (by rw [hs]; rfl))
  | false =>
   refine Ev.ff ?_
   cases hu : upM (bt t i) with
   | true => exact Ev.tt (hj true (by rw [hs, hu]; rfl))
   | false => exact Ev.ff (hj _ (by rw [hs, hu]; rfl))
def nl (b : Int) : Bool := !(b == 10)
def sgsM (t : ByteArray) : Nat → Nat → List S46
 | 0, _ => []
 | f + 1, i => if i < t.size then (if blankM (bt t i) then sgsM t f (i + 1) else if bt t i == 37 then sgsM t f (i + span nl ((bytesI t).drop i)) else
   ⟨(toSign t i (signM (prevOf t i) ((bytesI t).drop i))).1, (toSign t i (signM (prevOf t i) ((bytesI t).drop i))).2.1, (toSign t i (signM (prevOf t i) ((bytesI t).drop i))).2.2.1, (i : Int), if i + (signM (prevOf t i) ((bytesI t).drop i)).2.2.2.2 < t.size then bt t ((i + (signM (prevOf t i) ((bytesI t).drop i)).2.2.2.2 : Nat) : Int) == 40 else false⟩ :: sgsM t f (i + (signM (prevOf t i) ((bytesI t).drop i)).2.2.2.2)) else []
theorem nl_span (t : ByteArray) (i : Nat) (hi : i < t.size) (h : bt t i = 37) : 1 ≤ span nl ((bytesI t).drop i) ∧ i + span nl ((bytesI t).drop i) ≤ t.size := by
 have := span_le nl ((bytesI t).drop i)
 rw [List.length_drop, bytesI_length] at this
 refine ⟨?_, by omega⟩
 rw [bytes_drop t i hi, span, h]
 simp [nl]
theorem signM_at (t : ByteArray) (i : Nat) (hi : i < t.size) : 1 ≤ (signM (prevOf t i) ((bytesI t).drop i)).2.2.2.2 ∧ i + (signM (prevOf t i) ((bytesI t).drop i)).2.2.2.2 ≤ t.size := by
 have := signM_len (prevOf t i) (bt t i) ((bytesI t).drop (i + 1))
 rw [← bytes_drop t i hi] at this
 obtain ⟨h1, h2, _, _⟩ := this
 rw [List.length_drop, bytesI_length] at h2
 exact ⟨h1, by omega⟩
theorem nl5_ev (t : ByteArray) (ht : t.size ≤ 4611686018427387904) (ys : List S46) (R : List S46 × Bool) (d : Nat) : ∀ i : Nat, i ≤ t.size → t.size - i = d →
  Ev (fun k => @spec_SignsOf.l0 i_ss k t ys ((i + span nl ((bytesI t).drop i) : Nat) : Int)) R → Ev (fun k => @spec_SignsOf.l1 i_ss k t ys i) R := by
 induction d with
 | zero =>
  intro i hi hd h
  rw [bytes_end t i (by omega)] at h
  refine Ev.step (fun k => ?_) h
  simp only [spec_SignsOf.l1]
  rw [if_neg (by omega)]
  rfl
 | succ d ih =>
  intro i hi hd h
  rw [bytes_drop t i (by omega), span] at h
  by_cases hb : bt t i = 10
  ·have hn : nl (bt t i) = false := by rw [hb]; rfl
   simp only [hn, Bool.false_eq_true, if_false, Nat.add_zero] at h
   refine Ev.step (fun k => ?_) h
   simp only [spec_SignsOf.l1]
   rw [if_pos (by omega), if_pos (by omega), if_pos hb]
  ·have hn : nl (bt t i) = true := by unfold nl; rw [beq_eq_false_iff_ne.2 hb]; rfl
   simp only [hn, if_true] at h
   refine Ev.step (f := fun k => @spec_SignsOf.l1 i_ss k t ys ((i + 1 : Nat) : Int)) (fun k => ?_) (ih (i + 1) (by omega) (by omega) ?_)
   ·simp only [spec_SignsOf.l1]
    rw [if_pos (by omega), if_pos (by omega), if_neg hb, w_next i _ (by omega) ht]
   ·rw [show i + 1 + span nl ((bytesI t).drop (i + 1)) = i + (span nl ((bytesI t).drop (i + 1)) + 1) by omega]
    exact h
def bh (t : ByteArray) (ys : List S46) (f : Nat → List S46 → Int → Option (List S46 × Bool)) (k : Nat) (bt126 : Int × ByteArray × Int × Int × Bool × Int) : Option (List S46 × Bool) := if bt126.2.2.2.2.2 < (t.size : Int) then (if 0 ≤ bt126.2.2.2.2.2 then (if ys.length < 2932031007402 then (f k (ys ++ [(⟨bt126.1, bt126.2.1, bt126.2.2.1, bt126.2.2.2.1, ((bt t bt126.2.2.2.2.2) == 40)⟩ : S46)]) bt126.2.2.2.2.2) else (none)) else (none)) else (if ys.length < 2932031007402 then (f k (ys ++ [(⟨bt126.1, bt126.2.1, bt126.2.2.1, bt126.2.2.2.1, false⟩ : S46)]) bt126.2.2.2.2.2) else (none))
theorem behind_ev {ys : List S46} (t : ByteArray) (i : Nat) (hi : i < t.size) (hl : ys.length ≤ i) (ht : t.size ≤ 1048576) (f : Nat → List S46 → Int → Option (List S46 × Bool)) (R : List S46)
  (ih : ∀ (zs : List S46) (e : Nat), i < e → e ≤ t.size → zs = ys ++ [⟨(toSign t i (signM (prevOf t i) ((bytesI t).drop i))).1, (toSign t i (signM (prevOf t i) ((bytesI t).drop i))).2.1, (toSign t i (signM (prevOf t i) ((bytesI t).drop i))).2.2.1, (i : Int), if i + (signM (prevOf t i) ((bytesI t).drop i)).2.2.2.2 < t.size then bt t ((i + (signM (prevOf t i) ((bytesI t).drop i)).2.2.2.2 : Nat) : Int) == 40 else false⟩] → e = i + (signM (prevOf t i) ((bytesI t).drop i)).2.2.2.2 → Ev (fun k => f k zs e) (R, true)) :
  Ev (fun k => bh t ys f k (toSign t i (signM (prevOf t i) ((bytesI t).drop i)))) (R, true) := by
 obtain ⟨h1, h2⟩ := signM_at t i hi
 generalize hm : signM (prevOf t i) ((bytesI t).drop i) = m at h1 h2 ih ⊢
 obtain ⟨kd, s, e, num, c⟩ := m
 simp only [toSign, bh] at h1 h2 ih ⊢
 by_cases h : i + c < t.size
 ·refine Ev.pos (by omega) (Ev.pos (by omega) (Ev.pos (by omega) ?_))
  exact ih _ (i + c) (by omega) h2 (by rw [if_pos h]) rfl
 ·refine Ev.neg (by omega) (Ev.pos (by omega) ?_)
  exact ih _ (i + c) (by omega) h2 (by rw [if_neg h]) rfl
theorem sg5_ev (t : ByteArray) (ht : t.size ≤ 1048576) : ∀ (d i : Nat) (ys : List S46), i ≤ t.size → t.size - i ≤ d → ys.length ≤ i →
  Ev (fun k => @spec_SignsOf.l0 i_ss k t ys i) (ys ++ sgsM t d i, true) := by
 intro d
 induction d with
 | zero =>
  intro i ys hi hd hl
  refine Ev.step (f := fun _ => some (ys, true)) (fun k => ?_) ?_
  ·simp only [spec_SignsOf.l0]
   rw [if_neg (by omega)]
  ·rw [sgsM, List.append_nil]; exact Ev.now _
 | succ d ih =>
  intro i ys hi hd hl
  rw [sgsM]
  by_cases hlt : i < t.size
  ·rw [if_pos hlt]
   cases hb : blankM (bt t i) with
   | true =>
    rw [if_pos rfl]
    refine Ev.step (fun k => ?_) (ih (i + 1) ys (by omega) (by omega) (by omega))
    simp only [spec_SignsOf.l0]
    rw [if_pos (by omega), if_pos (by omega), e_blank, hb, w_next i _ hlt (by omega)]
    rfl
   | false =>
    rw [if_neg (by decide)]
    by_cases h37 : bt t i = 37
    ·obtain ⟨h1, h2⟩ := nl_span t i hlt h37
     rw [if_pos (by rw [h37]; rfl)]
     refine Ev.step (fun k => ?_) (nl5_ev t (by omega) ys _ _ i (by omega) rfl (ih (i + span nl ((bytesI t).drop i)) ys h2 (by omega) (by omega)))
     simp only [spec_SignsOf.l0]
     rw [if_pos (by omega), if_pos (by omega), e_blank, hb, Option.bind_some, if_neg (by decide), if_pos h37]
    ·rw [if_neg (by simpa using h37)]
     refine Ev.step (fun k => ?_) (Ev.bind (f := bh t ys (fun k zs e => @spec_SignsOf.l0 i_ss k t zs e)) (sign5_ev t (by omega) i hlt) (behind_ev t i hlt hl ht (fun k zs e => @spec_SignsOf.l0 i_ss k t zs e) _ ?_))
     ·simp only [spec_SignsOf.l0]
      rw [if_pos (by omega), if_pos (by omega), e_blank, hb, Option.bind_some, if_neg (by decide), if_neg h37]
      rfl
     ·intro zs e h1 h2 hz he
      subst he
      have := ih (i + (signM (prevOf t i) ((bytesI t).drop i)).2.2.2.2) zs h2 (by omega) (by rw [hz, List.length_append, List.length_singleton]; omega)
      rw [hz] at this ⊢
      rw [List.append_assoc, List.singleton_append] at this
      exact this
  ·rw [if_neg hlt, List.append_nil]
   refine Ev.step (f := fun _ => some (ys, true)) (fun k => ?_) (Ev.now _)
   simp only [spec_SignsOf.l0]
   rw [if_neg (by omega)]
theorem sgI_ev (t : ByteArray) (ht : t.size ≤ 1048576) : ∀ (d i : Nat) (ys : List S46), i ≤ t.size → t.size - i ≤ d → ys.length ≤ i →
  Ev (fun k => @impl_SignsOf.l0 i_run i_ib k t ys i) (ys ++ sgsM t d i, true) := by
 letI := i_run
 letI := i_ib
 intro d
 induction d with
 | zero =>
  intro i ys hi hd hl
  refine Ev.step (f := fun _ => some (ys, true)) (fun k => ?_) ?_
  ·simp only [impl_SignsOf.l0]
   rw [if_neg (by omega)]
  ·rw [sgsM, List.append_nil]; exact Ev.now _
 | succ d ih =>
  intro i ys hi hd hl
  rw [sgsM]
  by_cases hlt : i < t.size
  ·rw [if_pos hlt]
   have hj : ∀ x : Bool, x = blankM (bt t i) → Ev (fun k => impl_SignsOf.j1 k t ys i (bt t i) x) (ys ++ (if blankM (bt t i) then sgsM t d (i + 1) else if bt t i == 37 then sgsM t d (i + span nl ((bytesI t).drop i)) else
   ⟨(toSign t i (signM (prevOf t i) ((bytesI t).drop i))).1, (toSign t i (signM (prevOf t i) ((bytesI t).drop i))).2.1, (toSign t i (signM (prevOf t i) ((bytesI t).drop i))).2.2.1, (i : Int), if i + (signM (prevOf t i) ((bytesI t).drop i)).2.2.2.2 < t.size then bt t ((i + (signM (prevOf t i) ((bytesI t).drop i)).2.2.2.2 : Nat) : Int) == 40 else false⟩ :: sgsM t d (i + (signM (prevOf t i) ((bytesI t).drop i)).2.2.2.2)), true) := by
    intro x hx
    rw [← hx]
    cases x with
    | true =>
     rw [if_pos rfl]
     refine Ev.step (fun k => ?_) (ih (i + 1) ys (by omega) (by omega) (by omega))
     simp only [impl_SignsOf.j1, if_true]
     rw [w_next i _ hlt (by omega)]
    | false =>
     rw [if_neg (by decide)]
     by_cases h37 : bt t i = 37
     ·obtain ⟨h1, h2⟩ := nl_span t i hlt h37
      rw [if_pos (by rw [h37]; rfl)]
      refine Ev.step (f := fun k => (i_run.f k t i 56).bind fun t160 => impl_SignsOf.l0 k t ys t160) (fun k => ?_) (Ev.bind (irun_nl t (by omega) i (by omega)) (ih (i + span nl ((bytesI t).drop i)) ys h2 (by omega) (by omega)))
      simp only [impl_SignsOf.j1, Bool.false_eq_true, if_false]
      rw [if_pos h37]
     ·rw [if_neg (by simpa using h37)]
      refine Ev.step (fun k => ?_) (Ev.bind (f := bh t ys (fun k zs e => impl_SignsOf.l0 k t zs e)) (signI_ev t (by omega) i hlt) (behind_ev t i hlt hl ht (fun k zs e => impl_SignsOf.l0 k t zs e) _ ?_))
      ·simp only [impl_SignsOf.j1, Bool.false_eq_true, if_false]
       rw [if_neg h37]
       rfl
      ·intro zs e h1 h2 hz he
       subst he
       have := ih (i + (signM (prevOf t i) ((bytesI t).drop i)).2.2.2.2) zs h2 (by omega) (by rw [hz, List.length_append, List.length_singleton]; omega)
       rw [hz] at this ⊢
       rw [List.append_assoc, List.singleton_append] at this
       exact this
   by_cases h1 : bt t i = 32
   ·refine Ev.step (fun k => ?_) (hj true (by rw [h1]; rfl))
    simp only [impl_SignsOf.l0]
    rw [if_pos (by omega), if_pos (by omega), if_pos h1, h1]
    rfl
   ·by_cases h2 : bt t i = 9
    ·refine Ev.step (fun k => ?_) (hj true (by rw [h2]; rfl))
     simp only [impl_SignsOf.l0]
     rw [if_pos (by omega), if_pos (by omega), if_neg h1, if_pos h2, h2]
     rfl
    ·refine Ev.step (fun k => ?_) (hj (bt t i == 10) (by unfold blankM; rw [beq_eq_false_iff_ne.2 h1, beq_eq_false_iff_ne.2 h2]; rfl))
     simp only [impl_SignsOf.l0]
     rw [if_pos (by omega), if_pos (by omega), if_neg h1, if_neg h2]
  ·rw [if_neg hlt, List.append_nil]
   refine Ev.step (f := fun _ => some (ys, true)) (fun k => ?_) (Ev.now _)
   simp only [impl_SignsOf.l0]
   rw [if_neg (by omega)]
def sgs (t : ByteArray) : List S46 × Bool := if t.size > 3000 then ([], false) else (sgsM t t.size 0, true)
theorem sgsM_len (t : ByteArray) : ∀ d i : Nat, (sgsM t d i).length ≤ d
 | 0, i => Nat.le_refl _
 | d + 1, i => by
  rw [sgsM]
  split
  ·split
   ·have := sgsM_len t d (i + 1); omega
   ·split
    ·have := sgsM_len t d (i + span nl ((bytesI t).drop i)); omega
    ·have := sgsM_len t d (i + (signM (prevOf t i) ((bytesI t).drop i)).2.2.2.2)
     rw [List.length_cons]; omega
  ·simp
theorem sgs_len (t : ByteArray) : (sgs t).1.length ≤ 3000 := by
 unfold sgs
 split
 ·simp
 ·have := sgsM_len t t.size 0
  show (sgsM t t.size 0).length ≤ 3000
  omega
theorem spec_sgs (t : ByteArray) (ht : t.size ≤ 1048576) : Ev (fun k => @spec_SignsOf.f i_ss k t) (sgs t) := by
 unfold spec_SignsOf.f sgs
 refine Ev.put ?_
 by_cases h : t.size > 3000
 ·rw [if_pos h]; exact Ev.pos (by omega) (Ev.now _)
 ·rw [if_neg h]; exact Ev.neg (by omega) (sg5_ev t ht t.size 0 [] (by omega) (by omega) (by simp))
theorem impl_sgs (t : ByteArray) (ht : t.size ≤ 1048576) : Ev (fun k => @impl_SignsOf.f i_run i_ib k t) (sgs t) := by
 unfold impl_SignsOf.f sgs
 by_cases h : t.size > 3000
 ·rw [if_pos h]; exact Ev.pos (by omega) (Ev.now _)
 ·rw [if_neg h]; exact Ev.neg (by omega) (sgI_ev t ht t.size 0 [] (by omega) (by omega) (by simp))
theorem rd46_at (xs : List S46) (i : Nat) (h : i < xs.length) : rd_T46 xs (i : Int) = xs[i] := by
 unfold rd_T46; simp [List.getD, h]
theorem and255 (x : Int) : 0 ≤ Go.bits .and .i64 x 255 ∧ Go.bits .and .i64 x 255 ≤ 255 := by
 show 0 ≤ IntKind.i64.wrap ((BitVec.ofInt 64 x &&& BitVec.ofInt 64 255).toNat : Int) ∧ IntKind.i64.wrap ((BitVec.ofInt 64 x &&& BitVec.ofInt 64 255).toNat : Int) ≤ 255
 have h : (BitVec.ofInt 64 x &&& BitVec.ofInt 64 255).toNat ≤ 255 := by
  rw [BitVec.toNat_and]
  have e : (BitVec.ofInt 64 255).toNat = 255 := by decide
  rw [e]; exact Nat.and_le_right
 obtain ⟨v, hv⟩ : ∃ v, v = (BitVec.ofInt 64 x &&& BitVec.ofInt 64 255).toNat := ⟨_, rfl⟩
 rw [← hv] at h ⊢
 simp only [IntKind.wrap, IntKind.bits, IntKind.signed]
 simp; omega
theorem byte_tells (b : List Int) (i h : Int) (h0 : 0 ≤ i) (h1 : i ≤ b.length) (hl : b.length ≤ 1048576) : ∃ r i' h', spec_l01Byte.f b i h = some (r, i', h') ∧ 0 ≤ r ∧ r ≤ 255 ∧ 0 ≤ i' ∧ i' ≤ b.length := by
 unfold spec_l01Byte.f
 by_cases c : i < (b.length : Int)
 ·rw [if_pos c, if_pos h0]
  have := and255 (wrap64 ((Go.bits .and .i64 (Go.bits .xor .i64 ((wrap64 ((wrap64 (h * 6364136223846793005)) + 1442695040888963407)) / 8589934592) ((wrap64 ((wrap64 (h * 6364136223846793005)) + 1442695040888963407)) / 35184372088832)) 255) + (wrap64 (rd b i))))
  exact ⟨_, _, _, rfl, this.1, this.2, by unfold wrap64; omega, by unfold wrap64; omega⟩
 ·rw [if_neg c]
  have := and255 (Go.bits .xor .i64 ((wrap64 ((wrap64 (h * 6364136223846793005)) + 1442695040888963407)) / 8589934592) ((wrap64 ((wrap64 (h * 6364136223846793005)) + 1442695040888963407)) / 35184372088832))
  exact ⟨_, _, _, rfl, this.1, this.2, h0, h1⟩
theorem below_tells (b : List Int) (i h n : Int) (h0 : 0 ≤ i) (h1 : i ≤ b.length) (hl : b.length ≤ 1048576) (hn : 0 < n) (hn2 : n ≤ 256) : ∃ r i' h', spec_l01Below.f b i h n = some (r, i', h') ∧ 0 ≤ r ∧ r < n ∧ 0 ≤ i' ∧ i' ≤ b.length := by
 obtain ⟨r, i', h', e, a1, a2, a3, a4⟩ := byte_tells b i h h0 h1 hl
 unfold spec_l01Below.f
 rw [if_neg (by omega), if_pos hn2, e, Option.bind_some]
 simp only
 rw [if_neg (by omega)]
 refine ⟨_, _, _, rfl, ?_, ?_, a3, a4⟩
 ·rw [Int.tmod_eq_emod_of_nonneg a1]; exact Int.emod_nonneg _ (by omega)
 ·rw [Int.tmod_eq_emod_of_nonneg a1]; exact Int.emod_lt_of_pos _ hn
theorem new_ev (b : List Int) (hl : b.length ≤ 1048576) (d : Nat) : ∀ (h : Int) (i : Nat), i ≤ b.length → b.length - i = d → ∃ r, Ev (fun k => spec_l01New.l0 k b h i) (b, 0, r) := by
 induction d with
 | zero =>
  intro h i hi hd
  refine ⟨h, Ev.step (f := fun _ => some (b, 0, h)) (fun k => ?_) (Ev.now _)⟩
  simp only [spec_l01New.l0]
  rw [if_neg (by omega)]
 | succ d ih =>
  intro h i hi hd
  by_cases c : i < 4000
  ·obtain ⟨r, hr⟩ := ih (Go.bits .and .i64 (wrap64 ((wrap64 ((wrap64 (h * 131)) + (wrap64 (rd b i)))) + 7)) 1073741823) (i + 1) (by omega) (by omega)
   refine ⟨r, Ev.step (fun k => ?_) hr⟩
   simp only [spec_l01New.l0]
   rw [if_pos (by omega), if_pos (by omega), if_pos (by omega), w_next i 4000 c (by omega)]
  ·refine ⟨h, Ev.step (f := fun _ => some (b, 0, h)) (fun k => ?_) (Ev.now _)⟩
   simp only [spec_l01New.l0]
   rw [if_pos (by omega), if_neg (by omega)]
theorem long_ev (n : Nat) (hn : n ≤ 4000) (c : Int) : ∃ s : ByteArray, s.size = n ∧ Ev (fun k => spec_l01Long.f k n c) s := by
 have hl : ∀ (d i : Nat) (xs : List Int), i ≤ n → n - i = d → xs.length = n → ∃ s : ByteArray, s.size = n ∧ Ev (fun k => spec_l01Long.l0 k n c xs i) s := by
  intro d
  induction d with
  | zero =>
   intro i xs hi hd hx
   refine ⟨strOfNums xs, ?_, Ev.step (f := fun _ => some (strOfNums xs)) (fun k => ?_) (Ev.now _)⟩
   ·rw [← hx]; exact strOfNums_size xs
   ·simp only [spec_l01Long.l0]
    rw [if_neg (by omega)]
  | succ d ih =>
   intro i xs hi hd hx
   obtain ⟨s, h1, h2⟩ := ih (i + 1) (xs.set i c) (by omega) (by omega) (by rw [List.length_set]; exact hx)
   refine ⟨s, h1, Ev.step (fun k => ?_) h2⟩
   simp only [spec_l01Long.l0]
   rw [if_pos (by omega), if_pos (by omega), if_pos (by omega), w_next i 4000 (by omega) (by omega), Int.toNat_natCast]
 obtain ⟨s, h1, h2⟩ := hl n 0 (List.replicate n 0) (by omega) rfl (by simp)
 refine ⟨s, h1, ?_⟩
 unfold spec_l01Long.f
 refine Ev.pos (by omega) (Ev.pos (by rw [Int.toNat_natCast]; omega) ?_)
 rw [Int.toNat_natCast]
 exact h2
theorem pick_tells (b : List Int) (i h : Int) (xs : List ByteArray) (h0 : 0 ≤ i) (h1 : i ≤ b.length) (hl : b.length ≤ 1048576) (hx : 0 < xs.length) (hx2 : xs.length ≤ 256) (m : Nat) (hm : ∀ x ∈ xs, x.size ≤ m) : ∃ r i' h', spec_l01Pick.f b i h xs = some (r, i', h') ∧ r.size ≤ m ∧ 0 ≤ i' ∧ i' ≤ b.length := by
 obtain ⟨r, i', h', e, a1, a2, a3, a4⟩ := below_tells b i h xs.length h0 h1 hl (by omega) (by omega)
 unfold spec_l01Pick.f
 rw [e, Option.bind_some]
 simp only
 rw [if_pos a1, if_pos a2]
 refine ⟨_, _, _, rfl, ?_, a3, a4⟩
 have hlt : r.toNat < xs.length := by omega
 unfold rdOf
 rw [List.getD_eq_getElem?_getD, List.getElem?_eq_getElem hlt, Option.getD_some]
 exact hm _ (List.getElem_mem hlt)
theorem draw_end (b : List Int) (hl : b.length ≤ 1048576) (j : Nat) (k4 : Int) (s : ByteArray) (i h r i' h' : Int) (hs : s.size ≤ 100) (e : spec_l01Below.f b i h 10 = some (r, i', h')) (a2 : ¬((j : Int) < r)) (a3 : 0 ≤ i') (a4 : i' ≤ b.length) : ∃ t : ByteArray, t.size ≤ 4000 ∧ Ev (fun k => spec_DrawSignsOf.l0 k k4 s j b i h) t := by
 obtain ⟨l1, z1, y1⟩ := long_ev 21 (by omega) 97
 obtain ⟨l2, z2, y2⟩ := long_ev 21 (by omega) 43
 by_cases c0 : k4 = 0
 ·refine ⟨s ++ l1, by rw [ByteArray.size_append]; omega, Ev.step (f := fun k => (spec_l01Long.f k 21 97).bind fun t217 => (if s.size + t217.size ≤ 9223372036854775807 then (some (s ++ t217)) else none)) (fun k => ?_) (Ev.bind (f := fun _ t217 => (if s.size + t217.size ≤ 9223372036854775807 then (some (s ++ t217)) else none)) y1 (Ev.pos (by omega) (Ev.now _)))⟩
  simp only [spec_DrawSignsOf.l0, e, Option.bind_some]
  rw [if_neg (by omega), if_pos c0]
 ·by_cases c1 : k4 = 1
  ·refine ⟨s ++ l2, by rw [ByteArray.size_append]; omega, Ev.step (f := fun k => (spec_l01Long.f k 21 43).bind fun t217 => (if s.size + t217.size ≤ 9223372036854775807 then (some (s ++ t217)) else none)) (fun k => ?_) (Ev.bind (f := fun _ t217 => (if s.size + t217.size ≤ 9223372036854775807 then (some (s ++ t217)) else none)) y2 (Ev.pos (by omega) (Ev.now _)))⟩
   simp only [spec_DrawSignsOf.l0, e, Option.bind_some]
   rw [if_neg (by omega), if_neg c0, if_pos c1]
  ·by_cases c2 : k4 = 2
   ·obtain ⟨q, i2, h2, e2, b1, b2, b3, b4⟩ := below_tells b i' h' 2 a3 a4 hl (by omega) (by omega)
    obtain ⟨n, hn⟩ : ∃ n : Nat, wrap64 (3000 + q) = n := ⟨(3000 + q).toNat, by unfold wrap64; omega⟩
    have hn' : n ≤ 4000 := by unfold wrap64 at hn; omega
    obtain ⟨l3, z3, y3⟩ := long_ev n hn' 32
    refine ⟨l3, by omega, Ev.step (f := fun k => (spec_l01Long.f k n 32).bind fun t222 => some t222) (fun k => ?_) (Ev.bind (f := fun _ t222 => some t222) y3 (Ev.now _))⟩
    simp only [spec_DrawSignsOf.l0, e, Option.bind_some]
    rw [if_neg (by omega), if_neg c0, if_neg c1, if_pos c2, e2, Option.bind_some, hn]
   ·refine ⟨s, by omega, Ev.step (f := fun _ => some s) (fun k => ?_) (Ev.now _)⟩
    simp only [spec_DrawSignsOf.l0, e, Option.bind_some]
    rw [if_neg (by omega), if_neg c0, if_neg c1, if_neg c2]
theorem draw_ev (b : List Int) (hl : b.length ≤ 1048576) : ∃ t : ByteArray, t.size ≤ 4000 ∧ Ev (fun k => spec_DrawSignsOf.f k b) t := by
 have hloop : ∀ (d j : Nat) (k4 : Int) (s : ByteArray) (i h : Int), j + d = 10 → s.size ≤ 10 * j → 0 ≤ i → i ≤ b.length → ∃ t : ByteArray, t.size ≤ 4000 ∧ Ev (fun k => spec_DrawSignsOf.l0 k k4 s j b i h) t := by
  intro d
  induction d with
  | zero =>
   intro j k4 s i h hj hs h0 h1
   obtain ⟨r, i', h', e, a1, a2, a3, a4⟩ := below_tells b i h 10 h0 h1 hl (by omega) (by omega)
   exact draw_end b hl j k4 s i h r i' h' (by omega) e (by omega) a3 a4
  | succ d ih =>
   intro j k4 s i h hj hs h0 h1
   obtain ⟨r, i', h', e, a1, a2, a3, a4⟩ := below_tells b i h 10 h0 h1 hl (by omega) (by omega)
   by_cases cj : (j : Int) < r
   ·obtain ⟨p, i2, h2, e2, b1, b3, b4⟩ := pick_tells b i' h' _ a3 a4 hl (by show 0 < (_ : List ByteArray).length; exact (show 0 < ([(⟨#[97]⟩ : ByteArray),(⟨#[66,99]⟩ : ByteArray),(⟨#[95]⟩ : ByteArray),(⟨#[49,50]⟩ : ByteArray),(⟨#[39,120,45,121,39]⟩ : ByteArray),(⟨#[58,45]⟩ : ByteArray),(⟨#[61,46,46]⟩ : ByteArray),(⟨#[46]⟩ : ByteArray),(⟨#[46,32]⟩ : ByteArray),(⟨#[40]⟩ : ByteArray),(⟨#[41]⟩ : ByteArray),(⟨#[91]⟩ : ByteArray),(⟨#[93]⟩ : ByteArray),(⟨#[44]⟩ : ByteArray),(⟨#[124]⟩ : ByteArray),(⟨#[33]⟩ : ByteArray),(⟨#[59]⟩ : ByteArray),(⟨#[32]⟩ : ByteArray),(⟨#[10]⟩ : ByteArray),(⟨#[37,32,115,97,105,100,10]⟩ : ByteArray),(⟨#[7]⟩ : ByteArray),(⟨#[39,97]⟩ : ByteArray),(⟨#[49,48,48,48,48,48,48,48,48,48]⟩ : ByteArray),(⟨#[102,40]⟩ : ByteArray)] : List ByteArray).length by decide)) (by decide) 10 (by
     intro x hx
     simp only [List.mem_cons, List.not_mem_nil, or_false] at hx
     rcases hx with rfl | rfl | rfl | rfl | rfl | rfl | rfl | rfl | rfl | rfl | rfl | rfl | rfl | rfl | rfl | rfl | rfl | rfl | rfl | rfl | rfl | rfl | rfl | rfl <;> decide)
    obtain ⟨t, ht, hev⟩ := ih (j + 1) k4 (s ++ p) i2 h2 (by omega) (by rw [ByteArray.size_append]; omega) b3 b4
    refine ⟨t, ht, Ev.step (fun k => ?_) hev⟩
    simp only [spec_DrawSignsOf.l0, e, Option.bind_some]
    rw [if_pos cj, e2, Option.bind_some]
    simp only
    rw [if_pos (by omega), w_next j 10 (by omega) (by omega)]
   ·exact draw_end b hl j k4 s i h r i' h' (by omega) e cj a3 a4
 obtain ⟨h, hn⟩ := new_ev b hl _ (wrap64 (95101 + (b.length : Int))) 0 (by omega) rfl
 obtain ⟨r, i', h', e, a1, a2, a3, a4⟩ := below_tells b 0 h 6 (by omega) (by omega) hl (by omega) (by omega)
 obtain ⟨t, ht, hev⟩ := hloop 10 0 r (⟨#[]⟩ : ByteArray) i' h' rfl (by decide) a3 a4
 refine ⟨t, ht, ?_⟩
 unfold spec_DrawSignsOf.f
 refine Ev.bind (f := fun k bt201 => (spec_l01Below.f bt201.1 bt201.2.1 bt201.2.2 6).bind fun bt205 => (spec_DrawSignsOf.l0 k bt205.1 (⟨#[]⟩ : ByteArray) 0 bt201.1 bt205.2.1 bt205.2.2)) (show Ev (fun k => spec_l01New.f k b) (b, 0, h) from hn) ?_
 simp only [e, Option.bind_some]
 exact hev
theorem sgsM_s (t : ByteArray) (f i : Nat) : sgsM t (f + 1) i = if i < t.size then (if blankM (bt t i) then sgsM t f (i + 1) else if bt t i == 37 then sgsM t f (i + span nl ((bytesI t).drop i)) else
   ⟨(toSign t i (signM (prevOf t i) ((bytesI t).drop i))).1, (toSign t i (signM (prevOf t i) ((bytesI t).drop i))).2.1, (toSign t i (signM (prevOf t i) ((bytesI t).drop i))).2.2.1, (i : Int), if i + (signM (prevOf t i) ((bytesI t).drop i)).2.2.2.2 < t.size then bt t ((i + (signM (prevOf t i) ((bytesI t).drop i)).2.2.2.2 : Nat) : Int) == 40 else false⟩ :: sgsM t f (i + (signM (prevOf t i) ((bytesI t).drop i)).2.2.2.2)) else [] := rfl
theorem sgsM_fuel (t : ByteArray) : ∀ (d i : Nat), t.size - i ≤ d → sgsM t (d + 1) i = sgsM t d i := by
 intro d
 induction d with
 | zero =>
  intro i h
  rw [sgsM_s t 0 i, if_neg (by omega)]
  rfl
 | succ d ih =>
  intro i h
  rw [sgsM_s t (d + 1) i, sgsM_s t d i]
  by_cases hlt : i < t.size
  ·rw [if_pos hlt, if_pos hlt, ih (i + 1) (by omega)]
   obtain ⟨g1, g2⟩ := signM_at t i hlt
   rw [ih (i + (signM (prevOf t i) ((bytesI t).drop i)).2.2.2.2) (by omega)]
   by_cases h37 : bt t i = 37
   ·obtain ⟨m1, m2⟩ := nl_span t i hlt h37
    rw [ih (i + span nl ((bytesI t).drop i)) (by omega)]
   ·rw [beq_eq_false_iff_ne.2 h37]
    rfl
  ·rw [if_neg hlt, if_neg hlt]
theorem sgsM_enough (t : ByteArray) (i : Nat) : ∀ (e d : Nat), t.size - i ≤ d → sgsM t (d + e) i = sgsM t d i
 | 0, d, h => rfl
 | e + 1, d, h => by rw [← Nat.add_assoc, sgsM_fuel t (d + e) i (by omega), sgsM_enough t i e d h]
theorem bytesI_append (a b : ByteArray) : bytesI (a ++ b) = bytesI a ++ bytesI b := by
 unfold bytesI
 rw [ByteArray.data_append, Array.toList_append, List.map_append]
theorem bt_getD (s : ByteArray) (i : Nat) (h : i < s.size) : bt s (i : Int) = (bytesI s).getD i 0 := by
 rw [bt_get s i h, List.getD_eq_getElem?_getD, List.getElem?_eq_getElem (by rw [bytesI_length]; exact h), Option.getD_some]
theorem drop_append (p t : ByteArray) (i : Nat) : (bytesI (p ++ t)).drop (i + p.size) = (bytesI t).drop i := by
 rw [bytesI_append, show i + p.size = (bytesI p).length + i by rw [bytesI_length]; omega, List.drop_append, List.drop_eq_nil_of_le (by omega), List.nil_append, Nat.add_sub_cancel_left]
theorem bt_append (p t : ByteArray) (i : Nat) (h : i < t.size) : bt (p ++ t) ((i + p.size : Nat) : Int) = bt t (i : Int) := by
 rw [bt_getD _ _ (by rw [ByteArray.size_append]; omega), bt_getD _ _ h, bytesI_append, List.getD_eq_getElem?_getD, List.getD_eq_getElem?_getD, List.getElem?_append_right (by rw [bytesI_length]; omega), bytesI_length, show i + p.size - p.size = i by omega]
theorem signM_prev (p q : Option Int) (l : List Int) (h : p.any symB = q.any symB) : signM p l = signM q l := by
 cases l with
 | nil => rfl
 | cons b r =>
  show signC p b r = signC q b r
  have : endM p (b :: r) = endM q (b :: r) := by unfold endM; rw [h]
  unfold signC
  rw [this]
theorem sgs_shift (p t : ByteArray) (hp : 0 < p.size) (h10 : bt (p ++ t) ((p.size - 1 : Nat) : Int) = 10) : ∀ (d i : Nat), (sgsM (p ++ t) d (i + p.size)).length = (sgsM t d i).length := by
 intro d
 induction d with
 | zero => intro i; rfl
 | succ d ih =>
  intro i
  rw [sgsM_s, sgsM_s, drop_append]
  by_cases hlt : i < t.size
  ·rw [if_pos (by rw [ByteArray.size_append]; omega), if_pos hlt, bt_append p t i hlt]
   have hpr : (prevOf (p ++ t) (i + p.size)).any symB = (prevOf t i).any symB := by
    unfold prevOf
    rw [if_neg (by omega)]
    by_cases h0 : i = 0
    ·rw [if_pos h0, Option.any_some, show ((i + p.size : Nat) : Int) - 1 = ((p.size - 1 : Nat) : Int) by omega, h10]; rfl
    ·rw [if_neg h0, Option.any_some, Option.any_some, show ((i + p.size : Nat) : Int) - 1 = ((i - 1 + p.size : Nat) : Int) by omega, bt_append p t (i - 1) (by omega), show ((i - 1 : Nat) : Int) = (i : Int) - 1 by omega]
   rw [signM_prev _ _ _ hpr]
   cases blankM (bt t i) with
   | true =>
    simp only [if_true]
    rw [show i + p.size + 1 = i + 1 + p.size by omega]
    exact ih (i + 1)
   | false =>
    simp only [Bool.false_eq_true, if_false]
    cases bt t i == 37 with
    | true =>
     simp only [if_true]
     rw [show i + p.size + span nl ((bytesI t).drop i) = i + span nl ((bytesI t).drop i) + p.size by omega]
     exact ih _
    | false =>
     simp only [Bool.false_eq_true, if_false]
     rw [List.length_cons, List.length_cons, show i + p.size + (signM (prevOf t i) ((bytesI t).drop i)).2.2.2.2 = i + (signM (prevOf t i) ((bytesI t).drop i)).2.2.2.2 + p.size by omega, ih]
  ·rw [if_neg (by rw [ByteArray.size_append]; omega), if_neg hlt]
theorem sgs_said (t : ByteArray) (h : t.size ≤ 2900) : (sgs ((⟨#[37,32,115,97,105,100,10]⟩ : ByteArray) ++ t)).1.length = (sgs t).1.length := by
 generalize hp : (⟨#[37,32,115,97,105,100,10]⟩ : ByteArray) = p
 have hps : p.size = 7 := by rw [← hp]; rfl
 have hz : (p ++ t).size = t.size + 7 := by rw [ByteArray.size_append, hps]; omega
 have hb : bytesI (p ++ t) = 37 :: 32 :: 115 :: 97 :: 105 :: 100 :: 10 :: bytesI t := by rw [bytesI_append, ← hp]; rfl
 have b0 : bt (p ++ t) ((0 : Nat) : Int) = 37 := by rw [bt_getD _ _ (by omega), hb]; rfl
 have b6 : bt (p ++ t) ((6 : Nat) : Int) = 10 := by rw [bt_getD _ _ (by omega), hb]; rfl
 unfold sgs
 rw [if_neg (by omega), if_neg (by omega)]
 show (sgsM (p ++ t) (p ++ t).size 0).length = (sgsM t t.size 0).length
 rw [hz, show t.size + 7 = (t.size + 5) + 1 + 1 by omega, sgsM, if_pos (by omega), b0, if_neg (by decide), if_pos (by decide), List.drop_zero, hb, show span nl (37 :: 32 :: 115 :: 97 :: 105 :: 100 :: 10 :: bytesI t) = 6 by simp [span, nl], Nat.zero_add, sgsM, if_pos (by omega), b6, if_pos (by decide)]
 have := sgs_shift p t (by omega) (by rw [hps]; exact b6) (t.size + 5) 0
 rw [hps] at this
 rw [show 6 + 1 = 0 + 7 by rfl, this, sgsM_enough t 0 5 t.size (by omega)]
theorem sgsM_at (t : ByteArray) : ∀ (d i : Nat), ∀ x ∈ sgsM t d i, (i : Int) ≤ x.f3 ∧ x.f3 < t.size
 | 0, i => fun x hx => absurd hx (by simp [sgsM])
 | d + 1, i => by
  intro x hx
  rw [sgsM] at hx
  by_cases hlt : i < t.size
  ·rw [if_pos hlt] at hx
   cases hb : blankM (bt t i) with
   | true =>
    rw [hb, if_pos rfl] at hx
    have := sgsM_at t d (i + 1) x hx
    omega
   | false =>
    rw [hb, if_neg (by decide)] at hx
    cases h37 : bt t i == 37 with
    | true =>
     rw [h37, if_pos rfl] at hx
     have := sgsM_at t d _ x hx
     omega
    | false =>
     rw [h37, if_neg (by decide)] at hx
     rcases List.mem_cons.1 hx with rfl | hx
     ·exact ⟨Int.le_refl _, by show (i : Int) < _; omega⟩
     ·have := sgsM_at t d _ x hx
      omega
  ·rw [if_neg hlt] at hx
   exact absurd hx (by simp)
theorem sgsM_up (t : ByteArray) : ∀ (d i : Nat), (sgsM t d i).Pairwise fun x y => x.f3 < y.f3
 | 0, i => by rw [sgsM]; exact List.Pairwise.nil
 | d + 1, i => by
  rw [sgsM]
  by_cases hlt : i < t.size
  ·rw [if_pos hlt]
   cases hb : blankM (bt t i) with
   | true => rw [if_pos rfl]; exact sgsM_up t d _
   | false =>
    rw [if_neg (by decide)]
    cases h37 : bt t i == 37 with
    | true => rw [if_pos rfl]; exact sgsM_up t d _
    | false =>
     rw [if_neg (by decide)]
     refine List.Pairwise.cons (fun y hy => ?_) (sgsM_up t d _)
     have h1 := sgsM_at t d _ y hy
     have h2 := (signM_at t i hlt).1
     show (i : Int) < y.f3
     omega
  ·rw [if_neg hlt]; exact List.Pairwise.nil
theorem sgs_at (t : ByteArray) : ∀ x ∈ (sgs t).1, x.f3 < t.size := by
 intro x hx
 unfold sgs at hx
 split at hx
 ·exact absurd hx (by simp)
 ·exact (sgsM_at t _ _ x hx).2
theorem sgs_up (t : ByteArray) : (sgs t).1.Pairwise fun x y => x.f3 < y.f3 := by
 unfold sgs
 split
 ·exact List.Pairwise.nil
 ·exact sgsM_up t _ _
theorem law_sn (b : List Int) : Ev (fun k => @laws_FnSigns.f i_run i_ib i_ss k b) true := by
 letI := i_run
 letI := i_ib
 letI := i_ss
 unfold laws_FnSigns.f laws_big.f
 refine Ev.put ?_
 by_cases hb : b.length > 1048576
 ·rw [decide_eq_true (by omega)]; exact Ev.tt (Ev.now _)
 rw [decide_eq_false (by omega)]
 refine Ev.ff ?_
 obtain ⟨t, ht, hd⟩ := draw_ev b (by omega)
 refine Ev.bind hd ?_
 have h1 := impl_sgs t (by omega)
 have h2 := spec_sgs t (by omega)
 have hat := sgs_at t
 have hup := sgs_up t
 have hl := sgs_len t
 have hsaid := sgs_said t
 have h3 := impl_sgs ((⟨#[37,32,115,97,105,100,10]⟩ : ByteArray) ++ t) (by rw [ByteArray.size_append]; show 7 + t.size ≤ _; omega)
 generalize sgs t = x at h1 h2 hat hup hl hsaid
 generalize sgs ((⟨#[37,32,115,97,105,100,10]⟩ : ByteArray) ++ t) = y at h3 hsaid
 obtain ⟨xs, bx⟩ := x
 simp only at hat hup hl hsaid
 refine Ev.bind h1 (Ev.bind h2 ?_)
 simp only [bne_self_eq_false]
 refine Ev.ff ?_
 have hend : Ev (fun k => laws_FnSigns.l0 k b t xs xs (xs.length : Int)) true := by
  obtain ⟨h, hn⟩ := new_ev b (by omega) _ (wrap64 (95101 + (b.length : Int))) 0 (by omega) rfl
  obtain ⟨r, i', h', e, a1, a2, a3, a4⟩ := byte_tells b 0 h (by omega) (by omega) (by omega)
  have hdb : Ev (fun k => spec_DrawSymbolByte.f k b) (r % 256) := by
   unfold spec_DrawSymbolByte.f
   refine Ev.bind (f := fun _ bt223 => (spec_l01Byte.f bt223.1 bt223.2.1 bt223.2.2).bind fun bt227 => (some ((bt227.1) % 256))) (show Ev (fun k => spec_l01New.f k b) (b, 0, h) from hn) ?_
   simp only [e, Option.bind_some]
   exact Ev.now _
  have q0 : 0 ≤ r % 256 := by omega
  have q1 : r % 256 ≤ 255 := by omega
  refine Ev.step (fun k => by simp only [laws_FnSigns.l0, Int.lt_irrefl, if_false] <;> rfl) ?_
  refine Ev.pos (by omega) (Ev.bind h3 (Ev.bind hdb ?_))
  simp only [fun k => e_sym k _ q0 q1, fun k => e_sym k 43 (by omega) (by omega), fun k => e_sym k 97 (by omega) (by omega), Option.bind_some]
  refine Ev.pos (by simp) ?_
  have hs43 : symB 43 = true := by decide
  have hs97 : symB 97 = false := by decide
  simp only [hs43, hs97, Bool.not_false, if_true]
  by_cases hc : (t.size : Int) > 2900
  ·exact Ev.pos hc (Ev.now _)
  ·refine Ev.neg hc (Ev.pos ?_ (Ev.now _))
   have := hsaid (by omega)
   omega
 have hlp : ∀ (d i : Nat), i ≤ xs.length → xs.length - i = d → Ev (fun k => laws_FnSigns.l0 k b t xs xs i) true := by
  intro d
  induction d with
  | zero =>
   intro i hi hd
   rw [show i = xs.length by omega]
   exact hend
  | succ d ih =>
   intro i hi hd
   have hlt : i < xs.length := by omega
   have ha := hat _ (List.getElem_mem hlt)
   refine Ev.step (fun k => ?_) (ih (i + 1) (by omega) (by omega))
   simp only [laws_FnSigns.l0]
   rw [if_pos (by omega), if_pos (by omega), if_pos (by omega), if_neg (by simp), w_next i 3000 (by omega) (by omega), rd46_at xs i hlt]
   by_cases h0 : i = 0
   ·rw [if_neg (by omega), if_neg (by omega)]
   ·have hlt2 : i - 1 < xs.length := by omega
    have hp := List.pairwise_iff_getElem.1 hup (i - 1) i hlt2 hlt (by omega)
    rw [if_pos (by omega), show wrap64 ((i : Int) - 1) = ((i - 1 : Nat) : Int) by unfold wrap64; omega, if_pos (by omega), if_pos (by omega), rd46_at xs (i - 1) hlt2, if_neg (by omega), if_neg (by omega)]
 refine Ev.step (fun k => by simp only [laws_FnSigns.j0, bne_self_eq_false, Bool.false_eq_true, if_false] <;> rfl) ?_
 exact hlp _ 0 (by omega) rfl
theorem sn_walk (A : Option Addr) (c : Nat) (l : List Int) (W : World) (hC : Kd.C (Kd.int .u8) W A l.length l) (hl : l.length ≤ c) :
  Calls Try.prog 12 #[.slice A l.length c] W fun e w' => e = .returned (.bool true) ∧ Below W.heap.size W w' := by
 obtain ⟨k, h⟩ := Ev.rounds (law_sn l)
 exact @laws_FnSigns.calls i_run i_ib i_ss k A c l true W hC hl h
end Go.Proofs.Ytbkibnjpolnajaa.KSn
