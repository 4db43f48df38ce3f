/- The reference's and the program's SymbolByte answer whether the byte is one of the seventeen: by a walk of each. No condition. -/
import Derived.Test.YtmbdcobggkhijaaProg
import Derived.Below
import Derived.WalkKit
import Derived.LoopTactic
import Derived.KernelRfl
import Derived.OpenShut
import Derived.Lib.Strings
import Derived.Lib.Slices
import Derived.Lib.Walk
import Derived.Lib.Bytealg
namespace Go.Proofs.Ytmbdcobggkhijaa.Sym
open Go.RowKit Go.ChangeShapes Go.WideShapes
def symL : List Int := [43, 45, 42, 47, 92, 94, 60, 62, 61, 126, 58, 46, 63, 64, 35, 38, 36]
def symB (b : Int) : Bool := symL.any fun c => c == b
theorem ret_bool {a b : Bool} (h : a = b) : Ending.returned (.bool a) = .returned (.bool b) := by rw [h]
theorem sym_hit (b : Int) (i : Nat) (hi : i < 17) (h : (symL.getD i 0 == b) = true) : symB b = true := by
  unfold symB
  rw [List.any_eq_true]
  have hl : i < symL.length := hi
  refine ⟨symL[i], List.getElem_mem hl, ?_⟩
  have : symL.getD i 0 = symL[i] := by simp [List.getD, hl]
  rw [← this]; exact h
theorem sym_step (b : Int) (i : Nat) (hi : i < 17) (hno : (symL.take i).any (fun c => c == b) = false) (h : (symL.getD i 0 == b) = false) : (symL.take (i + 1)).any (fun c => c == b) = false := by
  have hl : i < symL.length := hi
  have : symL.getD i 0 = symL[i] := by simp [List.getD, hl]
  rw [List.take_succ_eq_append_getElem hl, List.any_append, hno, ← this]
  simpa using h
set_option maxHeartbeats 4000000 in
theorem spec_sym (b : Int) (w : World) :
    Calls Try.prog 15 #[.int .u8 b] w fun e w' => e = .returned (.bool (symB b)) ∧ w' = w := by
  go_enter Try.func15, Try.ntmps15
  go_wp2
  go_loop [4] (fun i => ∃ k : Nat, k ≤ 17 ∧ i = .int .i64 k ∧ (symL.take k).any (fun c => c == b) = false) (fun i => 17 - (intOf i).toNat)
  case atStart => exact ⟨0, by omega, rfl, rfl⟩
  case round =>
    obtain ⟨k, hk, rfl, hno⟩ := hrel
    have hc : k = 0 ∨ k = 1 ∨ k = 2 ∨ k = 3 ∨ k = 4 ∨ k = 5 ∨ k = 6 ∨ k = 7 ∨ k = 8 ∨ k = 9 ∨ k = 10 ∨ k = 11 ∨ k = 12 ∨ k = 13 ∨ k = 14 ∨ k = 15 ∨ k = 16 ∨ k = 17 := by omega
    rcases hc with rfl | rfl | rfl | rfl | rfl | rfl | rfl | rfl | rfl | rfl | rfl | rfl | rfl | rfl | rfl | rfl | rfl | rfl
    · go_wp2
      · go_ret
        have h : (symL.getD 0 0 == b) = true := by assumption
        exact ⟨ret_bool (sym_hit b 0 (by omega) h).symm, rfl⟩
      · have h : (symL.getD 0 0 == b) = false := by assumption
        go_round
        case rel => exact ⟨1, by omega, rfl, sym_step b 0 (by omega) hno h⟩
        case measure => simp [intOf]
    · go_wp2
      · go_ret
        have h : (symL.getD 1 0 == b) = true := by assumption
        exact ⟨ret_bool (sym_hit b 1 (by omega) h).symm, rfl⟩
      · have h : (symL.getD 1 0 == b) = false := by assumption
        go_round
        case rel => exact ⟨2, by omega, rfl, sym_step b 1 (by omega) hno h⟩
        case measure => simp [intOf]
    · go_wp2
      · go_ret
        have h : (symL.getD 2 0 == b) = true := by assumption
        exact ⟨ret_bool (sym_hit b 2 (by omega) h).symm, rfl⟩
      · have h : (symL.getD 2 0 == b) = false := by assumption
        go_round
        case rel => exact ⟨3, by omega, rfl, sym_step b 2 (by omega) hno h⟩
        case measure => simp [intOf]
    · go_wp2
      · go_ret
        have h : (symL.getD 3 0 == b) = true := by assumption
        exact ⟨ret_bool (sym_hit b 3 (by omega) h).symm, rfl⟩
      · have h : (symL.getD 3 0 == b) = false := by assumption
        go_round
        case rel => exact ⟨4, by omega, rfl, sym_step b 3 (by omega) hno h⟩
        case measure => simp [intOf]
    · go_wp2
      · go_ret
        have h : (symL.getD 4 0 == b) = true := by assumption
        exact ⟨ret_bool (sym_hit b 4 (by omega) h).symm, rfl⟩
      · have h : (symL.getD 4 0 == b) = false := by assumption
        go_round
        case rel => exact ⟨5, by omega, rfl, sym_step b 4 (by omega) hno h⟩
        case measure => simp [intOf]
    · go_wp2
      · go_ret
        have h : (symL.getD 5 0 == b) = true := by assumption
        exact ⟨ret_bool (sym_hit b 5 (by omega) h).symm, rfl⟩
      · have h : (symL.getD 5 0 == b) = false := by assumption
        go_round
        case rel => exact ⟨6, by omega, rfl, sym_step b 5 (by omega) hno h⟩
        case measure => simp [intOf]
    · go_wp2
      · go_ret
        have h : (symL.getD 6 0 == b) = true := by assumption
        exact ⟨ret_bool (sym_hit b 6 (by omega) h).symm, rfl⟩
      · have h : (symL.getD 6 0 == b) = false := by assumption
        go_round
        case rel => exact ⟨7, by omega, rfl, sym_step b 6 (by omega) hno h⟩
        case measure => simp [intOf]
    · go_wp2
      · go_ret
        have h : (symL.getD 7 0 == b) = true := by assumption
        exact ⟨ret_bool (sym_hit b 7 (by omega) h).symm, rfl⟩
      · have h : (symL.getD 7 0 == b) = false := by assumption
        go_round
        case rel => exact ⟨8, by omega, rfl, sym_step b 7 (by omega) hno h⟩
        case measure => simp [intOf]
    · go_wp2
      · go_ret
        have h : (symL.getD 8 0 == b) = true := by assumption
        exact ⟨ret_bool (sym_hit b 8 (by omega) h).symm, rfl⟩
      · have h : (symL.getD 8 0 == b) = false := by assumption
        go_round
        case rel => exact ⟨9, by omega, rfl, sym_step b 8 (by omega) hno h⟩
        case measure => simp [intOf]
    · go_wp2
      · go_ret
        have h : (symL.getD 9 0 == b) = true := by assumption
        exact ⟨ret_bool (sym_hit b 9 (by omega) h).symm, rfl⟩
      · have h : (symL.getD 9 0 == b) = false := by assumption
        go_round
        case rel => exact ⟨10, by omega, rfl, sym_step b 9 (by omega) hno h⟩
        case measure => simp [intOf]
    · go_wp2
      · go_ret
        have h : (symL.getD 10 0 == b) = true := by assumption
        exact ⟨ret_bool (sym_hit b 10 (by omega) h).symm, rfl⟩
      · have h : (symL.getD 10 0 == b) = false := by assumption
        go_round
        case rel => exact ⟨11, by omega, rfl, sym_step b 10 (by omega) hno h⟩
        case measure => simp [intOf]
    · go_wp2
      · go_ret
        have h : (symL.getD 11 0 == b) = true := by assumption
        exact ⟨ret_bool (sym_hit b 11 (by omega) h).symm, rfl⟩
      · have h : (symL.getD 11 0 == b) = false := by assumption
        go_round
        case rel => exact ⟨12, by omega, rfl, sym_step b 11 (by omega) hno h⟩
        case measure => simp [intOf]
    · go_wp2
      · go_ret
        have h : (symL.getD 12 0 == b) = true := by assumption
        exact ⟨ret_bool (sym_hit b 12 (by omega) h).symm, rfl⟩
      · have h : (symL.getD 12 0 == b) = false := by assumption
        go_round
        case rel => exact ⟨13, by omega, rfl, sym_step b 12 (by omega) hno h⟩
        case measure => simp [intOf]
    · go_wp2
      · go_ret
        have h : (symL.getD 13 0 == b) = true := by assumption
        exact ⟨ret_bool (sym_hit b 13 (by omega) h).symm, rfl⟩
      · have h : (symL.getD 13 0 == b) = false := by assumption
        go_round
        case rel => exact ⟨14, by omega, rfl, sym_step b 13 (by omega) hno h⟩
        case measure => simp [intOf]
    · go_wp2
      · go_ret
        have h : (symL.getD 14 0 == b) = true := by assumption
        exact ⟨ret_bool (sym_hit b 14 (by omega) h).symm, rfl⟩
      · have h : (symL.getD 14 0 == b) = false := by assumption
        go_round
        case rel => exact ⟨15, by omega, rfl, sym_step b 14 (by omega) hno h⟩
        case measure => simp [intOf]
    · go_wp2
      · go_ret
        have h : (symL.getD 15 0 == b) = true := by assumption
        exact ⟨ret_bool (sym_hit b 15 (by omega) h).symm, rfl⟩
      · have h : (symL.getD 15 0 == b) = false := by assumption
        go_round
        case rel => exact ⟨16, by omega, rfl, sym_step b 15 (by omega) hno h⟩
        case measure => simp [intOf]
    · go_wp2
      · go_ret
        have h : (symL.getD 16 0 == b) = true := by assumption
        exact ⟨ret_bool (sym_hit b 16 (by omega) h).symm, rfl⟩
      · have h : (symL.getD 16 0 == b) = false := by assumption
        go_round
        case rel => exact ⟨17, by omega, rfl, sym_step b 16 (by omega) hno h⟩
        case measure => simp [intOf]
    · go_wp2
      go_ret
      exact ⟨ret_bool hno.symm, rfl⟩
set_option maxHeartbeats 1000000 in
set_option maxRecDepth 100000 in
theorem lite_index (s : ByteArray) (c : Int) (w : World) :
    Calls Try.prog 46 #[.string s, .int .u8 c] w fun e w' => e = .returned (.int .i64 (Lib.indexByte s.data.toList c.toNat.toUInt8)) ∧ w' = w := by
  go_enter Try.func46, Try.ntmps46
  go_wp2
  rw [run_callFunc_extern Try.func48 (by kernel_rfl) (by kernel_rfl) (by kernel_rfl) (e := Extern.BytealgIndexByte.indexByte) (by kernel_rfl), Lib.run_indexByteString]
  simp only [Result.andThen]
  rw [Oper.upon_value]
  go_wp2
  go_ret
  exact ⟨rfl, rfl⟩
set_option maxHeartbeats 1000000 in
theorem index_byte (s : ByteArray) (c : Int) (w : World) :
    Calls Try.prog 38 #[.string s, .int .u8 c] w fun e w' => e = .returned (.int .i64 (Lib.indexByte s.data.toList c.toNat.toUInt8)) ∧ w' = w := by
  go_enter Try.func38, Try.ntmps38
  go_wp2_with (go_at_call 46; refine (lite_index _ _ _).mono ?_; rintro e w' ⟨rfl, rfl⟩)
  go_ret
  exact ⟨rfl, rfl⟩
theorem index_any (l : List UInt8) (b : Int) (h0 : 0 ≤ b) (h1 : b ≤ 255) : decide (Lib.indexByte l b.toNat.toUInt8 ≥ 0) = l.any fun c => (c.toNat : Int) == b := by
  induction l with
  | nil => rfl
  | cons c l ih =>
    have e : (c == b.toNat.toUInt8) = ((c.toNat : Int) == b) := by
      rw [Bool.eq_iff_iff, beq_iff_eq, beq_iff_eq, ← UInt8.toNat_inj]
      have : b.toNat.toUInt8.toNat = b.toNat := by
        rw [Nat.toUInt8_eq, UInt8.toNat_ofNat']; omega
      rw [this]; omega
    have hge := Lib.indexByte_ge l b.toNat.toUInt8
    rw [List.any_cons, ← ih, ← e, show Lib.indexByte (c :: l) b.toNat.toUInt8 = if c == b.toNat.toUInt8 then 0 else if Lib.indexByte l b.toNat.toUInt8 == -1 then -1 else Lib.indexByte l b.toNat.toUInt8 + 1 from rfl]
    cases c == b.toNat.toUInt8
    · simp only [Bool.false_eq_true, if_false, Bool.false_or]
      by_cases h : Lib.indexByte l b.toNat.toUInt8 == -1
      · rw [if_pos h]; have := beq_iff_eq.1 h; rw [this]
      · rw [if_neg h]
        have : Lib.indexByte l b.toNat.toUInt8 ≠ -1 := by simpa using h
        rw [decide_eq_true (by omega), decide_eq_true (by omega)]
    · rfl
set_option maxHeartbeats 1000000 in
theorem impl_sym (b : Int) (w : World) (h0 : 0 ≤ b) (h1 : b ≤ 255) :
    Calls Try.prog 16 #[.int .u8 b] w fun e w' => e = .returned (.bool (symB b)) ∧ w' = w := by
  have hx := index_any [43, 45, 42, 47, 92, 94, 60, 62, 61, 126, 58, 46, 63, 64, 35, 38, 36] b h0 h1
  go_enter Try.func16, Try.ntmps16
  go_wp2_with (go_at_call 38; refine (index_byte _ _ _).mono ?_; rintro e w' ⟨rfl, rfl⟩)
  go_ret
  exact ⟨ret_bool (by simp only [symB, symL, List.any_cons, List.any_nil, Bool.or_false]), rfl⟩
set_option maxHeartbeats 1000000 in
theorem law_walk (b : Int) (w : World) (hb : (Lit.int .u8 b).wf = true) :
    Calls Try.prog 4 #[.int .u8 b] w fun e w' => e = .returned (.bool true) ∧ Below w.heap.size w w' := by
  have h0 := bounds_u8 hb
  go_enter Try.func4, Try.ntmps4
  go_wp2_with (first
    | (go_at_call 15; refine (spec_sym _ _).mono ?_; rintro e w' ⟨rfl, rfl⟩)
    | (go_at_call 16; refine (impl_sym _ _ h0.1 h0.2).mono ?_; rintro e w' ⟨rfl, rfl⟩))
  go_ret
  exact ⟨rfl, Below.refl _ _⟩
end Go.Proofs.Ytmbdcobggkhijaa.Sym
