/- SumMore of the program and of the reference answer alike, for every sum of 32 bits and every text. No condition. -/
import Derived.Test.YtmbdcobggkhijaaPFnExactSumMorex1
namespace Go.Proofs.Ytmbdcobggkhijaa.Pure
open Go.RowKit Go.Proofs.Ytmbdcobggkhijaa.PFnExactSumMore Go.Proofs.YtmbdcobggkhijaaW.PrintWords Go.Proofs.YtmbdcobggkhijaaW.PrintLast

def crc1 (x : Int) : Int := if Int.tmod x 2 = 1 then Go.bits .xor .u32 ((Int.tdiv x 2) % 4294967296) 3558460437 else (Int.tdiv x 2) % 4294967296
def crcN : Nat → Int → Int
  | 0, x => x
  | n + 1, x => crcN n (crc1 x)
def crcB (x b : Int) : Int := crcN 8 (Go.bits .xor .u32 x (b % 4294967296))
def crcL (x : Int) (l : List Int) : Int := l.foldl crcB x

theorem wrap_small {i : Int} (h0 : -4611686018427387904 ≤ i) (h1 : i ≤ 4611686018427387904) : wrap64 i = i := by
  unfold wrap64; omega

theorem bytes_drop (s : ByteArray) (i : Nat) (h : i < s.size) : (bytesOf s).drop i = bt s i :: (bytesOf s).drop (i + 1) := by
  have hl : i < (bytesOf s).length := by rw [bytesOf_length]; exact h
  rw [List.drop_eq_getElem_cons hl]
  congr 1
  have := rd_bytesOf s i
  unfold rd at this
  rw [← this]
  simp [List.getD, hl]

theorem impl_sum (s : ByteArray) (hs : s.size ≤ 140737488351232) : ∀ k : Nat,
    (∀ x (i : Nat), i ≤ s.size → 10 * (s.size - i) < k → impl_SumMore.l0 k x s i = some (crcL x ((bytesOf s).drop i))) ∧
    (∀ x (i j : Nat), i < s.size → j ≤ 8 → 10 * (s.size - i) < k + j + 1 → impl_SumMore.l1 k x s i j = some (crcL (crcN (8 - j) x) ((bytesOf s).drop (i + 1)))) := by
  intro k
  induction k with
  | zero => exact ⟨fun x i h1 h2 => by omega, fun x i j h1 h2 h3 => by omega⟩
  | succ k ih =>
    obtain ⟨h0, h1⟩ := ih
    constructor
    · intro x i hi hk
      simp only [impl_SumMore.l0]
      by_cases hlt : i < s.size
      · rw [if_pos (by omega), if_pos (by omega)]
        have := h1 (Go.bits .xor .u32 x (bt s i % 4294967296)) i 0 hlt (by omega) (by omega)
        rw [bytes_drop s i hlt]
        exact this
      · rw [if_neg (by omega), List.drop_eq_nil_of_le (by rw [bytesOf_length]; omega)]; rfl
    · intro x i j hi hj hk
      simp only [impl_SumMore.l1]
      by_cases hlt : j < 8
      · rw [if_pos (by omega), wrap_small (by omega) (by omega)]
        have e : 8 - j = (8 - (j + 1)) + 1 := by omega
        have hh := h1 (crc1 x) i (j + 1) hi (by omega) (by omega)
        rw [e]
        show _ = some (crcL (crcN (8 - (j + 1)) (crc1 x)) _)
        rw [← hh]
        unfold crc1
        split <;> rfl
      · rw [if_neg (by omega), wrap_small (by omega) (by omega)]
        have hj8 : j = 8 := by omega
        subst hj8
        exact h0 x (i + 1) (by omega) (by omega)

theorem spec_impl_sum : ∀ k, (∀ x s i, spec_SumMore.l0 k x s i = impl_SumMore.l0 k x s i) ∧ (∀ x s i j, spec_SumMore.l1 k x s i j = impl_SumMore.l1 k x s i j) := by
  intro k
  induction k with
  | zero => exact ⟨fun _ _ _ => by simp only [spec_SumMore.l0, impl_SumMore.l0], fun _ _ _ _ => by simp only [spec_SumMore.l1, impl_SumMore.l1]⟩
  | succ k ih =>
    obtain ⟨h0, h1⟩ := ih
    exact ⟨fun _ _ _ => by simp only [spec_SumMore.l0, impl_SumMore.l0, h1], fun _ _ _ _ => by simp only [spec_SumMore.l1, impl_SumMore.l1, h0, h1]⟩

theorem impl_sum_f (x : Int) (s : ByteArray) (hs : s.size ≤ 140737488351232) (k : Nat) (hk : 10 * s.size < k) : impl_SumMore.f k x s = some (crcL x (bytesOf s)) := by
  have := (impl_sum s hs k).1 x 0 (by omega) (by omega)
  exact this

theorem spec_sum_f (x : Int) (s : ByteArray) (hs : s.size ≤ 140737488351232) (k : Nat) (hk : 10 * s.size < k) : spec_SumMore.f k x s = some (crcL x (bytesOf s)) := by
  rw [← impl_sum_f x s hs k hk]
  exact (spec_impl_sum k).1 x s 0

theorem FnExactSumMore : laws_FnExactSumMore.Pure := by
  intro x s _ hs
  refine ⟨10 * s.size + 1, ?_⟩
  unfold laws_FnExactSumMore.f
  rw [spec_sum_f x s hs _ (by omega), impl_sum_f x s hs _ (by omega)]
  simp

end Go.Proofs.Ytmbdcobggkhijaa.Pure
