/- Unsealed of the program and of the reference answer alike, for every text. No condition. -/
import Derived.Test.YtbkibnjpolnajaaPFnExactUnsealedx2
namespace Go.Proofs.Ytbkibnjpolnajaa.Pure
open Go.RowKit Go.Proofs.Ytbkibnjpolnajaa.PFnExactUnsealed Go.Proofs.YtbkibnjpolnajaaW.PrintWords Go.Proofs.YtbkibnjpolnajaaW.PrintLast

def crc1 (x : Int) : Int := if Int.tmod x 2 = 1 then Go.bits .xor .u32 ((Int.tdiv x 2) % 4294967296) 3558460437 else (Int.tdiv x 2) % 4294967296
def crcN : Nat → Int → Int
  | 0, x => x
  | n + 1, x => crcN n (crc1 x)
def crcB (x b : Int) : Int := crcN 8 (Go.bits .xor .u32 x (b % 4294967296))
def crcL (x : Int) (l : List Int) : Int := l.foldl crcB x

theorem wrap_small {i : Int} (h0 : -4611686018427387904 ≤ i) (h1 : i ≤ 4611686018427387904) : wrap64 i = i := by
  unfold wrap64; omega

theorem bytes_drop (s : ByteArray) (i : Nat) (h : i < s.size) : (bytesOf s).drop i = bt s i :: (bytesOf s).drop (i + 1) := by
  have hl : i < (bytesOf s).length := by rw [bytesOf_length]; exact h
  rw [List.drop_eq_getElem_cons hl]
  congr 1
  have := rd_bytesOf s i
  unfold rd at this
  rw [← this]
  simp [List.getD, hl]

theorem impl_sum (s : ByteArray) (hs : s.size ≤ 140737488351232) : ∀ k : Nat,
    (∀ x (i : Nat), i ≤ s.size → 10 * (s.size - i) < k → impl_SumMore.l0 k x s i = some (crcL x ((bytesOf s).drop i))) ∧
    (∀ x (i j : Nat), i < s.size → j ≤ 8 → 10 * (s.size - i) < k + j + 1 → impl_SumMore.l1 k x s i j = some (crcL (crcN (8 - j) x) ((bytesOf s).drop (i + 1)))) := by
  intro k
  induction k with
  | zero => exact ⟨fun x i h1 h2 => by omega, fun x i j h1 h2 h3 => by omega⟩
  | succ k ih =>
    obtain ⟨h0, h1⟩ := ih
    constructor
    · intro x i hi hk
      simp only [impl_SumMore.l0]
      by_cases hlt : i < s.size
      · rw [if_pos (by omega), if_pos (by omega)]
        have := h1 (Go.bits .xor .u32 x (bt s i % 4294967296)) i 0 hlt (by omega) (by omega)
        rw [bytes_drop s i hlt]
        exact this
      · rw [if_neg (by omega), List.drop_eq_nil_of_le (by rw [bytesOf_length]; omega)]; rfl
    · intro x i j hi hj hk
      simp only [impl_SumMore.l1]
      by_cases hlt : j < 8
      · rw [if_pos (by omega), wrap_small (by omega) (by omega)]
        have e : 8 - j = (8 - (j + 1)) + 1 := by omega
        have hh := h1 (crc1 x) i (j + 1) hi (by omega) (by omega)
        rw [e]
        show _ = some (crcL (crcN (8 - (j + 1)) (crc1 x)) _)
        rw [← hh]
        unfold crc1
        split <;> rfl
      · rw [if_neg (by omega), wrap_small (by omega) (by omega)]
        have hj8 : j = 8 := by omega
        subst hj8
        exact h0 x (i + 1) (by omega) (by omega)

theorem spec_impl_sum : ∀ k, (∀ x s i, spec_SumMore.l0 k x s i = impl_SumMore.l0 k x s i) ∧ (∀ x s i j, spec_SumMore.l1 k x s i j = impl_SumMore.l1 k x s i j) := by
  intro k
  induction k with
  | zero => exact ⟨fun _ _ _ => by simp only [spec_SumMore.l0, impl_SumMore.l0], fun _ _ _ _ => by simp only [spec_SumMore.l1, impl_SumMore.l1]⟩
  | succ k ih =>
    obtain ⟨h0, h1⟩ := ih
    exact ⟨fun _ _ _ => by simp only [spec_SumMore.l0, impl_SumMore.l0, h1], fun _ _ _ _ => by simp only [spec_SumMore.l1, impl_SumMore.l1, h0, h1]⟩

theorem impl_sum_f (x : Int) (s : ByteArray) (hs : s.size ≤ 140737488351232) (k : Nat) (hk : 10 * s.size < k) : impl_SumMore.f k x s = some (crcL x (bytesOf s)) := by
  have := (impl_sum s hs k).1 x 0 (by omega) (by omega)
  exact this

theorem spec_sum_f (x : Int) (s : ByteArray) (hs : s.size ≤ 140737488351232) (k : Nat) (hk : 10 * s.size < k) : spec_SumMore.f k x s = some (crcL x (bytesOf s)) := by
  rw [← impl_sum_f x s hs k hk]
  exact (spec_impl_sum k).1 x s 0
theorem cut_toList (s : ByteArray) (n : Nat) : s.toList = (s.extract 0 n).toList ++ (s.extract n s.size).toList := by
  rw [ByteArray.toList_eq, ByteArray.toList_eq, ByteArray.toList_eq, ByteArray.data_extract, ByteArray.data_extract, Array.toList_extract, Array.toList_extract, List.extract_eq_take_drop, List.extract_eq_take_drop, List.drop_zero, Nat.sub_zero]
  have : s.size = s.data.toList.length := by rw [Array.length_toList]; rfl
  rw [this, ← List.length_drop, List.take_length, List.take_append_drop]
theorem app_toList (a b : ByteArray) : (a ++ b).toList = a.toList ++ b.toList := by
  rw [ByteArray.toList_eq, ByteArray.toList_eq, ByteArray.toList_eq, ByteArray.data_append, Array.toList_append]

theorem FnExactUnsealed : laws_FnExactUnsealed.Pure := by
  intro s hs
  refine ⟨10 * s.size + 1, ?_⟩
  unfold laws_FnExactUnsealed.f
  by_cases h1 : (s.size : Int) > 1048576
  · rw [if_pos h1]
  rw [if_neg h1]
  unfold spec_Unsealed.f impl_Unsealed.f impl_Sealed.f spec_SumOf.f impl_SumOf.f spec_l02Four.f
  have e : wrap64 ((s.size : Int) - 4) = s.size - 4 := wrap_small (by omega) (by omega)
  rw [e]
  by_cases h4 : (s.size : Int) < 4
  · rw [if_pos h4, if_pos (by omega)]; simp
  rw [if_neg h4, if_neg (by omega)]
  have hz : ((s.extract 0 ((s.size : Int) - 4).toNat).size : Int) = s.size - 4 := by rw [ByteArray.size_extract]; omega
  have hz' : (s.extract 0 ((s.size : Int) - 4).toNat).size ≤ s.size := by omega
  rw [hz]
  by_cases h2 : (s.size : Int) - 4 > 20000
  · rw [if_pos h2, if_pos (show (0 : Int) ≤ s.size - 4 by omega), if_pos (show (s.size : Int) - 4 ≤ s.size by omega), if_pos h2]; simp
  simp only [if_neg h2]
  rw [if_pos (show (0 : Int) ≤ s.size - 4 by omega), if_pos (show (s.size : Int) - 4 ≤ s.size by omega), if_pos (show (0 : Int) ≤ s.size - 4 by omega), if_pos (show (s.size : Int) - 4 ≤ s.size by omega)]
  rw [spec_sum_f _ _ (by omega) _ (by omega), impl_sum_f _ _ (by omega) _ (by omega)]
  simp only [Option.bind_some]
  have hf : ∀ a b c d : Int, (strOfNums [a, b, c, d]).size = 4 := fun _ _ _ _ => rfl
  rw [hf]
  simp only [if_pos (show (s.extract 0 ((s.size : Int) - 4).toNat).size + 4 ≤ 9223372036854775807 by omega), Option.bind_some, if_true]
  obtain ⟨q, hq⟩ : ∃ q, strOfNums [crcL 4294967295 (bytesOf (s.extract 0 ((s.size : Int) - 4).toNat)) / 16777216 % 256, crcL 4294967295 (bytesOf (s.extract 0 ((s.size : Int) - 4).toNat)) / 65536 % 256, crcL 4294967295 (bytesOf (s.extract 0 ((s.size : Int) - 4).toNat)) / 256 % 256, crcL 4294967295 (bytesOf (s.extract 0 ((s.size : Int) - 4).toNat)) % 256] = q := ⟨_, rfl⟩
  rw [hq, app_toList]
  have hc := cut_toList s ((s.size : Int) - 4).toNat
  by_cases h : (s.extract ((s.size : Int) - 4).toNat s.size).toList = q.toList
  · rw [if_pos h, if_pos (by rw [← h]; exact hc.symm)]; simp
  · rw [if_neg h, if_neg (by
      intro h'
      rw [hc] at h'
      exact h (List.append_cancel_left h').symm)]
    simp

end Go.Proofs.Ytbkibnjpolnajaa.Pure
