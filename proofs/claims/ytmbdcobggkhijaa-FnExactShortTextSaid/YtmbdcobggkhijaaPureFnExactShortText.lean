/- ShortText of the program and of the reference answer alike, for every text. No condition. -/
import Derived.Test.YtmbdcobggkhijaaPFnExactShortTextx1
namespace Go.Proofs.Ytmbdcobggkhijaa.Pure
open Go.RowKit Go.Proofs.Ytmbdcobggkhijaa.PFnExactShortText Go.Proofs.YtmbdcobggkhijaaW.PrintWords Go.Proofs.YtmbdcobggkhijaaW.PrintLast

theorem vt_wrap {i : Int} (h0 : -4611686018427387904 ≤ i) (h1 : i ≤ 4611686018427387904) : wrap64 i = i := by
  unfold wrap64; omega

def vtL : Nat → Int → List Int
  | 0, x => [x % 256]
  | f + 1, x => if x > 127 then ((x % 128 + 128) % 256) :: vtL f (x / 128) else [x % 256]

theorem vtL_length (f : Nat) : ∀ x, (vtL f x).length ≤ f + 1 := by
  induction f with
  | zero => intro x; simp [vtL]
  | succ f ih => intro x; simp only [vtL]; split <;> simp; exact ih _

theorem vt_small (x : Int) (h : ¬ x > 127) (f : Nat) : vtL f x = [x % 256] := by
  cases f with
  | zero => rfl
  | succ f => simp only [vtL]; rw [if_neg h]

theorem vt_rounds (f : Nat) : ∀ (x : Int) (l : List Int) (k : Nat), 0 ≤ x → x ≤ 1152921504606846975 → x < 128 * 128 ^ f → f < k → l.length + f < 1000 →
    spec_l01Var.l0 k x l = some (strOfNums (l ++ vtL f x)) ∧ impl_VarText.l0 k x l = some (strOfNums (l ++ vtL f x), true) := by
  induction f with
  | zero =>
    intro x l k h0 hb h1 hk hl
    obtain ⟨k, rfl⟩ : ∃ m, k = m + 1 := ⟨k - 1, by omega⟩
    have hx : ¬ x > 127 := by simp at h1; omega
    simp only [spec_l01Var.l0, impl_VarText.l0]
    rw [if_neg hx, if_pos (by omega), if_neg hx, if_pos (by omega)]
    exact ⟨rfl, rfl⟩
  | succ f ih =>
    intro x l k h0 hb h1 hk hl
    obtain ⟨k, rfl⟩ : ∃ m, k = m + 1 := ⟨k - 1, by omega⟩
    simp only [spec_l01Var.l0, impl_VarText.l0]
    by_cases hx : x > 127
    · rw [if_pos hx, if_pos (by omega), if_pos hx, if_pos (by omega)]
      have e1 : wrap64 (Int.tdiv x 128) = x / 128 := by
        rw [Int.tdiv_eq_ediv_of_nonneg h0]; exact vt_wrap (by omega) (by omega)
      have e2 : wrap64 (Int.tmod x 128 + 128) = x % 128 + 128 := by
        rw [Int.tmod_eq_emod_of_nonneg h0]; exact vt_wrap (by omega) (by omega)
      rw [e1, e2]
      have h1' : x / 128 < 128 * 128 ^ f := by
        have : (128 : Int) * 128 ^ (f + 1) = (128 * 128 ^ f) * 128 := by rw [Int.pow_succ]; ac_rfl
        rw [this] at h1
        exact Int.ediv_lt_of_lt_mul (by omega) h1
      have := ih (x / 128) (l ++ [(x % 128 + 128) % 256]) k (by omega) (by omega) h1' (by omega) (by simp; omega)
      rw [this.1, this.2]
      simp only [vtL]; rw [if_pos hx]
      simp
    · rw [if_neg hx, if_pos (by omega), if_neg hx, if_pos (by omega)]
      rw [vt_small x hx]
      exact ⟨rfl, rfl⟩

theorem strOfNums_size (l : List Int) : (strOfNums l).size = l.length := by
  unfold strOfNums; simp [ByteArray.size]

theorem FnExactShortText : laws_FnExactShortText.Pure := by
  intro s hs
  refine ⟨6, ?_⟩
  unfold laws_FnExactShortText.f spec_ShortText.f impl_ShortText.f impl_VarText.f impl_within.f spec_l01Var.f
  by_cases h1 : (s.size : Int) > 1048576
  · rw [if_pos h1]
  rw [if_neg h1]
  by_cases h2 : (s.size : Int) > 20000
  · simp only [if_pos h2]; simp
  simp only [if_neg h2]
  have := vt_rounds 5 s.size [] 6 (by omega) (by omega) (by omega) (by omega) (by simp)
  have hl := vtL_length 5 s.size
  have hz : (strOfNums ([] ++ vtL 5 s.size)).size + s.size ≤ 9223372036854775807 := by
    rw [strOfNums_size]; simp; omega
  have h3 : (s.size : Int) ≥ 0 := by omega
  have h4 : (s.size : Int) ≤ 1000000000 := by omega
  rw [this.1, if_pos h3]
  simp only [decide_eq_true h4, Option.bind_some, if_true]
  rw [this.2]
  simp only [Option.bind_some]
  rw [if_pos hz]
  simp

end Go.Proofs.Ytmbdcobggkhijaa.Pure
