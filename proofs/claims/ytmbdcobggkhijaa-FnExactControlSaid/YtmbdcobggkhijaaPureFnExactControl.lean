/- Control of the program and of the reference answer alike, for every text. No condition. -/
import Derived.Test.YtmbdcobggkhijaaPFnExactControlx1
namespace Go.Proofs.Ytmbdcobggkhijaa.Pure
open Go.RowKit Go.Proofs.Ytmbdcobggkhijaa.PFnExactControl Go.Proofs.YtmbdcobggkhijaaW.PrintWords Go.Proofs.YtmbdcobggkhijaaW.PrintLast

def ctl : List (List UInt8) := [([116, 114, 117, 101, 47, 48] : List UInt8), ([102, 97, 105, 108, 47, 48] : List UInt8), ([33, 47, 48] : List UInt8), ([44, 47, 50] : List UInt8), ([59, 47, 50] : List UInt8), ([45, 62, 47, 50] : List UInt8), ([92, 43, 47, 49] : List UInt8), ([99, 97, 108, 108, 47, 49] : List UInt8), ([99, 97, 108, 108, 47, 50] : List UInt8), ([99, 97, 108, 108, 47, 51] : List UInt8), ([99, 97, 116, 99, 104, 47, 51] : List UInt8), ([116, 104, 114, 111, 119, 47, 49] : List UInt8), ([61, 47, 50] : List UInt8), ([92, 61, 47, 50] : List UInt8), ([61, 61, 47, 50] : List UInt8), ([105, 115, 47, 50] : List UInt8), ([60, 47, 50] : List UInt8), ([61, 58, 61, 47, 50] : List UInt8), ([118, 97, 114, 47, 49] : List UInt8), ([97, 116, 111, 109, 47, 49] : List UInt8), ([119, 114, 105, 116, 101, 47, 49] : List UInt8), ([97, 115, 115, 101, 114, 116, 122, 47, 49] : List UInt8), ([114, 101, 116, 114, 97, 99, 116, 47, 49] : List UInt8), ([58, 45, 47, 50] : List UInt8), ([58, 45, 47, 49] : List UInt8), ([45, 45, 62, 47, 50] : List UInt8)]
def ctlB : List ByteArray := [(⟨#[116, 114, 117, 101, 47, 48]⟩ : ByteArray), (⟨#[102, 97, 105, 108, 47, 48]⟩ : ByteArray), (⟨#[33, 47, 48]⟩ : ByteArray), (⟨#[44, 47, 50]⟩ : ByteArray), (⟨#[59, 47, 50]⟩ : ByteArray), (⟨#[45, 62, 47, 50]⟩ : ByteArray), (⟨#[92, 43, 47, 49]⟩ : ByteArray), (⟨#[99, 97, 108, 108, 47, 49]⟩ : ByteArray), (⟨#[99, 97, 108, 108, 47, 50]⟩ : ByteArray), (⟨#[99, 97, 108, 108, 47, 51]⟩ : ByteArray), (⟨#[99, 97, 116, 99, 104, 47, 51]⟩ : ByteArray), (⟨#[116, 104, 114, 111, 119, 47, 49]⟩ : ByteArray), (⟨#[61, 47, 50]⟩ : ByteArray), (⟨#[92, 61, 47, 50]⟩ : ByteArray), (⟨#[61, 61, 47, 50]⟩ : ByteArray), (⟨#[105, 115, 47, 50]⟩ : ByteArray), (⟨#[60, 47, 50]⟩ : ByteArray), (⟨#[61, 58, 61, 47, 50]⟩ : ByteArray), (⟨#[118, 97, 114, 47, 49]⟩ : ByteArray), (⟨#[97, 116, 111, 109, 47, 49]⟩ : ByteArray), (⟨#[119, 114, 105, 116, 101, 47, 49]⟩ : ByteArray), (⟨#[97, 115, 115, 101, 114, 116, 122, 47, 49]⟩ : ByteArray), (⟨#[114, 101, 116, 114, 97, 99, 116, 47, 49]⟩ : ByteArray), (⟨#[58, 45, 47, 50]⟩ : ByteArray), (⟨#[58, 45, 47, 49]⟩ : ByteArray), (⟨#[45, 45, 62, 47, 50]⟩ : ByteArray)]

theorem spec_control (k : Nat) (s : ByteArray) (hk : 1 ≤ k) : spec_Control.f k s = some (ctl.any fun y => s.toList == y) := by
  obtain ⟨k, rfl⟩ : ∃ m, k = m + 1 := ⟨k - 1, by omega⟩
  simp only [spec_Control.f, spec_Control.j0]
  generalize s.toList = x
  by_cases h : x = ([116, 114, 117, 101, 47, 48] : List UInt8)
  · subst h; rfl
  have e0 : (x == ([116, 114, 117, 101, 47, 48] : List UInt8)) = false := by simpa using h
  have n0 := h
  clear h
  by_cases h : x = ([102, 97, 105, 108, 47, 48] : List UInt8)
  · subst h; rfl
  have e1 : (x == ([102, 97, 105, 108, 47, 48] : List UInt8)) = false := by simpa using h
  have n1 := h
  clear h
  by_cases h : x = ([33, 47, 48] : List UInt8)
  · subst h; rfl
  have e2 : (x == ([33, 47, 48] : List UInt8)) = false := by simpa using h
  have n2 := h
  clear h
  by_cases h : x = ([44, 47, 50] : List UInt8)
  · subst h; rfl
  have e3 : (x == ([44, 47, 50] : List UInt8)) = false := by simpa using h
  have n3 := h
  clear h
  by_cases h : x = ([59, 47, 50] : List UInt8)
  · subst h; rfl
  have e4 : (x == ([59, 47, 50] : List UInt8)) = false := by simpa using h
  have n4 := h
  clear h
  by_cases h : x = ([45, 62, 47, 50] : List UInt8)
  · subst h; rfl
  have e5 : (x == ([45, 62, 47, 50] : List UInt8)) = false := by simpa using h
  have n5 := h
  clear h
  by_cases h : x = ([92, 43, 47, 49] : List UInt8)
  · subst h; rfl
  have e6 : (x == ([92, 43, 47, 49] : List UInt8)) = false := by simpa using h
  have n6 := h
  clear h
  by_cases h : x = ([99, 97, 108, 108, 47, 49] : List UInt8)
  · subst h; rfl
  have e7 : (x == ([99, 97, 108, 108, 47, 49] : List UInt8)) = false := by simpa using h
  have n7 := h
  clear h
  by_cases h : x = ([99, 97, 108, 108, 47, 50] : List UInt8)
  · subst h; rfl
  have e8 : (x == ([99, 97, 108, 108, 47, 50] : List UInt8)) = false := by simpa using h
  have n8 := h
  clear h
  by_cases h : x = ([99, 97, 108, 108, 47, 51] : List UInt8)
  · subst h; rfl
  have e9 : (x == ([99, 97, 108, 108, 47, 51] : List UInt8)) = false := by simpa using h
  have n9 := h
  clear h
  by_cases h : x = ([99, 97, 116, 99, 104, 47, 51] : List UInt8)
  · subst h; rfl
  have e10 : (x == ([99, 97, 116, 99, 104, 47, 51] : List UInt8)) = false := by simpa using h
  have n10 := h
  clear h
  by_cases h : x = ([116, 104, 114, 111, 119, 47, 49] : List UInt8)
  · subst h; rfl
  have e11 : (x == ([116, 104, 114, 111, 119, 47, 49] : List UInt8)) = false := by simpa using h
  have n11 := h
  clear h
  by_cases h : x = ([61, 47, 50] : List UInt8)
  · subst h; rfl
  have e12 : (x == ([61, 47, 50] : List UInt8)) = false := by simpa using h
  have n12 := h
  clear h
  by_cases h : x = ([92, 61, 47, 50] : List UInt8)
  · subst h; rfl
  have e13 : (x == ([92, 61, 47, 50] : List UInt8)) = false := by simpa using h
  have n13 := h
  clear h
  by_cases h : x = ([61, 61, 47, 50] : List UInt8)
  · subst h; rfl
  have e14 : (x == ([61, 61, 47, 50] : List UInt8)) = false := by simpa using h
  have n14 := h
  clear h
  by_cases h : x = ([105, 115, 47, 50] : List UInt8)
  · subst h; rfl
  have e15 : (x == ([105, 115, 47, 50] : List UInt8)) = false := by simpa using h
  have n15 := h
  clear h
  by_cases h : x = ([60, 47, 50] : List UInt8)
  · subst h; rfl
  have e16 : (x == ([60, 47, 50] : List UInt8)) = false := by simpa using h
  have n16 := h
  clear h
  by_cases h : x = ([61, 58, 61, 47, 50] : List UInt8)
  · subst h; rfl
  have e17 : (x == ([61, 58, 61, 47, 50] : List UInt8)) = false := by simpa using h
  have n17 := h
  clear h
  by_cases h : x = ([118, 97, 114, 47, 49] : List UInt8)
  · subst h; rfl
  have e18 : (x == ([118, 97, 114, 47, 49] : List UInt8)) = false := by simpa using h
  have n18 := h
  clear h
  by_cases h : x = ([97, 116, 111, 109, 47, 49] : List UInt8)
  · subst h; rfl
  have e19 : (x == ([97, 116, 111, 109, 47, 49] : List UInt8)) = false := by simpa using h
  have n19 := h
  clear h
  by_cases h : x = ([119, 114, 105, 116, 101, 47, 49] : List UInt8)
  · subst h; rfl
  have e20 : (x == ([119, 114, 105, 116, 101, 47, 49] : List UInt8)) = false := by simpa using h
  have n20 := h
  clear h
  by_cases h : x = ([97, 115, 115, 101, 114, 116, 122, 47, 49] : List UInt8)
  · subst h; rfl
  have e21 : (x == ([97, 115, 115, 101, 114, 116, 122, 47, 49] : List UInt8)) = false := by simpa using h
  have n21 := h
  clear h
  by_cases h : x = ([114, 101, 116, 114, 97, 99, 116, 47, 49] : List UInt8)
  · subst h; rfl
  have e22 : (x == ([114, 101, 116, 114, 97, 99, 116, 47, 49] : List UInt8)) = false := by simpa using h
  have n22 := h
  clear h
  by_cases h : x = ([58, 45, 47, 50] : List UInt8)
  · subst h; rfl
  have e23 : (x == ([58, 45, 47, 50] : List UInt8)) = false := by simpa using h
  have n23 := h
  clear h
  by_cases h : x = ([58, 45, 47, 49] : List UInt8)
  · subst h; rfl
  have e24 : (x == ([58, 45, 47, 49] : List UInt8)) = false := by simpa using h
  have n24 := h
  clear h
  by_cases h : x = ([45, 45, 62, 47, 50] : List UInt8)
  · subst h; rfl
  have e25 : (x == ([45, 45, 62, 47, 50] : List UInt8)) = false := by simpa using h
  have n25 := h
  clear h
  simp only [ctl, List.any_cons, List.any_nil, n0, n1, n2, n3, n4, n5, n6, n7, n8, n9, n10, n12, n13, n14, n15, n16, n17, n18, n19, n20, n21, n22, n23, n24, n25, e0, e1, e2, e3, e4, e5, e6, e7, e8, e9, e10, e11, e12, e13, e14, e15, e16, e17, e18, e19, e20, e21, e22, e23, e24, e25, if_false, Bool.or_false, Bool.false_eq_true]
theorem si_wrap {i : Int} (h0 : -4611686018427387904 ≤ i) (h1 : i ≤ 4611686018427387904) : wrap64 i = i := by
  unfold wrap64; omega

theorem str_index (xs : List ByteArray) (v : ByteArray) (hx : xs.length ≤ 4611686018427387000) (d : Nat) : ∀ (k i : Nat), i ≤ xs.length → xs.length - i = d → d < k →
    ∃ r, slices_Index_string_string.l0 k xs v xs.length i = some r ∧ decide (r ≥ 0) = (xs.drop i).any fun y => v.toList == y.toList := by
  induction d with
  | zero =>
    intro k i hi hd hk
    obtain ⟨k, rfl⟩ : ∃ m, k = m + 1 := ⟨k - 1, by omega⟩
    refine ⟨-1, ?_, ?_⟩
    · simp only [slices_Index_string_string.l0]; rw [if_neg (by omega)]
    · rw [List.drop_eq_nil_of_le (by omega)]; rfl
  | succ d ih =>
    intro k i hi hd hk
    obtain ⟨k, rfl⟩ : ∃ m, k = m + 1 := ⟨k - 1, by omega⟩
    have hlt : i < xs.length := by omega
    have e : rdOf ByteArray.empty xs (i : Int) = xs[i] := by simp [rdOf, List.getD, hlt]
    rw [List.drop_eq_getElem_cons hlt, List.any_cons]
    simp only [slices_Index_string_string.l0]
    rw [if_pos (by omega), if_pos (by omega), if_pos (by omega), e]
    by_cases h : v.toList = (xs[i]).toList
    · rw [if_pos h]; exact ⟨i, rfl, by rw [h]; simp⟩
    · rw [if_neg h]
      obtain ⟨r, hr, h2⟩ := ih k (i + 1) (by omega) (by omega) (by omega)
      refine ⟨r, ?_, ?_⟩
      · rw [si_wrap (by omega) (by omega)]; exact hr
      · rw [h2]; simp [h]

theorem impl_control (k : Nat) (s : ByteArray) (hk : 30 ≤ k) : impl_Control.f k s = some (ctl.any fun y => s.toList == y) := by
  unfold impl_Control.f slices_Contains_string_string.f slices_Index_string_string.f
  obtain ⟨r, hr, h2⟩ := str_index ctlB s (by decide) 26 k 0 (by decide) rfl (by omega)
  rw [show ((0 : Nat) : Int) = 0 from rfl] at hr
  show ((slices_Index_string_string.l0 k ctlB s (ctlB.length : Int) 0).bind fun _ => _).bind (fun _ => _) = _
  rw [hr]
  simp only [Option.bind_some]
  rw [h2]
  simp only [ByteArray.toList_eq, List.drop_zero]
  rfl

theorem FnExactControl : laws_FnExactControl.Pure := by
  intro s hs
  refine ⟨30, ?_⟩
  unfold laws_FnExactControl.f
  rw [spec_control _ s (by omega), impl_control _ s (by omega)]
  simp

end Go.Proofs.Ytmbdcobggkhijaa.Pure
