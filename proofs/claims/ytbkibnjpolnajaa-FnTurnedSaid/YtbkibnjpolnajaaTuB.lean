/- The plain part of FnTurned: what is drawn lies in its range; the sum is one-to-one. -/
import Derived.Test.YtbkibnjpolnajaaTuA
namespace Go.Proofs.Ytbkibnjpolnajaa.TuB
open Go.RowKit Go.Proofs.YtbkibnjpolnajaaW.PrintWords Go.Proofs.YtbkibnjpolnajaaW.PrintLast Go.Proofs.YtbkibnjpolnajaaW.PrintMore Go.Proofs.Ytbkibnjpolnajaa.KTu Go.Proofs.Ytbkibnjpolnajaa.TuA
set_option linter.unusedVariables false
set_option linter.unusedSimpArgs false
def crc1 (x : Int) : Int := if Int.tmod x 2 = 1 then Go.bits .xor .u32 ((Int.tdiv x 2) % 4294967296) 3558460437 else (Int.tdiv x 2) % 4294967296
def crcN : Nat → Int → Int
  | 0, x => x
  | n + 1, x => crcN n (crc1 x)
def crcB (x b : Int) : Int := crcN 8 (Go.bits .xor .u32 x (b % 4294967296))
def crcL (x : Int) (l : List Int) : Int := l.foldl crcB x

theorem wrap_small {i : Int} (h0 : -4611686018427387904 ≤ i) (h1 : i ≤ 4611686018427387904) : wrap64 i = i := by
  unfold wrap64; omega

theorem bytes_drop (s : ByteArray) (i : Nat) (h : i < s.size) : (bytesOf s).drop i = bt s i :: (bytesOf s).drop (i + 1) := by
  have hl : i < (bytesOf s).length := by rw [bytesOf_length]; exact h
  rw [List.drop_eq_getElem_cons hl]
  congr 1
  have := rd_bytesOf s i
  unfold rd at this
  rw [← this]
  simp [List.getD, hl]

theorem impl_sum (s : ByteArray) (hs : s.size ≤ 140737488351232) : ∀ k : Nat,
    (∀ x (i : Nat), i ≤ s.size → 10 * (s.size - i) < k → impl_SumMore.l0 k x s i = some (crcL x ((bytesOf s).drop i))) ∧
    (∀ x (i j : Nat), i < s.size → j ≤ 8 → 10 * (s.size - i) < k + j + 1 → impl_SumMore.l1 k x s i j = some (crcL (crcN (8 - j) x) ((bytesOf s).drop (i + 1)))) := by
  intro k
  induction k with
  | zero => exact ⟨fun x i h1 h2 => by omega, fun x i j h1 h2 h3 => by omega⟩
  | succ k ih =>
    obtain ⟨h0, h1⟩ := ih
    constructor
    · intro x i hi hk
      simp only [impl_SumMore.l0]
      by_cases hlt : i < s.size
      · rw [if_pos (by omega), if_pos (by omega)]
        have := h1 (Go.bits .xor .u32 x (bt s i % 4294967296)) i 0 hlt (by omega) (by omega)
        rw [bytes_drop s i hlt]
        exact this
      · rw [if_neg (by omega), List.drop_eq_nil_of_le (by rw [bytesOf_length]; omega)]; rfl
    · intro x i j hi hj hk
      simp only [impl_SumMore.l1]
      by_cases hlt : j < 8
      · rw [if_pos (by omega), wrap_small (by omega) (by omega)]
        have e : 8 - j = (8 - (j + 1)) + 1 := by omega
        have hh := h1 (crc1 x) i (j + 1) hi (by omega) (by omega)
        rw [e]
        show _ = some (crcL (crcN (8 - (j + 1)) (crc1 x)) _)
        rw [← hh]
        unfold crc1
        split <;> rfl
      · rw [if_neg (by omega), wrap_small (by omega) (by omega)]
        have hj8 : j = 8 := by omega
        subst hj8
        exact h0 x (i + 1) (by omega) (by omega)

theorem impl_sum_f (x : Int) (s : ByteArray) (hs : s.size ≤ 140737488351232) (k : Nat) (hk : 10 * s.size < k) : impl_SumMore.f k x s = some (crcL x (bytesOf s)) := by
  have := (impl_sum s hs k).1 x 0 (by omega) (by omega)
  exact this

theorem cut_toList (s : ByteArray) (n : Nat) : s.toList = (s.extract 0 n).toList ++ (s.extract n s.size).toList := by
  rw [ByteArray.toList_eq, ByteArray.toList_eq, ByteArray.toList_eq, ByteArray.data_extract, ByteArray.data_extract, Array.toList_extract, Array.toList_extract, List.extract_eq_take_drop, List.extract_eq_take_drop, List.drop_zero, Nat.sub_zero]
  have : s.size = s.data.toList.length := by rw [Array.length_toList]; rfl
  rw [this, ← List.length_drop, List.take_length, List.take_append_drop]
theorem app_toList (a b : ByteArray) : (a ++ b).toList = a.toList ++ b.toList := by
  rw [ByteArray.toList_eq, ByteArray.toList_eq, ByteArray.toList_eq, ByteArray.data_append, Array.toList_append]
/-! #### the sum: one-to-one in what came in, and in each byte -/
theorem xor32 (a b : Nat) (ha : a < 4294967296) (hb : b < 4294967296) : Go.bits .xor .u32 (a : Int) (b : Int) = ((a ^^^ b : Nat) : Int) ∧ a ^^^ b < 4294967296 := by
  have hlt : a ^^^ b < 2 ^ 32 := Nat.xor_lt_two_pow ha hb
  refine ⟨?_, hlt⟩
  have e1 : BitVec.ofInt 32 (a : Int) = BitVec.ofNat 32 a := by apply BitVec.eq_of_toNat_eq; simp
  have e2 : BitVec.ofInt 32 (b : Int) = BitVec.ofNat 32 b := by apply BitVec.eq_of_toNat_eq; simp
  show IntKind.u32.wrap ((BitVec.ofInt 32 (a : Int) ^^^ BitVec.ofInt 32 (b : Int)).toNat : Int) = _
  rw [e1, e2, BitVec.toNat_xor, BitVec.toNat_ofNat, BitVec.toNat_ofNat, Nat.mod_eq_of_lt ha, Nat.mod_eq_of_lt hb]
  obtain ⟨v, hv⟩ : ∃ v, v = a ^^^ b := ⟨_, rfl⟩
  rw [← hv] at hlt ⊢
  simp only [IntKind.wrap, IntKind.bits, IntKind.signed]
  simp; omega
def c1 (n : Nat) : Nat := if n % 2 = 1 then n / 2 ^^^ 3558460437 else n / 2
theorem c1_lt (n : Nat) (h : n < 4294967296) : c1 n < 4294967296 := by
  unfold c1; split
  · exact (xor32 (n / 2) 3558460437 (by omega) (by omega)).2
  · omega
theorem c1_top (n : Nat) (h : n < 2147483648) : 2147483648 ≤ n ^^^ 3558460437 := by
  have : (n ^^^ 3558460437).testBit 31 = true := by
    rw [Nat.testBit_xor, Nat.testBit_lt_two_pow (x := n) (i := 31) (by omega)]
    decide
  exact Nat.ge_two_pow_of_testBit this
theorem c1_inj {n m : Nat} (hn : n < 4294967296) (hm : m < 4294967296) (h : c1 n = c1 m) : n = m := by
  unfold c1 at h
  by_cases h1 : n % 2 = 1
  · rw [if_pos h1] at h
    by_cases h2 : m % 2 = 1
    · rw [if_pos h2] at h
      have e := congrArg (· ^^^ 3558460437) h
      simp only [Nat.xor_assoc, Nat.xor_self, Nat.xor_zero] at e
      omega
    · rw [if_neg h2] at h
      have := c1_top (n / 2) (by omega)
      omega
  · rw [if_neg h1] at h
    by_cases h2 : m % 2 = 1
    · rw [if_pos h2] at h
      have := c1_top (m / 2) (by omega)
      omega
    · rw [if_neg h2] at h
      omega
theorem crc1_c1 (n : Nat) (h : n < 4294967296) : crc1 (n : Int) = ((c1 n : Nat) : Int) := by
  unfold crc1 c1
  have e0 : Int.tmod (n : Int) 2 = ((n % 2 : Nat) : Int) := by rw [Int.tmod_eq_emod_of_nonneg (by omega)]; omega
  have e : Int.tdiv (n : Int) 2 % 4294967296 = ((n / 2 : Nat) : Int) := by rw [Int.tdiv_eq_ediv_of_nonneg (by omega)]; omega
  rw [e, e0]
  by_cases h1 : n % 2 = 1
  · rw [if_pos (by omega), if_pos h1]; exact (xor32 (n / 2) 3558460437 (by omega) (by omega)).1
  · rw [if_neg (by omega), if_neg h1]
def cN : Nat → Nat → Nat
  | 0, n => n
  | k + 1, n => cN k (c1 n)
theorem crcN_cN (k : Nat) : ∀ n : Nat, n < 4294967296 → crcN k (n : Int) = ((cN k n : Nat) : Int) ∧ cN k n < 4294967296 := by
  induction k with
  | zero => intro n h; exact ⟨rfl, h⟩
  | succ k ih =>
    intro n h
    have := ih (c1 n) (c1_lt n h)
    rw [crcN, crc1_c1 n h]
    exact this
theorem cN_inj (k : Nat) : ∀ n m : Nat, n < 4294967296 → m < 4294967296 → cN k n = cN k m → n = m := by
  induction k with
  | zero => intro n m _ _ h; exact h
  | succ k ih =>
    intro n m hn hm h
    exact c1_inj hn hm (ih _ _ (c1_lt n hn) (c1_lt m hm) h)
def cB (n b : Nat) : Nat := cN 8 (n ^^^ b)
theorem crcB_cB (n b : Nat) (h : n < 4294967296) (hb : b < 256) : crcB (n : Int) (b : Int) = ((cB n b : Nat) : Int) ∧ cB n b < 4294967296 := by
  unfold crcB cB
  rw [show ((b : Int) % 4294967296) = ((b : Nat) : Int) by omega]
  have hx := xor32 n b h (by omega)
  rw [hx.1]
  exact crcN_cN 8 _ hx.2
theorem cB_inj_l {n m b : Nat} (hn : n < 4294967296) (hm : m < 4294967296) (hb : b < 256) (h : cB n b = cB m b) : n = m := by
  have := cN_inj 8 _ _ (xor32 n b hn (by omega)).2 (xor32 m b hm (by omega)).2 h
  have e := congrArg (· ^^^ b) this
  simp only [Nat.xor_assoc, Nat.xor_self, Nat.xor_zero] at e
  exact e
theorem cB_inj_r {n b c : Nat} (hn : n < 4294967296) (hb : b < 256) (hc : c < 256) (h : cB n b = cB n c) : b = c := by
  have := cN_inj 8 _ _ (xor32 n b hn (by omega)).2 (xor32 n c hn (by omega)).2 h
  have e := congrArg (n ^^^ ·) this
  simp only [← Nat.xor_assoc, Nat.xor_self, Nat.zero_xor] at e
  exact e
def cL (n : Nat) (l : List UInt8) : Nat := l.foldl (fun n b => cB n b.toNat) n
theorem crcL_cL (l : List UInt8) : ∀ n : Nat, n < 4294967296 → crcL (n : Int) (l.map fun b => (b.toNat : Int)) = ((cL n l : Nat) : Int) ∧ cL n l < 4294967296 := by
  induction l with
  | nil => intro n h; exact ⟨rfl, h⟩
  | cons b l ih =>
    intro n h
    have hb := crcB_cB n b.toNat h b.toNat_lt
    have := ih _ hb.2
    rw [← hb.1] at this
    exact this
theorem cL_inj (l : List UInt8) : ∀ n m : Nat, n < 4294967296 → m < 4294967296 → cL n l = cL m l → n = m := by
  induction l with
  | nil => intro n m _ _ h; exact h
  | cons b l ih =>
    intro n m hn hm h
    exact cB_inj_l hn hm b.toNat_lt (ih _ _ (crcB_cB n b.toNat hn b.toNat_lt).2 (crcB_cB m b.toNat hm b.toNat_lt).2 h)
theorem cL_set (l : List UInt8) : ∀ (n i : Nat) (y : UInt8) (hi : i < l.length), n < 4294967296 → y ≠ l[i] → cL n (l.set i y) ≠ cL n l := by
  induction l with
  | nil => intro n i y hi; simp at hi
  | cons b l ih =>
    intro n i y hi hn hy h
    cases i with
    | zero =>
      have h' : cL (cB n y.toNat) l = cL (cB n b.toNat) l := h
      have := cL_inj l _ _ (crcB_cB n y.toNat hn y.toNat_lt).2 (crcB_cB n b.toNat hn b.toNat_lt).2 h'
      exact hy (UInt8.toNat_inj.1 (cB_inj_r hn y.toNat_lt b.toNat_lt this))
    | succ i =>
      exact ih (cB n b.toNat) i y (by simpa using hi) (crcB_cB n b.toNat hn b.toNat_lt).2 (by simpa using hy) h
theorem crcL_append (x : Int) (a b : List Int) : crcL x (a ++ b) = crcL (crcL x a) b := by
  unfold crcL; exact List.foldl_append
theorem bytes_nums (l : List Int) (h : ∀ d ∈ l, 0 ≤ d ∧ d < 256) : bytesOf (strOfNums l) = l := by
  unfold bytesOf strOfNums
  simp only [List.map_map]
  conv => rhs; rw [← List.map_id l]
  apply List.map_congr_left
  intro d hd
  have := h d hd
  simp only [Function.comp, id]
  rw [UInt8.toNat_ofNat']; omega
/-! #### what is drawn lies in its range -/
theorem and255 (x : Int) : 0 ≤ Go.bits .and .i64 x 255 ∧ Go.bits .and .i64 x 255 ≤ 255 := by
  show 0 ≤ IntKind.i64.wrap ((BitVec.ofInt 64 x &&& BitVec.ofInt 64 255).toNat : Int) ∧ IntKind.i64.wrap ((BitVec.ofInt 64 x &&& BitVec.ofInt 64 255).toNat : Int) ≤ 255
  have h : (BitVec.ofInt 64 x &&& BitVec.ofInt 64 255).toNat ≤ 255 := by
    rw [BitVec.toNat_and]
    have e : (BitVec.ofInt 64 255).toNat = 255 := by decide
    rw [e]; exact Nat.and_le_right
  obtain ⟨v, hv⟩ : ∃ v, v = (BitVec.ofInt 64 x &&& BitVec.ofInt 64 255).toNat := ⟨_, rfl⟩
  rw [← hv] at h ⊢
  simp only [IntKind.wrap, IntKind.bits, IntKind.signed]
  simp; omega
theorem byte_ok (l : List Int) (i h : Int) (hl : l.length ≤ 1048576) (h0 : 0 ≤ i) (h1 : i ≤ l.length) :
    ∃ r i' h', spec_l01Byte.f l i h = some (r, i', h') ∧ 0 ≤ r ∧ r ≤ 255 ∧ 0 ≤ i' ∧ i' ≤ l.length := by
  unfold spec_l01Byte.f
  by_cases c : i < (l.length : Int)
  · rw [if_pos c, if_pos h0]
    refine ⟨_, _, _, rfl, (and255 _).1, (and255 _).2, ?_⟩
    rw [wrap_small (by omega) (by omega)]; omega
  · rw [if_neg c]
    exact ⟨_, _, _, rfl, (and255 _).1, (and255 _).2, h0, h1⟩
theorem below_ok (l : List Int) (i h n : Int) (hl : l.length ≤ 1048576) (h0 : 0 ≤ i) (h1 : i ≤ l.length) (hn : 1 ≤ n) (hn2 : n ≤ 256) :
    ∃ r i' h', spec_l01Below.f l i h n = some (r, i', h') ∧ 0 ≤ r ∧ r < n ∧ 0 ≤ i' ∧ i' ≤ l.length := by
  unfold spec_l01Below.f
  rw [if_neg (by omega), if_pos hn2]
  obtain ⟨r, i', h', e, r0, r1, i0, i1⟩ := byte_ok l i h hl h0 h1
  rw [e]
  simp only [Option.bind_some]
  rw [if_neg (by omega)]
  exact ⟨_, _, _, rfl, Int.tmod_nonneg _ r0, Int.tmod_lt_of_pos _ (by omega), i0, i1⟩
theorem below_big (l : List Int) (i h n : Int) (hl : l.length ≤ 1048576) (h0 : 0 ≤ i) (h1 : i ≤ l.length) (hn : 256 < n) :
    ∃ r i' h', spec_l01Below.f l i h n = some (r, i', h') ∧ 0 ≤ r ∧ r < n ∧ 0 ≤ i' ∧ i' ≤ l.length := by
  unfold spec_l01Below.f
  rw [if_neg (by omega), if_neg (by omega)]
  obtain ⟨r, i', h', e, r0, r1, i0, i1⟩ := byte_ok l i h hl h0 h1
  obtain ⟨r2, i2', h2', e2, r20, r21, i20, i21⟩ := byte_ok l i' h' hl i0 i1
  obtain ⟨r3, i3', h3', e3, r30, r31, i30, i31⟩ := byte_ok l i2' h2' hl i20 i21
  obtain ⟨r4, i4', h4', e4, r40, r41, i40, i41⟩ := byte_ok l i3' h3' hl i30 i31
  simp only [e, e2, e3, e4, Option.bind_some]
  rw [if_neg (by omega)]
  refine ⟨_, _, _, rfl, Int.tmod_nonneg _ ?_, Int.tmod_lt_of_pos _ (by omega), i40, i41⟩
  rw [wrap_small (i := r * 16777216) (by omega) (by omega), wrap_small (i := r2 * 65536) (by omega) (by omega), wrap_small (i := r * 16777216 + r2 * 65536) (by omega) (by omega), wrap_small (i := r3 * 256) (by omega) (by omega), wrap_small (i := r * 16777216 + r2 * 65536 + r3 * 256) (by omega) (by omega), wrap_small (by omega) (by omega)]
  omega
theorem new_l (l : List Int) (hl : l.length ≤ 1048576) (d : Nat) : ∀ (k : Nat) (i : Nat) (h : Int), 4000 - i ≤ d → i ≤ 4000 → d < k → ∃ h', spec_l01New.l0 k l h i = some (l, 0, h') := by
  induction d with
  | zero =>
    intro k i h hd hi hk
    cases k with
    | zero => omega
    | succ k =>
      simp only [spec_l01New.l0]
      by_cases c : (i : Int) < l.length
      · rw [if_pos c, if_neg (by omega)]; exact ⟨_, rfl⟩
      · rw [if_neg c]; exact ⟨_, rfl⟩
  | succ d ih =>
    intro k i h hd hi hk
    cases k with
    | zero => omega
    | succ k =>
      simp only [spec_l01New.l0]
      by_cases c : (i : Int) < l.length
      · rw [if_pos c]
        by_cases c2 : (i : Int) < 4000
        · rw [if_pos c2, if_pos (by omega), wrap_small (i := (i : Int) + 1) (by omega) (by omega)]
          exact ih k (i + 1) _ (by omega) (by omega) (by omega)
        · rw [if_neg c2]; exact ⟨_, rfl⟩
      · rw [if_neg c]; exact ⟨_, rfl⟩
theorem new_ok (l : List Int) (hl : l.length ≤ 1048576) (k : Nat) (hk : 4001 < k) : ∃ h', spec_l01New.f k l = some (l, 0, h') := by
  unfold spec_l01New.f
  exact new_l l hl 4000 k 0 _ (by omega) (by omega) (by omega)
theorem text_l (l : List Int) (hl : l.length ≤ 1048576) (n : Nat) (hn : n ≤ 5000) (d : Nat) : ∀ (k : Nat) (out : List Int) (i h : Int), n - out.length ≤ d → out.length ≤ n → d < k → 0 ≤ i → i ≤ l.length →
    ∃ out' i' h', spec_l01Text.l0 k n out out.length l i h = some (strOfNums out', i', h') ∧ out'.length = n ∧ 0 ≤ i' ∧ i' ≤ l.length := by
  induction d with
  | zero =>
    intro k out i h hd ho hk h0 h1
    cases k with
    | zero => omega
    | succ k =>
      simp only [spec_l01Text.l0]
      rw [if_neg (by omega)]
      exact ⟨out, _, _, rfl, by omega, h0, h1⟩
  | succ d ih =>
    intro k out i h hd ho hk h0 h1
    cases k with
    | zero => omega
    | succ k =>
      simp only [spec_l01Text.l0]
      by_cases c : (out.length : Int) < n
      · rw [if_pos c]
        obtain ⟨r, i', h', e, r0, r1, i0, i1⟩ := byte_ok l i h hl h0 h1
        rw [e]
        simp only [Option.bind_some]
        rw [if_pos (by omega), wrap_small (by omega) (by omega), show (out.length : Int) + 1 = ((out ++ [r % 256]).length : Nat) by simp]
        exact ih k _ i' h' (by simp; omega) (by simp; omega) (by omega) i0 i1
      · rw [if_neg c]
        exact ⟨out, _, _, rfl, by omega, h0, h1⟩
theorem text_ok (l : List Int) (hl : l.length ≤ 1048576) (n : Nat) (hn : n ≤ 5000) (k : Nat) (hk : n + 2 < k) (i h : Int) (h0 : 0 ≤ i) (h1 : i ≤ l.length) :
    ∃ out' i' h', spec_l01Text.f k l i h n = some (strOfNums out', i', h') ∧ out'.length = n ∧ 0 ≤ i' ∧ i' ≤ l.length := by
  unfold spec_l01Text.f
  rw [if_neg (by omega)]
  cases k with
  | zero => omega
  | succ k =>
    simp only [spec_l01Text.j0]
    exact text_l l hl n hn n k [] i h (by simp) (by simp) (by omega) h0 h1
theorem places_l (l : List Int) (hl : l.length ≤ 1048576) (d : Nat) : ∀ (k : Nat) (out : List Int) (i h : Int), 12 - out.length ≤ d → out.length ≤ 12 → d < k → 0 ≤ i → i ≤ l.length → (∀ x ∈ out, 0 ≤ x ∧ x < 10000) →
    ∃ out', spec_DrawPlaces.l0 k out out.length l i h = some out' ∧ out'.length = 12 ∧ ∀ x ∈ out', 0 ≤ x ∧ x < 10000 := by
  induction d with
  | zero =>
    intro k out i h hd ho hk h0 h1 hx
    cases k with
    | zero => omega
    | succ k =>
      simp only [spec_DrawPlaces.l0]
      rw [if_neg (by omega)]
      exact ⟨out, rfl, by omega, hx⟩
  | succ d ih =>
    intro k out i h hd ho hk h0 h1 hx
    cases k with
    | zero => omega
    | succ k =>
      simp only [spec_DrawPlaces.l0]
      by_cases c : (out.length : Int) < 12
      · rw [if_pos c]
        obtain ⟨r, i', h', e, r0, r1, i0, i1⟩ := below_big l i h 10000 hl h0 h1 (by omega)
        rw [e]
        simp only [Option.bind_some]
        rw [if_pos (by omega), wrap_small (by omega) (by omega), show (out.length : Int) + 1 = ((out ++ [r]).length : Nat) by simp]
        refine ih k _ i' h' (by simp; omega) (by simp; omega) (by omega) i0 i1 ?_
        intro x hm
        rcases List.mem_append.1 hm with hm | hm
        · exact hx x hm
        · have : x = r := by simpa using hm
          omega
      · rw [if_neg c]
        exact ⟨out, rfl, by omega, hx⟩
/-! #### sealed, and with one byte changed -/
def fourL (q : Int) : List Int := [(q / 16777216) % 256, (q / 65536) % 256, (q / 256) % 256, q % 256]
theorem four_inj {a b : Nat} (ha : a < 4294967296) (hb : b < 4294967296) (h : fourL (a : Int) = fourL (b : Int)) : a = b := by
  unfold fourL at h
  simp only [List.cons.injEq, and_true] at h
  omega
def sumN (s : ByteArray) : Nat := cL 4294967295 s.data.toList
theorem sum_eq (s : ByteArray) : crcL 4294967295 (bytesOf s) = ((sumN s : Nat) : Int) ∧ sumN s < 4294967296 := crcL_cL s.data.toList 4294967295 (by omega)
theorem sumOf_ok (s : ByteArray) (hs : s.size ≤ 140737488351232) (k : Nat) (hk : 10 * s.size < k) : impl_SumOf.f k s = some ((sumN s : Nat) : Int) := by
  unfold impl_SumOf.f
  rw [impl_sum_f _ s hs k hk, (sum_eq s).1]
  rfl
def tailB (s : ByteArray) : ByteArray := strOfNums (fourL (sumN s : Nat))
theorem tail_size (s : ByteArray) : (tailB s).size = 4 := rfl
theorem sealed_ok (s : ByteArray) (hs : s.size ≤ 20000) (k : Nat) (hk : 10 * s.size < k) : impl_Sealed.f k s = some (s ++ tailB s, true) := by
  unfold impl_Sealed.f
  rw [if_neg (by omega), sumOf_ok s (by omega) k hk]
  simp only [Option.bind_some]
  exact if_pos (by have := tail_size s; unfold tailB fourL at this; omega)
theorem unsealed_eq (t : ByteArray) (h4 : 4 ≤ t.size) (ht : t.size ≤ 20000) (k : Nat) (hk : 10 * t.size < k) :
    impl_Unsealed.f k t = if (t.extract 0 (t.size - 4) ++ tailB (t.extract 0 (t.size - 4))).toList = t.toList then some (t.extract 0 (t.size - 4), true) else some (⟨#[]⟩, false) := by
  unfold impl_Unsealed.f
  have e : wrap64 ((t.size : Int) - 4) = t.size - 4 := wrap_small (by omega) (by omega)
  rw [e, if_neg (by omega), if_pos (by omega), if_pos (by omega), show ((t.size : Int) - 4).toNat = t.size - 4 by omega]
  rw [sealed_ok (t.extract 0 (t.size - 4)) (by rw [ByteArray.size_extract]; omega) k (by rw [ByteArray.size_extract]; omega)]
  simp only [Option.bind_some, if_true]
theorem ext_data {a b : ByteArray} (h : a.data.toList = b.data.toList) : a = b := by
  cases a; cases b
  congr 1
  exact Array.toList_inj.1 h
theorem take_data (t : ByteArray) (n : Nat) : (t.extract 0 n).data.toList = t.data.toList.take n := by
  rw [ByteArray.data_extract, Array.toList_extract, List.extract_eq_take_drop, List.drop_zero, Nat.sub_zero]
theorem app_data (a b : ByteArray) : (a ++ b).data.toList = a.data.toList ++ b.data.toList := by
  rw [ByteArray.data_append, Array.toList_append]
theorem back_ok (s : ByteArray) (hs : s.size ≤ 10000) (k : Nat) (hk : 10 * (s.size + 4) < k) : impl_Unsealed.f k (s ++ tailB s) = some (s, true) := by
  have hz : (s ++ tailB s).size = s.size + 4 := by rw [ByteArray.size_append, tail_size]
  rw [unsealed_eq _ (by omega) (by omega) k (by omega), hz]
  have e : (s ++ tailB s).extract 0 (s.size + 4 - 4) = s := by
    apply ext_data
    rw [take_data, app_data, Nat.add_sub_cancel]
    exact List.take_left' (data_length s)
  rw [e, if_pos rfl]
theorem wrong_ok (s : ByteArray) (hs : s.size ≤ 10000) (k : Nat) (hk : 10 * (s.size + 4) < k) (ix : Nat) (y : UInt8) (hi : ix < (s ++ tailB s).size) (hy : y ≠ (s ++ tailB s).data[ix]) :
    ∃ u', impl_Unsealed.f k ⟨((s ++ tailB s).data.toList.set ix y).toArray⟩ = some (u', false) := by
  obtain ⟨t, ht⟩ : ∃ t : ByteArray, t = ⟨((s ++ tailB s).data.toList.set ix y).toArray⟩ := ⟨_, rfl⟩
  rw [← ht]
  have hz : (s ++ tailB s).size = s.size + 4 := by rw [ByteArray.size_append, tail_size]
  have htd : t.data.toList = (s.data.toList ++ (tailB s).data.toList).set ix y := by rw [ht, ← app_data]
  have htz : t.size = s.size + 4 := by
    rw [← data_length, htd, List.length_set, ← app_data, data_length, hz]
  rw [unsealed_eq t (by omega) (by omega) k (by omega), htz, Nat.add_sub_cancel]
  refine ⟨⟨#[]⟩, if_neg ?_⟩
  intro h
  rw [ByteArray.toList_eq, ByteArray.toList_eq, app_data, take_data, htd] at h
  have hyl : y ≠ (s.data.toList ++ (tailB s).data.toList)[ix]'(by rw [← app_data, data_length]; exact hi) := by
    intro e; apply hy; rw [e]; exact (List.getElem_of_eq (app_data s (tailB s)).symm _).trans (Array.getElem_toList _)
  have hls : s.data.toList.length = s.size := data_length s
  have hlt : (tailB s).data.toList.length = 4 := data_length (tailB s)
  obtain ⟨s', hs'⟩ : ∃ s', s' = t.extract 0 s.size := ⟨_, rfl⟩
  have hs'd : s'.data.toList = ((s.data.toList ++ (tailB s).data.toList).set ix y).take s.size := by rw [hs', take_data, htd]
  rw [← hs', ← hs'd] at h
  by_cases c : ix < s.size
  · rw [List.set_append_left _ _ (by omega)] at h hs'd
    rw [List.take_left' (by rw [List.length_set, hls])] at hs'd
    obtain ⟨_, h2⟩ := List.append_inj h (by rw [hs'd])
    have h3 : fourL (sumN s' : Nat) = fourL (sumN s : Nat) := by
      have h4 : bytesOf (tailB s') = bytesOf (tailB s) := by unfold bytesOf; rw [h2]
      unfold tailB at h4
      have hr : ∀ q : Int, ∀ d ∈ fourL q, 0 ≤ d ∧ d < 256 := by
        intro q d hd
        unfold fourL at hd
        simp only [List.mem_cons, List.not_mem_nil, or_false] at hd
        omega
      rw [bytes_nums _ (hr _), bytes_nums _ (hr _)] at h4
      exact h4
    have h5 := four_inj (sum_eq s').2 (sum_eq s).2 h3
    unfold sumN at h5
    rw [hs'd] at h5
    refine cL_set s.data.toList 4294967295 ix y (by omega) (by omega) ?_ h5
    rw [List.getElem_append_left (by omega)] at hyl
    exact hyl
  · rw [List.set_append_right _ _ (by omega)] at h hs'd
    rw [List.take_left' hls] at hs'd
    have e : s' = s := ext_data hs'd
    rw [e] at h
    have h2 := List.append_cancel_left h
    rw [List.getElem_append_right (by omega)] at hyl
    have hj : ix - s.data.toList.length < (tailB s).data.toList.length := by omega
    have h3 : (tailB s).data.toList[ix - s.data.toList.length]'hj = y := by
      have h4 : (tailB s).data.toList[ix - s.data.toList.length]? = ((tailB s).data.toList.set (ix - s.data.toList.length) y)[ix - s.data.toList.length]? := congrArg (fun l => l[ix - s.data.toList.length]?) h2
      rw [List.getElem?_set_self hj, List.getElem?_eq_getElem hj] at h4
      exact Option.some.inj h4
    exact hyl h3.symm
theorem more_ok (s : ByteArray) (hs : s.size ≤ 10000) (k : Nat) (hk : 10 * (s.size + 4) < k) : impl_SumMore.f k ((sumN s : Nat) : Int) ⟨#[120]⟩ = some ((sumN (s ++ ⟨#[120]⟩) : Nat) : Int) := by
  have hz : (⟨#[120]⟩ : ByteArray).size = 1 := rfl
  rw [impl_sum_f _ _ (by omega) k (by omega), ← (sum_eq s).1, ← crcL_append, ← (sum_eq (s ++ ⟨#[120]⟩)).1]
  congr 2
  unfold bytesOf
  rw [app_data, List.map_append]
theorem turned_all (A : Option Addr) (c : Nat) (l : List Int) (w : World) (hC : Kd.C (Kd.int .u8) w A l.length l) (hc : l.length ≤ c) :
    Calls Try.prog 9 #[.slice A l.length c] w fun e w' => e = .returned (.bool true) ∧ Below w.heap.size w w' := by
  obtain ⟨k, hk⟩ : ∃ k : Nat, k = 6000 := ⟨_, rfl⟩
  by_cases hb : l.length ≤ 1048576
  · have hbig : laws_big.f l = some false := by unfold laws_big.f; rw [decide_eq_false (by omega)]
    obtain ⟨h1, e1⟩ := new_ok l hb k (by omega)
    obtain ⟨r, i2, h2, e2, r0, r1, i20, i21⟩ := below_ok l 0 h1 40 hb (by omega) (by omega) (by omega) (by omega)
    obtain ⟨n, rfl⟩ := Int.eq_ofNat_of_zero_le r0
    obtain ⟨out, i3, h3, e3, hl3, i30, i31⟩ := text_ok l hb n (by omega) k (by omega) i2 h2 i20 i21
    have hs : spec_DrawSumOf.f k l = some (strOfNums out) := by
      unfold spec_DrawSumOf.f
      simp only [e1, e2, e3, Option.bind_some]
    obtain ⟨r5, i5, h5, e5, r50, r51, i50, i51⟩ := byte_ok l 0 h1 hb (by omega) (by omega)
    obtain ⟨p, e6, hpl, hp0⟩ := places_l l hb 12 k [] i5 h5 (by simp) (by simp) (by omega) i50 i51 (by simp)
    have hp : spec_DrawPlaces.f k l = some p := by
      unfold spec_DrawPlaces.f
      simp only [e1, e5, Option.bind_some]
      exact e6
    obtain ⟨s, hs'⟩ : ∃ s, s = strOfNums out := ⟨_, rfl⟩
    have hsz : s.size ≤ 40 := by rw [hs', strOfNums_size]; omega
    rw [← hs'] at hs
    refine turned_calls k A c l w hC hc s (s ++ tailB s) p (sumN s : Nat) (sumN (s ++ ⟨#[120]⟩) : Nat) hbig hs hp hpl hp0 (sealed_ok s (by omega) _ (by omega)) (back_ok s (by omega) _ (by omega)) (by rw [ByteArray.size_append, tail_size]) hsz ?_ (sumOf_ok s (by omega) _ (by omega)) (more_ok s (by omega) _ (by omega)) (sumOf_ok _ ?_ _ ?_)
    · intro ix y hi hy; exact wrong_ok s (by omega) _ (by omega) ix y hi hy
    · rw [ByteArray.size_append]; have : (⟨#[120]⟩ : ByteArray).size = 1 := rfl; omega
    · rw [ByteArray.size_append]; have : (⟨#[120]⟩ : ByteArray).size = 1 := rfl; omega
  · have hbig : laws_big.f l = some true := by unfold laws_big.f; rw [decide_eq_true (by omega)]
    have HC := Aside0.mk hC
    have HCC := Aside0.mk hc
    clear hC hc
    go_enter Try.func9, Try.ntmps9
    go_wp2_with (go_at_call 25; refine (laws_big.calls _ _ l true _ ?s1 HCC.out hbig).mono ?_; (case s1 => exact HC.out); rintro e w1 ⟨rfl, hb1⟩)
    go_ret
    exact ⟨rfl, hb1.below⟩
end Go.Proofs.Ytbkibnjpolnajaa.TuB
