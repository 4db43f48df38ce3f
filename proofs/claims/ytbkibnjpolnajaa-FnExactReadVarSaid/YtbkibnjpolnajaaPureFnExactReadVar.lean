/- ReadVar of the program and of the reference answer alike, for every text and every place. No condition. -/
import Derived.Test.YtbkibnjpolnajaaPFnExactReadVarx2
namespace Go.Proofs.Ytbkibnjpolnajaa.Pure
open Go.RowKit Go.Proofs.Ytbkibnjpolnajaa.PFnExactReadVar Go.Proofs.YtbkibnjpolnajaaW.PrintWords Go.Proofs.YtbkibnjpolnajaaW.PrintLast

theorem vt_wrap {i : Int} (h0 : -4611686018427387904 ≤ i) (h1 : i ≤ 4611686018427387904) : wrap64 i = i := by
  unfold wrap64; omega

def vtL : Nat → Int → List Int
  | 0, x => [x % 256]
  | f + 1, x => if x > 127 then ((x % 128 + 128) % 256) :: vtL f (x / 128) else [x % 256]

theorem vtL_length (f : Nat) : ∀ x, (vtL f x).length ≤ f + 1 := by
  induction f with
  | zero => intro x; simp [vtL]
  | succ f ih => intro x; simp only [vtL]; split <;> simp; exact ih _

theorem vt_small (x : Int) (h : ¬ x > 127) (f : Nat) : vtL f x = [x % 256] := by
  cases f with
  | zero => rfl
  | succ f => simp only [vtL]; rw [if_neg h]

theorem vt_rounds (f : Nat) : ∀ (x : Int) (l : List Int) (k : Nat), 0 ≤ x → x ≤ 1152921504606846975 → x < 128 * 128 ^ f → f < k → l.length + f < 1000 →
    spec_l01Var.l0 k x l = some (strOfNums (l ++ vtL f x)) ∧ impl_VarText.l0 k x l = some (strOfNums (l ++ vtL f x), true) := by
  induction f with
  | zero =>
    intro x l k h0 hb h1 hk hl
    obtain ⟨k, rfl⟩ : ∃ m, k = m + 1 := ⟨k - 1, by omega⟩
    have hx : ¬ x > 127 := by simp at h1; omega
    simp only [spec_l01Var.l0, impl_VarText.l0]
    rw [if_neg hx, if_pos (by omega), if_neg hx, if_pos (by omega)]
    exact ⟨rfl, rfl⟩
  | succ f ih =>
    intro x l k h0 hb h1 hk hl
    obtain ⟨k, rfl⟩ : ∃ m, k = m + 1 := ⟨k - 1, by omega⟩
    simp only [spec_l01Var.l0, impl_VarText.l0]
    by_cases hx : x > 127
    · rw [if_pos hx, if_pos (by omega), if_pos hx, if_pos (by omega)]
      have e1 : wrap64 (Int.tdiv x 128) = x / 128 := by
        rw [Int.tdiv_eq_ediv_of_nonneg h0]; exact vt_wrap (by omega) (by omega)
      have e2 : wrap64 (Int.tmod x 128 + 128) = x % 128 + 128 := by
        rw [Int.tmod_eq_emod_of_nonneg h0]; exact vt_wrap (by omega) (by omega)
      rw [e1, e2]
      have h1' : x / 128 < 128 * 128 ^ f := by
        have : (128 : Int) * 128 ^ (f + 1) = (128 * 128 ^ f) * 128 := by rw [Int.pow_succ]; ac_rfl
        rw [this] at h1
        exact Int.ediv_lt_of_lt_mul (by omega) h1
      have := ih (x / 128) (l ++ [(x % 128 + 128) % 256]) k (by omega) (by omega) h1' (by omega) (by simp; omega)
      rw [this.1, this.2]
      simp only [vtL]; rw [if_pos hx]
      simp
    · rw [if_neg hx, if_pos (by omega), if_neg hx, if_pos (by omega)]
      rw [vt_small x hx]
      exact ⟨rfl, rfl⟩

theorem strOfNums_size (l : List Int) : (strOfNums l).size = l.length := by
  unfold strOfNums; simp [ByteArray.size]

def valD : List Int → Int
  | [] => 0
  | d :: l => d + 128 * valD l
def encD : List Int → List Int
  | [] => []
  | [d] => [d]
  | d :: e :: l => (d + 128) :: encD (e :: l)
def okD (l : List Int) : Prop := ∀ d ∈ l, 0 ≤ d ∧ d < 128
theorem valD_nonneg (l : List Int) (h : okD l) : 0 ≤ valD l := by
  induction l with
  | nil => simp [valD]
  | cons d l ih =>
    have h1 := h d (by simp)
    have h2 := ih (fun e he => h e (by simp [he]))
    simp only [valD]; omega
theorem valD_lt (l : List Int) (h : okD l) : valD l < 128 ^ l.length := by
  induction l with
  | nil => simp [valD]
  | cons d l ih =>
    have h1 := h d (by simp)
    have h2 := ih (fun e he => h e (by simp [he]))
    simp only [valD, List.length_cons, Int.pow_succ]; omega
theorem valD_snoc (l : List Int) (d : Int) : valD (l ++ [d]) = valD l + d * 128 ^ l.length := by
  induction l with
  | nil => simp [valD]
  | cons e l ih =>
    simp only [List.cons_append, valD, ih, List.length_cons, Int.pow_succ, Int.mul_add]
    have : d * (128 ^ l.length * 128) = 128 * (d * 128 ^ l.length) := by ac_rfl
    rw [this]; omega
theorem encD_length : ∀ l : List Int, (encD l).length = l.length
  | [] => rfl
  | [_] => rfl
  | d :: e :: l => by simp only [encD, List.length_cons]; rw [encD_length (e :: l)]; rfl
theorem encD_snoc : ∀ (l : List Int) (d : Int), encD (l ++ [d]) = l.map (· + 128) ++ [d]
  | [], d => rfl
  | [e], d => rfl
  | e :: f :: l, d => by
    have := encD_snoc (f :: l) d
    simp only [List.cons_append] at this
    simp only [List.cons_append, encD, List.map_cons]
    rw [this]; rfl
theorem vtL_enc : ∀ (f : Nat) (ds : List Int), okD ds → ds ≠ [] → ds.length ≤ f + 1 → ((vtL f (valD ds)).length = ds.length → vtL f (valD ds) = encD ds)
  | f, [d], h, _, _, _ => by
    have h1 := h d (by simp)
    have e : valD [d] = d := by simp [valD]
    rw [e, vt_small d (by omega)]
    simp only [encD]
    rw [Int.emod_eq_of_lt h1.1 (by omega)]
  | 0, d :: e :: l, h, _, hl, _ => by simp at hl
  | f + 1, d :: e :: l, h, _, hl, hlen => by
    have h1 := h d (by simp)
    have h2 : okD (e :: l) := fun x hx => h x (by simp at hx ⊢; right; exact hx)
    have hv := valD_nonneg _ h2
    have ev : valD (d :: e :: l) = d + 128 * valD (e :: l) := rfl
    have ih := vtL_enc f (e :: l) h2 (by simp) (by simp at hl ⊢; omega)
    rw [ev] at hlen ⊢
    simp only [vtL] at hlen ⊢
    by_cases hx : d + 128 * valD (e :: l) > 127
    · have e1 : (d + 128 * valD (e :: l)) / 128 = valD (e :: l) := by omega
      have e2 : ((d + 128 * valD (e :: l)) % 128 + 128) % 256 = d + 128 := by omega
      simp only [if_pos hx, e1, e2, List.length_cons] at hlen ⊢
      rw [ih (by simp; omega)]
      rfl
    · rw [if_neg hx] at hlen
      simp at hlen
theorem vt_length_enc (ds : List Int) (h : okD ds) (hn : ds ≠ []) (hl : ds.length ≤ 6) (hlen : (vtL 5 (valD ds)).length = ds.length) : vtL 5 (valD ds) = encD ds := vtL_enc 5 ds h hn hl hlen
theorem list_of_bytes (s : ByteArray) : s.toList.map (fun b => (b.toNat : Int)) = bytesOf s := by
  rw [ByteArray.toList_eq]; rfl
theorem toList_eq_iff (a b : ByteArray) : a.toList = b.toList ↔ bytesOf a = bytesOf b := by
  constructor
  · intro h; rw [← list_of_bytes, ← list_of_bytes, h]
  · intro h
    rw [ByteArray.toList_eq, ByteArray.toList_eq]
    unfold bytesOf at h
    exact (List.map_inj_right (fun x y hxy => UInt8.toNat_inj.1 (by omega))).1 h
theorem pow_small (j : Nat) (h : j ≤ 5) : (1 : Int) ≤ 128 ^ j ∧ (128 : Int) ^ j ≤ 34359738368 := by
  have : j = 0 ∨ j = 1 ∨ j = 2 ∨ j = 3 ∨ j = 4 ∨ j = 5 := by omega
  rcases this with rfl | rfl | rfl | rfl | rfl | rfl <;> decide +kernel
theorem shl_pow (d : Int) (j : Nat) (h : j ≤ 4) (h0 : 0 ≤ d) (h1 : d < 128) : shl .i64 d (7 * (j : Int)) = d * 128 ^ j := by
  have hw : ∀ x : Int, 0 ≤ x → x ≤ 34359738368 → IntKind.i64.wrap x = x := by
    intro x h0 h1
    rw [i64_w]
    exact vt_wrap (by omega) (by omega)
  have hj : j = 0 ∨ j = 1 ∨ j = 2 ∨ j = 3 ∨ j = 4 := by omega
  have e : (2 : Int) ^ min (7 * (j : Int)).toNat IntKind.i64.bits = 128 ^ j := by
    rcases hj with rfl | rfl | rfl | rfl | rfl <;> decide +kernel
  unfold shl
  rw [e]
  have hp := pow_small j (by omega)
  have hp4 : (128 : Int) ^ j ≤ 268435456 := by
    rcases hj with rfl | rfl | rfl | rfl | rfl <;> decide +kernel
  obtain ⟨p, hpp⟩ : ∃ p, (128 : Int) ^ j = p := ⟨_, rfl⟩
  rw [hpp] at hp hp4 ⊢
  have h2 : 0 ≤ d * p := Int.mul_nonneg h0 (by omega)
  have h3 : d * p ≤ 127 * p := Int.mul_le_mul_of_nonneg_right (by omega) (by omega)
  exact hw _ h2 (by omega)
theorem byte_drop (s : ByteArray) (i : Nat) (h : i < s.size) : (bytesOf s).drop i = bt s i :: (bytesOf s).drop (i + 1) := by
  have hl : i < (bytesOf s).length := by rw [bytesOf_length]; exact h
  rw [List.drop_eq_getElem_cons hl]
  congr 1
  have := rd_bytesOf s i
  unfold rd at this
  rw [← this]
  simp [List.getD, hl]
theorem byte_take (s : ByteArray) (i j : Nat) (h : i + j < s.size) : ((bytesOf s).drop i).take (j + 1) = ((bytesOf s).drop i).take j ++ [bt s ((i : Int) + j)] := by
  have hl : j < ((bytesOf s).drop i).length := by rw [List.length_drop, bytesOf_length]; omega
  rw [List.take_succ_eq_append_getElem hl]
  congr 1
  have hd := byte_drop s (i + j) h
  have : ((bytesOf s).drop i)[j] = ((bytesOf s).drop (i + j))[0]'(by rw [List.length_drop, bytesOf_length]; omega) := by simp
  rw [this]
  have e : ((bytesOf s).drop (i + j))[0]'(by rw [List.length_drop, bytesOf_length]; omega) = bt s ((i + j : Nat) : Int) := by simp only [hd]; rfl
  rw [e]
  simp
theorem bytes_extract (s : ByteArray) (a b : Nat) : bytesOf (s.extract a b) = ((bytesOf s).drop a).take (b - a) := by
  unfold bytesOf
  rw [ByteArray.data_extract, Array.toList_extract, List.extract_eq_take_drop, List.map_take, List.map_drop]
theorem bytes_nums (l : List Int) (h : ∀ d ∈ l, 0 ≤ d ∧ d < 256) : bytesOf (strOfNums l) = l := by
  unfold bytesOf strOfNums
  simp only [List.map_map]
  conv => rhs; rw [← List.map_id l]
  apply List.map_congr_left
  intro d hd
  have := h d hd
  simp only [Function.comp, id]
  rw [UInt8.toNat_ofNat']; omega
theorem vtL_bytes (f : Nat) : ∀ x, 0 ≤ x → ∀ d ∈ vtL f x, 0 ≤ d ∧ d < 256 := by
  induction f with
  | zero => intro x h d hd; simp [vtL] at hd; omega
  | succ f ih =>
    intro x h d hd
    simp only [vtL] at hd
    split at hd
    · rcases List.mem_cons.1 hd with rfl | hd
      · omega
      · exact ih _ (by omega) d hd
    · simp at hd; omega
theorem rv_nums (ds : List Int) (j : Nat) (c : Int) (hl : ds.length = j) (hok : okD ds) (hj4 : j ≤ 4) :
    wrap64 ((c % 128) * 128 ^ j) = (c % 128) * 128 ^ j ∧ wrap64 (valD ds + (c % 128) * 128 ^ j) = valD (ds ++ [c % 128]) ∧ shl .i64 (c % 128) (7 * (j : Int)) = (c % 128) * 128 ^ j ∧
    0 ≤ valD (ds ++ [c % 128]) ∧ valD (ds ++ [c % 128]) ≤ 4398046511104 ∧ wrap64 ((128 : Int) ^ j * 128) = 128 ^ (j + 1) := by
  have hp := pow_small j (by omega)
  have hv0 := valD_nonneg ds hok
  have hv1 := valD_lt ds hok
  have hsh := shl_pow (c % 128) j hj4 (by omega) (by omega)
  have hsn := valD_snoc ds (c % 128)
  rw [hl] at hv1 hsn
  rw [Int.pow_succ]
  obtain ⟨p, hpp⟩ : ∃ p, (128 : Int) ^ j = p := ⟨_, rfl⟩
  rw [hpp] at hp hv1 hsh hsn ⊢
  have hq0 : 0 ≤ (c % 128) * p := Int.mul_nonneg (by omega) (by omega)
  have hq1 : (c % 128) * p ≤ 127 * p := Int.mul_le_mul_of_nonneg_right (by omega) (by omega)
  obtain ⟨q, hq⟩ : ∃ q, (c % 128) * p = q := ⟨_, rfl⟩
  rw [hq] at hq0 hq1 hsh hsn ⊢
  rw [hsn]
  exact ⟨vt_wrap (by omega) (by omega), vt_wrap (by omega) (by omega), hsh, by omega, by omega, vt_wrap (by omega) (by omega)⟩
set_option maxHeartbeats 1000000 in
theorem rv_rounds (s : ByteArray) (hs : s.size ≤ 1048576) (at_ : Int) (h0 : 0 ≤ at_) (h1 : at_ ≤ s.size) (r : Nat) : ∀ (j : Nat) (ds : List Int) (k : Nat), r + j = 5 → ds.length = j → okD ds →
    ((bytesOf s).drop at_.toNat).take j = ds.map (· + 128) → at_ + j ≤ s.size → 2 * r + 10 ≤ k →
    ∃ res, spec_ReadVar.l0 k s at_ (valD ds) (128 ^ j) (at_ + j) = some res ∧ impl_ReadVar.l0 k s at_ (valD ds) j = some res ∧ 0 ≤ res.1 ∧ res.1 ≤ 1000000000 ∧ 0 ≤ res.2.1 ∧ res.2.1 ≤ s.size := by
  induction r with
  | zero =>
    intro j ds k hj hl hok _ hat hk
    obtain ⟨k, rfl⟩ : ∃ m, k = m + 1 := ⟨k - 1, by omega⟩
    obtain ⟨k, rfl⟩ : ∃ m, k = m + 1 := ⟨k - 1, by omega⟩
    have hj5 : j = 5 := by omega
    refine ⟨(0, 0, false), ?_, ?_, by decide, by decide, by decide, by simp⟩
    · simp only [spec_ReadVar.l0, spec_ReadVar.j1]
      have e : wrap64 (at_ + 5) = at_ + 5 := vt_wrap (by omega) (by omega)
      rw [e]
      have : decide (at_ + (j : Int) < at_ + 5) = false := decide_eq_false (by omega)
      rw [this]
      split <;> simp
    · simp only [impl_ReadVar.l0, impl_ReadVar.j1]
      rw [if_neg (by omega)]; simp
  | succ r ih =>
    intro j ds k hj hl hok hb hat hk
    obtain ⟨k, rfl⟩ : ∃ m, k = m + 1 := ⟨k - 1, by omega⟩
    obtain ⟨k, rfl⟩ : ∃ m, k = m + 1 := ⟨k - 1, by omega⟩
    have hj4 : j ≤ 4 := by omega
    have hix : ((at_.toNat : Int) + (j : Int)) = at_ + j := by omega
    have e5 : Aside0 (wrap64 (at_ + 5) = at_ + 5) := ⟨vt_wrap (by omega) (by omega)⟩
    have ej : Aside0 (wrap64 (at_ + (j : Int)) = at_ + j) := ⟨vt_wrap (by omega) (by omega)⟩
    have e7 : Aside0 (wrap64 (7 * (j : Int)) = 7 * j) := ⟨vt_wrap (by omega) (by omega)⟩
    have e1 : Aside0 (wrap64 (at_ + (j : Int) + 1) = at_ + j + 1) := ⟨vt_wrap (by omega) (by omega)⟩
    have ej1 : Aside0 (wrap64 ((j : Int) + 1) = j + 1) := ⟨vt_wrap (by omega) (by omega)⟩
    have i5 : (j : Int) < 5 := by omega
    have i55 : at_ + (j : Int) < at_ + 5 := by omega
    have i0 : 0 ≤ at_ + (j : Int) := by omega
    have i7 : (0 : Int) ≤ 7 * j := by omega
    have i1 : at_ ≤ at_ + (j : Int) + 1 := by omega
    have ix : (at_ + (j : Int) + 1).toNat - at_.toNat = j + 1 := by omega
    have ihk : ∀ l : List Int, r + (j + 1) = 5 := fun _ => by omega
    have ihk2 : 2 * r + 10 ≤ k := by omega
    have ikk : 5 < k := by omega
    have ias : at_ + (j : Int) + 1 = at_ + ((j + 1 : Nat) : Int) := by omega
    clear hj hk hat
    by_cases hlt : at_ + (j : Int) < s.size
    · have i2 : at_ + (j : Int) + 1 ≤ s.size := by omega
      have i3 : 0 ≤ at_ + (j : Int) + 1 := by omega
      have i4 : at_ + ((j + 1 : Nat) : Int) ≤ s.size := by omega
      have inn : at_.toNat + j < s.size := by omega
      have hbr := bt_range s (at_ + j)
      obtain ⟨c, hc⟩ : ∃ c, bt s (at_ + j) = c := ⟨_, rfl⟩
      rw [hc] at hbr
      have ew : Aside0 (wrap64 c = c) := ⟨vt_wrap (by omega) (by omega)⟩
      have icc : 0 ≤ c % 128 ∧ c % 128 < 128 := by omega
      have hcc : c < 128 → c % 128 = c := fun h => by omega
      have hcc2 : ¬ c < 128 → c = c % 128 + 128 := fun h => by omega
      have em : Int.tmod c 128 = c % 128 := Int.tmod_eq_emod_of_nonneg hbr.1
      obtain ⟨emul, eadd, esh, hm0, hm1, ep⟩ := rv_nums ds j c hl hok hj4
      have htk : ((bytesOf s).drop at_.toNat).take (j + 1) = ds.map (· + 128) ++ [c] :=
        (byte_take s at_.toNat j inn).trans (congr (congrArg HAppend.hAppend hb) (congrArg (fun z => [z]) ((congrArg (bt s) hix).trans hc)))
      have hok' : okD (ds ++ [c % 128]) := by
        intro d hd
        rcases List.mem_append.1 hd with hd | hd
        · exact hok d hd
        · simp only [List.mem_singleton] at hd; rw [hd]; exact icc
      have hln : (ds ++ [c % 128]).length = j + 1 := by rw [List.length_append, hl]; rfl
      have hne : ds ++ [c % 128] ≠ [] := by simp
      obtain ⟨d, hd⟩ : ∃ d, c % 128 = d := ⟨_, rfl⟩
      obtain ⟨m, hm⟩ : ∃ m, valD (ds ++ [d]) = m := ⟨_, rfl⟩
      rw [hd] at em hcc hcc2 emul eadd esh hm0 hm1 hok' hln hne
      rw [hm] at eadd hm0 hm1
      have lhs : spec_ReadVar.l0 (k + 1 + 1) s at_ (valD ds) (128 ^ j) (at_ + j) = if c < 128 then (if m > 1000000000 then some (0, 0, false) else ((spec_l01Var.f k m).bind fun t111 => (if t111.toList = (s.extract at_.toNat (at_ + (j : Int) + 1).toNat).toList then some (m, at_ + (j : Int) + 1, true) else some (0, 0, false)))) else spec_ReadVar.l0 k s at_ m (128 ^ (j + 1)) (at_ + (j : Int) + 1) := by
        simp only [spec_ReadVar.l0, e5.out, if_pos hlt, decide_eq_true i55, spec_ReadVar.j1, if_true, if_pos i0, hc, ew.out, em, emul, eadd, e1.out, if_pos h0, if_pos i1, if_pos i2, ep]
      have rhs : impl_ReadVar.l0 (k + 1 + 1) s at_ (valD ds) j = if c < 128 then ((impl_VarText.f k m).bind fun bt120 => (if bt120.2 = true then (if (bt120.1.size : Int) = (j : Int) + 1 then some (m, at_ + (j : Int) + 1, true) else some (0, 0, false)) else some (0, 0, false))) else impl_ReadVar.l0 k s at_ m ((j : Int) + 1) := by
        simp only [impl_ReadVar.l0, if_pos i5, ej.out, decide_eq_true hlt, impl_ReadVar.j1, if_true, if_pos i0, if_pos hlt, e7.out, if_pos i7, hc, ew.out, em, esh, eadd, e1.out, ej1.out]
      rw [lhs, rhs]
      clear lhs rhs e5 ej e7 e1 ej1 emul eadd esh em ew ep
      by_cases hc128 : c < 128
      · rw [if_pos hc128, if_pos hc128]
        unfold impl_VarText.f impl_within.f spec_l01Var.f
        rw [if_pos hm0]
        by_cases hbig : m > 1000000000
        · rw [if_pos hbig]
          refine ⟨(0, 0, false), rfl, ?_, by decide, by decide, by decide, by simp⟩
          simp only [decide_eq_false (show ¬ m ≤ 1000000000 by omega), Option.bind_some]
          simp
        · rw [if_neg hbig]
          have hvt := vt_rounds 5 m [] k hm0 (by omega) (by omega) ikk (by simp)
          rw [hvt.1]
          simp only [decide_eq_true (show m ≤ 1000000000 by omega), Option.bind_some, if_true, hvt.2, List.nil_append]
          have hsz : ((strOfNums (vtL 5 m)).size : Int) = (vtL 5 m).length := by rw [strOfNums_size]
          rw [hsz]
          have hx : bytesOf (s.extract at_.toNat (at_ + (j : Int) + 1).toNat) = encD (ds ++ [d]) := by
            rw [bytes_extract, ix, htk, encD_snoc, hcc hc128]
          have hbn := bytes_nums (vtL 5 m) (vtL_bytes 5 _ hm0)
          have hiff : ((strOfNums (vtL 5 m)).toList = (s.extract at_.toNat (at_ + (j : Int) + 1).toNat).toList) ↔ ((vtL 5 m).length : Int) = j + 1 := by
            rw [toList_eq_iff, hbn, hx]
            constructor
            · intro h; rw [h, encD_length, hln]; rfl
            · intro h
              rw [← hm]
              exact vt_length_enc _ hok' hne (by omega) (by rw [hm]; omega)
          by_cases hlen : ((vtL 5 m).length : Int) = j + 1
          · rw [if_pos (hiff.2 hlen), if_pos hlen]
            exact ⟨_, rfl, rfl, hm0, (by show m ≤ 1000000000; omega), i3, i2⟩
          · rw [if_neg (fun h => hlen (hiff.1 h)), if_neg hlen]
            exact ⟨_, rfl, rfl, by decide, by decide, by decide, by simp⟩
      · rw [if_neg hc128, if_neg hc128]
        have ih' := ih (j + 1) (ds ++ [d]) k (ihk []) hln hok' (by rw [htk, List.map_append, hcc2 hc128]; rfl) i4 ihk2
        rw [hm] at ih'
        rw [ias]
        exact ih'
    · have hd : decide (at_ + (j : Int) < s.size) = false := decide_eq_false hlt
      simp only [spec_ReadVar.l0, impl_ReadVar.l0, if_neg hlt, ej.out, hd, if_pos i5, spec_ReadVar.j1, impl_ReadVar.j1]
      exact ⟨(0, 0, false), by simp, by simp, by decide, by decide, by decide, by simp⟩
theorem readvar_alike (s : ByteArray) (hs : s.size ≤ 1048576) (at_ : Int) (k : Nat) (hk : 30 ≤ k) : ∃ res, spec_ReadVar.f k s at_ = some res ∧ impl_ReadVar.f k s at_ = some res ∧ 0 ≤ res.1 ∧ res.1 ≤ 1000000000 ∧ 0 ≤ res.2.1 ∧ res.2.1 ≤ s.size := by
  unfold spec_ReadVar.f impl_ReadVar.f spec_l01In.f impl_within.f
  by_cases h0 : at_ ≥ 0
  · rw [if_pos h0]
    by_cases h1 : at_ ≤ s.size
    · have := rv_rounds s hs at_ h0 h1 5 0 [] k rfl rfl (by intro d hd; simp at hd) (by simp) (by omega) (by omega)
      simpa [h1, valD] using this
    · simp only [decide_eq_false h1, Option.bind_some]
      exact ⟨(0, 0, false), by simp, by simp, by decide, by decide, by decide, by simp⟩
  · rw [if_neg h0]
    exact ⟨(0, 0, false), by simp, by simp, by decide, by decide, by decide, by simp⟩

theorem FnExactReadVar : laws_FnExactReadVar.Pure := by
  intro s at_ hs _
  refine ⟨30, ?_⟩
  unfold laws_FnExactReadVar.f
  by_cases h1 : (s.size : Int) > 1048576
  · rw [if_pos h1]
  rw [if_neg h1]
  obtain ⟨res, h2, h3, _⟩ := readvar_alike s (by omega) at_ 30 (by omega)
  rw [h2, h3]
  simp

end Go.Proofs.Ytbkibnjpolnajaa.Pure
