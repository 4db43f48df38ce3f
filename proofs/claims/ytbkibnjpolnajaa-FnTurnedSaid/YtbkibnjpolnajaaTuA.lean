/- What the law FnTurned does, step by step, for any text and places drawn. No condition but those that the theorem names. -/
import Derived.Test.YtbkibnjpolnajaaKTux2
import Derived.WalkLawsBesides
import Derived.Laws.IdiomStrings
namespace Go.Proofs.Ytbkibnjpolnajaa.TuA
open Go.RowKit Go.Proofs.YtbkibnjpolnajaaW.PrintWords Go.Proofs.YtbkibnjpolnajaaW.PrintLast Go.Proofs.YtbkibnjpolnajaaW.PrintMore Go.Proofs.Ytbkibnjpolnajaa.KTu
set_option linter.unusedVariables false
set_option linter.unusedSimpArgs false
theorem xor8 (x : UInt8) (z : Int) (h1 : 1 ≤ z) (h2 : z ≤ 255) : ∃ y : UInt8, Go.bits .xor .u8 (x.toNat : Int) z = (y.toNat : Int) ∧ y ≠ x := by
  obtain ⟨n, rfl⟩ := Int.eq_ofNat_of_zero_le (show 0 ≤ z by omega)
  refine ⟨x ^^^ UInt8.ofNat n, ?_, ?_⟩
  · have e1 : BitVec.ofInt 8 (x.toNat : Int) = x.toBitVec := by apply BitVec.eq_of_toNat_eq; simp
    have e2 : BitVec.ofInt 8 (n : Int) = (UInt8.ofNat n).toBitVec := by apply BitVec.eq_of_toNat_eq; simp
    show IntKind.u8.wrap ((BitVec.ofInt 8 (x.toNat : Int) ^^^ BitVec.ofInt 8 (n : Int)).toNat : Int) = _
    rw [e1, e2, ← UInt8.toBitVec_xor]
    show IntKind.u8.wrap ((x ^^^ UInt8.ofNat n).toNat : Int) = _
    obtain ⟨v, hv⟩ : ∃ v, v = (x ^^^ UInt8.ofNat n).toNat := ⟨_, rfl⟩
    have := (x ^^^ UInt8.ofNat n).toNat_lt
    rw [← hv] at this ⊢
    simp only [IntKind.wrap, IntKind.bits, IntKind.signed]
    simp; omega
  · intro h
    have h3 : x ^^^ (x ^^^ UInt8.ofNat n) = x ^^^ x := by rw [h]
    rw [← UInt8.xor_assoc, UInt8.xor_self, UInt8.zero_xor] at h3
    have h4 := congrArg UInt8.toNat h3
    simp at h4
    omega
def T11 : Bool × List (List Nat × List Nat) := (true, [([], []), ([], []), ([], []), ([], []), ([2, 3], [2, 3]), ([4], [4]), ([], []), ([6], [6]), ([7], [7]), ([8], [8]), ([9], [9]), ([10], [10]), ([5, 11], [5, 11]), ([0, 1, 0, 1, 2, 3, 4, 5, 6, 7, 8, 9, 10, 11, 12], [0, 1]), ([13, 12, 0, 1, 2, 3, 4, 5, 6, 7, 8, 9, 10, 11, 12], [12, 13])])
def B11 : List Nat := [0, 0, 0, 0, 12, 28, 0, 64, 192, 448, 960, 1984, 4092, 8191, 16383]
theorem tab11 : rtab .any (opsOf Try.f9 11) = T11 := by kernel_rfl
theorem bits11 : waitsOk T11.2 B11 = true := by kernel_rfl
theorem rd_mem (p : List Int) (i : Int) (h0 : 0 ≤ i) (h1 : i < p.length) : rd p i ∈ p := by
  obtain ⟨n, rfl⟩ := Int.eq_ofNat_of_zero_le h0
  have hn : n < p.length := by omega
  have : rd p ((n : Nat) : Int) = p[n] := by simp [rd, rdOf, hn]
  rw [this]; exact List.getElem_mem hn
theorem laid (w : World) (t : ByteArray) : ∃ cap C fr, (convert 9 31 (.string t)).run Try.prog w = .ok (.slice (some ⟨w.heap.size, 0, none⟩) t.size cap) (w.drew.alloc (.cells C 5 fr)) ∧ t.size ≤ fr.1 ∧ ∀ i (h : i < t.size), C[i]? = some (.int .u8 (t.data[i]).toNat) := by
  refine ⟨_, _, _, run_bytes_of_string w 9 31 5 t (by kernel_rfl) (by kernel_rfl) (by kernel_rfl), ?_, ?_⟩
  · simp [bytesRow]
  · intro i h
    unfold bytesRow
    rw [Array.getElem?_append_left (by simpa using h)]
    simp [h]
set_option maxHeartbeats 8000000 in
set_option maxRecDepth 100000 in
theorem turned_calls (k : Nat) (A : Option Addr) (c : Nat) (l : List Int) (w : World) (hC : Kd.C (Kd.int .u8) w A l.length l) (hc : l.length ≤ c)
    (s t : ByteArray) (p : List Int) (q r : Int)
    (hbig : laws_big.f l = some false) (hs : spec_DrawSumOf.f k l = some s) (hp : spec_DrawPlaces.f k l = some p) (hpl : p.length = 12) (hp0 : ∀ x ∈ p, 0 ≤ x ∧ x < 10000)
    (hT : impl_Sealed.f k s = some (t, true)) (hU : impl_Unsealed.f k t = some (s, true)) (ht : t.size = s.size + 4) (hsz : s.size ≤ 40)
    (hV : ∀ (ix : Nat) (y : UInt8) (h : ix < t.size), y ≠ t.data[ix] → ∃ u', impl_Unsealed.f k ⟨(t.data.toList.set ix y).toArray⟩ = some (u', false))
    (hS1 : impl_SumOf.f k s = some q) (hS2 : impl_SumMore.f k q ⟨#[120]⟩ = some r) (hS3 : impl_SumOf.f k (s ++ ⟨#[120]⟩) = some r) :
    Calls Try.prog 9 #[.slice A l.length c] w fun e w' => e = .returned (.bool true) ∧ Below w.heap.size w w' := by
  have HC := Aside0.mk hC
  have HCC := Aside0.mk hc
  have HB := Aside0.mk (Below.refl w.heap.size w)
  have ht1 : ((t.size : Int) != (s.size : Int) + 4) = false := by simp; omega
  have hsz' : (s.size : Int) ≤ 40 := by omega
  have hst : (s.toList != s.toList) = false := by simp
  have HP := Aside0.mk hp0
  have HT := Aside0.mk ht
  have HS := Aside0.mk hsz
  have HPL := Aside0.mk hpl
  clear hC hc hp0 ht hsz hpl
  go_enter Try.func9, Try.ntmps9
  go_wp2_with (first
    | (go_at_call 25; refine (laws_big.calls _ _ l false _ ?s1 HCC.out hbig).mono ?_; (case s1 => exact HC.out); rintro e w1 ⟨rfl, hb1⟩; have B1 := Aside0.mk hb1.below; clear hb1)
    | (go_at_call 26; refine (spec_DrawSumOf.calls k _ _ l s _ ?s1 HCC.out hs).mono ?_; (case s1 => exact Kd.C_below HC.out B1.out); rintro e w2 ⟨rfl, hb2⟩; have B2 := Aside0.mk (below_step B1.out hb2); clear hb2)
    | (go_at_call 27; refine (spec_DrawPlaces.calls k _ _ l p _ ?s1 HCC.out hp).mono ?_; (case s1 => exact Kd.C_below HC.out B2.out); rintro e w3 ⟨v0, rfl, hr3, hb3⟩; have B3 := Aside0.mk (below_step B2.out hb3); obtain ⟨PA, PC, rfl, hPl, hPr⟩ := Kd.R_reads hr3; have R3 := Aside0.mk hPr; clear hb3 hr3)
    | (go_at_call 28; refine (impl_Sealed.calls k s t true _ hT).mono ?_; rintro e w4 ⟨rfl, hb4⟩; have B4 := Aside0.mk (below_step B3.out hb4); have R4 := Aside0.mk (Kd.C_below R3.out hb4); clear hb4)
    | (go_at_call 20; refine (impl_Unsealed.calls k t s true _ hU).mono ?_; rintro e w5 ⟨rfl, hb5⟩; have B5 := Aside0.mk (below_step B4.out hb5); have R5 := Aside0.mk (Kd.C_below R4.out hb5); clear hb5))
  obtain ⟨cap, C, fr, hrun, hfr, hC⟩ := laid w5 t
  rw [hrun]
  have hblk0 := blk_new w5.drew (.cells C 5 fr)
  have hb6 := below_alloc (below_drew1 (Below.refl w5.heap.size w5)) (.cells C 5 fr)
  have hsize : w5.drew.heap.size = w5.heap.size := rfl
  rw [hsize] at hblk0
  obtain ⟨w6, hw6⟩ : ∃ w6, w6 = w5.drew.alloc (.cells C 5 fr) := ⟨_, rfl⟩
  rw [← hw6] at hblk0 hb6 ⊢
  obtain ⟨g, hg⟩ : ∃ g, g = w5.heap.size := ⟨_, rfl⟩
  rw [← hg] at hblk0 ⊢
  have HBK := Aside0.mk hblk0
  have B6 := Aside0.mk (below_step B5.out hb6)
  have R6 := Aside0.mk (Kd.C_below R5.out hb6)
  have HG := Aside0.mk (show w.heap.size ≤ g by rw [hg]; exact B5.out.size)
  have HCL := Aside0.mk hC
  have HFR := Aside0.mk hfr
  clear hblk0 hb6 hw6 hg hrun hC hfr hsize
  obtain ⟨ad0, e0, hx0⟩ := Kd.at_int R6.out 0 (by omega) (by have := HPL.out; omega)
  cases e0
  obtain ⟨ad1, e1, hx1⟩ := Kd.at_int R6.out 1 (by omega) (by have := HPL.out; omega)
  cases e1
  rw [show ad0.add (0 : Int).toNat = ad0 by cases ad0; simp [Addr.add]] at hx0
  have hx1' : w6.cell? { block := ad0.block, off := ad0.off + 1 } = some (.int .i64 (rd p 1)) := hx1
  clear hx1
  have hl0 : ((0 : Int) < (p.length : Int)) = True := eq_true (by have := HPL.out; omega)
  have hl1 : ((1 : Int) < (p.length : Int)) = True := eq_true (by have := HPL.out; omega)
  have hl2 : (0 < p.length) = True := eq_true (by have := HPL.out; omega)
  have hl3 : (1 < p.length) = True := eq_true (by have := HPL.out; omega)
  have htz : ((t.size : Int) == 0) = false := beq_false_of_ne (by have := HT.out; omega)
  have htz' : ¬ (t.size : Int) = 0 := by have := HT.out; omega
  go_wp2
  obtain ⟨ix, hix⟩ : ∃ ix : Nat, (rd p 0).tmod (t.size : Int) = (ix : Int) := ⟨((rd p 0).tmod (t.size : Int)).toNat, by have := (HP.out (rd p 0) (rd_mem p 0 (by omega) (by have := HPL.out; omega))).1; have := Int.tmod_nonneg (t.size : Int) this; omega⟩
  have hixl : ix < t.size := by
    have h1 := Int.tmod_lt_of_pos (rd p 0) (b := (t.size : Int)) (by have := HT.out; omega)
    omega
  rw [hix]
  have hcx0 := (cell_of_row w6 g ix C 5 fr HBK.out).trans (HCL.out ix hixl)
  obtain ⟨x, hx⟩ : ∃ x : Int, x = ((t.data[ix]).toNat : Int) := ⟨_, rfl⟩
  rw [← hx] at hcx0
  have hcx : w6.drew.cell? ⟨g, ix, none⟩ = some (.int .u8 x) := hcx0
  have hil : ((ix : Int) < (t.size : Int)) = True := eq_true (by omega)
  have hil' : (ix < t.size) = True := eq_true (by omega)
  have HIX := Aside0.mk hix
  have HXX := Aside0.mk hx
  clear hix hx
  refine start_ (n := 15) (S := fun w' => w'.cell? ⟨g, ix, none⟩ = some (.int .u8 x) ∧ w'.cell? { block := ad0.block, off := ad0.off + 1 } = some (.int .i64 (rd p 1))) (ds := [14]) #[false, false, false, false, false, false, false, false, false, false, false, false, false, false, false] (by kernel_rfl) rfl rfl ⟨hcx, hx1'⟩ (fun hHeld => ?_); refine with_tabW tab11 bits11 (fun HT_ HW_ => ?_)
  refine pure_ (i := 0) (N := some 56) (v := ?_) (a' := ?_) #[true, false, false, false, false, false, false, false, false, false, false, false, false, false, false] rfl rfl (any_of HT_.out (by kernel_rfl)) (fun _ _ _ h => h) (Or.inl ⟨by rfl, ?_⟩) ?_ ?_
  rotate_left
  · intro w'
    go_simp
    with_reducible rfl
  rotate_left
  · simp only [Act.put, List.setIfInBounds_toArray, List.set_cons_zero, List.set_cons_succ, i64_w, i32_w]
    rfl
  refine pure_ (i := 1) (N := some 57) (v := ?_) (a' := ?_) #[true, true, false, false, false, false, false, false, false, false, false, false, false, false, false] rfl rfl (any_of HT_.out (by kernel_rfl)) (fun _ _ _ h => h) (Or.inl ⟨by rfl, ?_⟩) ?_ ?_
  rotate_left
  · intro w'
    go_simp
    with_reducible rfl
  rotate_left
  · simp only [Act.put, List.setIfInBounds_toArray, List.set_cons_zero, List.set_cons_succ, i64_w, i32_w]
    rfl
  refine pure_ (i := 2) (N := some 58) (v := ?_) (a' := ?_) #[true, true, true, false, false, false, false, false, false, false, false, false, false, false, false] rfl rfl (any_of HT_.out (by kernel_rfl)) (fun _ _ _ h => h) (Or.inl ⟨by rfl, ?_⟩) ?_ ?_
  rotate_left
  · intro w'
    go_simp
    with_reducible rfl
  rotate_left
  · simp only [Act.put, List.setIfInBounds_toArray, List.set_cons_zero, List.set_cons_succ, i64_w, i32_w]
    rfl
  refine pure_ (i := 3) (N := some 59) (v := ?_) (a' := ?_) #[true, true, true, true, false, false, false, false, false, false, false, false, false, false, false] rfl rfl (any_of HT_.out (by kernel_rfl)) (fun _ _ _ h => h) (Or.inl ⟨by rfl, ?_⟩) ?_ ?_
  rotate_left
  · intro w'
    go_simp
    with_reducible rfl
  rotate_left
  · simp only [Act.put, List.setIfInBounds_toArray, List.set_cons_zero, List.set_cons_succ, i64_w, i32_w]
    rfl
  refine pure_ (i := 6) (N := some 62) (v := ?_) (a' := ?_) #[true, true, true, true, false, false, true, false, false, false, false, false, false, false, false] rfl rfl (any_of HT_.out (by kernel_rfl)) (fun _ _ _ h => h) (Or.inl ⟨by rfl, ?_⟩) ?_ ?_
  rotate_left
  · intro w'
    go_simp
    with_reducible rfl
  rotate_left
  · simp only [Act.put, List.setIfInBounds_toArray, List.set_cons_zero, List.set_cons_succ, i64_w, i32_w]
    rfl
  refine take_ (i := 4) (N := some 60) (v := ?_) (a' := ?_) #[true, true, true, true, true, false, true, false, false, false, false, false, false, false, false] rfl rfl (take_ofW HT_.out HW_.out (by kernel_rfl)) (fun _ _ _ h => h) (Or.inl ⟨by rfl, ?_⟩) hHeld ?_ ?_
  rotate_left
  · intro w' hS; obtain ⟨hS0, hS1⟩ := hS
    go_simp
    with_reducible rfl
  rotate_left
  · simp only [Act.put, List.setIfInBounds_toArray, List.set_cons_zero, List.set_cons_succ, i64_w, i32_w]
    rfl
  refine take_ (i := 5) (N := some 61) (v := ?_) (a' := ?_) #[true, true, true, true, true, true, true, false, false, false, false, false, false, false, false] rfl rfl (take_ofW HT_.out HW_.out (by kernel_rfl)) (fun _ _ _ h => h) (Or.inl ⟨by rfl, ?_⟩) hHeld ?_ ?_
  rotate_left
  · intro w' hS; obtain ⟨hS0, hS1⟩ := hS
    go_simp
    with_reducible rfl
  rotate_left
  · simp only [Act.put, List.setIfInBounds_toArray, List.set_cons_zero, List.set_cons_succ, i64_w, i32_w]
    rfl
  refine take_ (i := 7) (N := some 63) (v := ?_) (a' := ?_) #[true, true, true, true, true, true, true, true, false, false, false, false, false, false, false] rfl rfl (take_ofW HT_.out HW_.out (by kernel_rfl)) (fun _ _ _ h => h) (Or.inl ⟨by rfl, ?_⟩) hHeld ?_ ?_
  rotate_left
  · intro w' hS; obtain ⟨hS0, hS1⟩ := hS
    go_simp
    with_reducible rfl
  rotate_left
  · simp only [Act.put, List.setIfInBounds_toArray, List.set_cons_zero, List.set_cons_succ, i64_w, i32_w]
    rfl
  refine take_ (i := 8) (N := some 64) (v := ?_) (a' := ?_) #[true, true, true, true, true, true, true, true, true, false, false, false, false, false, false] rfl rfl (take_ofW HT_.out HW_.out (by kernel_rfl)) (fun _ _ _ h => h) (Or.inl ⟨by rfl, ?_⟩) hHeld ?_ ?_
  rotate_left
  · intro w' hS; obtain ⟨hS0, hS1⟩ := hS
    go_simp
    with_reducible rfl
  rotate_left
  · simp only [Act.put, List.setIfInBounds_toArray, List.set_cons_zero, List.set_cons_succ, i64_w, i32_w]
    rfl
  refine take_ (i := 9) (N := some 65) (v := ?_) (a' := ?_) #[true, true, true, true, true, true, true, true, true, true, false, false, false, false, false] rfl rfl (take_ofW HT_.out HW_.out (by kernel_rfl)) (fun _ _ _ h => h) (Or.inl ⟨by rfl, ?_⟩) hHeld ?_ ?_
  rotate_left
  · intro w' hS; obtain ⟨hS0, hS1⟩ := hS
    go_simp
    with_reducible rfl
  rotate_left
  · simp only [Act.put, List.setIfInBounds_toArray, List.set_cons_zero, List.set_cons_succ, i64_w, i32_w]
    rfl
  refine pure_ (i := 10) (N := some 66) (v := ?_) (a' := ?_) #[true, true, true, true, true, true, true, true, true, true, true, false, false, false, false] rfl rfl (any_of HT_.out (by kernel_rfl)) (fun _ _ _ h => h) (Or.inl ⟨by rfl, ?_⟩) ?_ ?_
  rotate_left
  · intro w'
    go_simp
    with_reducible rfl
  rotate_left
  · simp only [Act.put, List.setIfInBounds_toArray, List.set_cons_zero, List.set_cons_succ, i64_w, i32_w]
    rfl
  refine pure_ (i := 11) (N := some 67) (v := ?_) (a' := ?_) #[true, true, true, true, true, true, true, true, true, true, true, true, false, false, false] rfl rfl (any_of HT_.out (by kernel_rfl)) (fun _ _ _ h => h) (Or.inl ⟨by rfl, ?_⟩) ?_ ?_
  rotate_left
  · intro w'
    go_simp
    with_reducible rfl
  rotate_left
  · simp only [Act.put, List.setIfInBounds_toArray, List.set_cons_zero, List.set_cons_succ, i64_w, i32_w]
    rfl
  refine pure_ (i := 12) (N := some 68) (v := ?_) (a' := ?_) #[true, true, true, true, true, true, true, true, true, true, true, true, true, false, false] rfl rfl (any_of HT_.out (by kernel_rfl)) (fun _ _ _ h => h) (Or.inl ⟨by rfl, ?_⟩) ?_ ?_
  rotate_left
  · intro w'
    go_simp
    with_reducible rfl
  rotate_left
  · simp only [Act.put, List.setIfInBounds_toArray, List.set_cons_zero, List.set_cons_succ, i64_w, i32_w]
    rfl
  refine take_ (i := 13) (N := some 69) (v := ?_) (a' := ?_) #[true, true, true, true, true, true, true, true, true, true, true, true, true, true, false] rfl rfl (take_ofW HT_.out HW_.out (by kernel_rfl)) (fun _ _ _ h => h) (Or.inl ⟨by rfl, ?_⟩) hHeld ?_ ?_
  rotate_left
  · intro w' hS; obtain ⟨hS0, hS1⟩ := hS
    go_simp
    with_reducible rfl
  rotate_left
  · simp only [Act.put, List.setIfInBounds_toArray, List.set_cons_zero, List.set_cons_succ, i64_w, i32_w]
    rfl
  refine last_ (i := 14) (N := none) #[true, true, true, true, true, true, true, true, true, true, true, true, true, true, true] rfl rfl (one_of HT_.out (by kernel_rfl)) (by decide) (fun K hK => ?_)
  rw [if_pos (by rfl)]
  have hfz : w6.drew.frozen? ⟨g, ix, none⟩ = false := by
    show w6.frozen? ⟨g, ix, none⟩ = false
    have h1 := HBK.out
    have h2 := HFR.out
    simp only [World.frozen?, h1]
    simp; omega
  unfold Oper.wp
  go_simp
  refine hK.out _ _ ?_
  clear hK K
  refine done_ (done_of HT_.out (by kernel_rfl)) ?_
  have hz : 1 ≤ IntKind.u8.wrap (wrap64 (1 + (rd p 1).tmod 255)) ∧ IntKind.u8.wrap (wrap64 (1 + (rd p 1).tmod 255)) ≤ 255 := by
    have h0 := (HP.out (rd p 1) (rd_mem p 1 (by omega) (by have := HPL.out; omega))).1
    have h1 := Int.tmod_nonneg (255 : Int) h0
    have h2 := Int.tmod_lt_of_pos (rd p 1) (b := (255 : Int)) (by omega)
    have h3 : wrap64 (1 + (rd p 1).tmod 255) = 1 + (rd p 1).tmod 255 := by unfold wrap64; omega
    rw [h3]
    simp only [IntKind.wrap, IntKind.bits, IntKind.signed]
    simp; omega
  obtain ⟨y, hy1, hy2⟩ := xor8 t.data[ix] _ hz.1 hz.2
  rw [HXX.out, hy1]
  obtain ⟨u', hu⟩ := hV ix y hixl hy2
  have hcells : ∀ j (hj : j < (t.data.toList.set ix y).length), (w6.setCell ⟨g, ix, none⟩ (.int .u8 (y.toNat : Int))).drew.cell? ((⟨g, 0, none⟩ : Addr).add j) = some (.int .u8 (((t.data.toList.set ix y)[j]).toNat : Int)) := by
    intro j hj
    have hj' : j < t.size := by simpa using hj
    have hb := HBK.out
    have hb' : (w6.setCell ⟨g, ix, none⟩ (.int .u8 (y.toNat : Int))).heap[g]? = some (.cells (C.setIfInBounds ix (.int .u8 (y.toNat : Int))) 5 fr) := by
      simp [World.setCell, Array.getElem?_modify, hb]
    have e : (⟨g, 0, none⟩ : Addr).add j = ⟨g, j, none⟩ := by simp [Addr.add]; exact fun h => h.symm
    rw [e]
    refine (cell_of_row _ g j _ 5 fr hb').trans ?_
    have hCj := HCL.out j hj'
    have hjC : j < C.size := (Array.getElem?_eq_some_iff.1 hCj).1
    by_cases hjx : j = ix
    · subst hjx
      rw [Array.getElem?_setIfInBounds_self_of_lt hjC]
      simp
    · rw [Array.getElem?_setIfInBounds_ne (by omega), hCj]
      simp [List.getElem_set, Ne.symm hjx]
  have hconv := run_convert_bytes_back (P := Try.prog) _ 31 9 5 ⟨g, 0, none⟩ cap (t.data.toList.set ix y) (by kernel_rfl) (by kernel_rfl) (by kernel_rfl) hcells
  rw [show (t.data.toList.set ix y).length = t.size by simp] at hconv
  have B7 := Aside0.mk (below_set (j := ix) (v := (.int .u8 (y.toNat : Int))) B6.out HG.out)
  obtain ⟨w7, hw7⟩ : ∃ w7, w7 = (w6.setCell ⟨g, ix, none⟩ (.int .u8 (y.toNat : Int))) := ⟨_, rfl⟩
  rw [← hw7] at hconv B7 ⊢
  obtain ⟨tb, htb⟩ : ∃ tb, tb = (⟨(t.data.toList.set ix y).toArray⟩ : ByteArray) := ⟨_, rfl⟩
  rw [← htb] at hconv hu
  clear hcells hw7 htb
  have hss : (s.size + 1 ≤ 9223372036854775807) = True := eq_true (by have := HS.out; omega)
  go_wp2_with (first
    | (go_at_call 20; refine (impl_Unsealed.calls k tb u' false _ hu).mono ?_; rintro e w8 ⟨rfl, hb8⟩; have B8 := Aside0.mk (below_step (show Below w.heap.size w w7.drew from below_drew1 B7.out) hb8); clear hb8)
    | (go_at_call 30; with_reducible refine (impl_SumOf.calls k s q _ hS1).mono ?_; rintro e w9 ⟨rfl, hb9⟩; have B9 := Aside0.mk (below_step B8.out hb9.below); clear hb9)
    | (go_at_call 29; refine (impl_SumMore.calls k q ⟨#[120]⟩ r _ hS2).mono ?_; rintro e w10 ⟨rfl, hb10⟩; have B10 := Aside0.mk (below_step B9.out hb10.below); clear hb10)
    | (go_at_call 30; with_reducible refine (impl_SumOf.calls k (s ++ ⟨#[120]⟩) r _ hS3).mono ?_; rintro e w11 ⟨rfl, hb11⟩; have B11' := Aside0.mk (below_step B10.out hb11.below); clear hb11))
  go_ret
  exact ⟨rfl, B11'.out⟩
end Go.Proofs.Ytbkibnjpolnajaa.TuA
