/- The program's Hex answers the two figures of each byte, and true; nothing and false beyond 20000 bytes. No condition but that a text has at most 2^47 bytes. -/
import Derived.Test.YtmbdcobggkhijaaPHexx1
namespace Go.Proofs.Ytmbdcobggkhijaa.Hex
open Go.RowKit Go.Proofs.YtmbdcobggkhijaaW.PrintWords Go.Proofs.YtmbdcobggkhijaaW.PrintLast Go.Proofs.YtmbdcobggkhijaaW.PrintMore
attribute [local go_sem] max2_int min2_int max_two min_two max_three min_three max_four min_four
set_option linter.unusedVariables false
set_option linter.unusedSimpArgs false
def figs : ByteArray := ⟨#[48, 49, 50, 51, 52, 53, 54, 55, 56, 57, 97, 98, 99, 100, 101, 102]⟩
def hexL (l : List Int) : List Int := l.flatMap fun b => [bt figs (b / 16), bt figs (b % 16)]
def T7 : Bool × List (List Nat × List Nat) := (true, [([], []), ([], []), ([], []), ([1, 2], [1, 2]), ([3], [3]), ([4], [4]), ([], []), ([], []), ([6, 7], [6, 7]), ([8], [8]), ([9], [9]), ([5, 10], [5, 10]), ([0, 11], [0, 11]), ([12, 12, 0, 1, 2, 3, 4, 5, 6, 7, 8, 9, 10, 11, 12], [0, 12])])
def B7 : List Nat := [0, 0, 0, 6, 14, 30, 0, 0, 192, 448, 960, 2046, 4095, 8191]
theorem tab7 : rtab .any (opsOf Try.f22 7) = T7 := by kernel_rfl
theorem bits7 : waitsOk T7.2 B7 = true := by kernel_rfl
theorem hexL_snoc (l : List Int) (b : Int) : hexL (l ++ [b]) = hexL l ++ [bt figs (b / 16), bt figs (b % 16)] := by simp [hexL]
theorem hexL_length (l : List Int) : (hexL l).length = 2 * l.length := by
  induction l with
  | nil => rfl
  | cons b l ih => simp only [hexL, List.flatMap_cons, List.length_append] at *; simp at *; omega
theorem take_next (s : ByteArray) (x : Int) (h0 : 0 ≤ x) (h1 : x < (s.size : Int)) : (bytesOf s).take (x + 1).toNat = (bytesOf s).take x.toNat ++ [bt s x] := by
  have hl : x.toNat < (bytesOf s).length := by rw [bytesOf_length]; omega
  rw [show (x + 1).toNat = x.toNat + 1 by omega, List.take_succ_eq_append_getElem hl]
  congr 1
  have := rd_bytesOf s x
  unfold rd at this
  rw [← this]
  simp [List.getD, hl]
set_option maxHeartbeats 8000000 in
set_option maxRecDepth 100000 in
theorem impl_long (a0 : ByteArray) (w : World) (c : (a0.size : Int) > 20000) :
    Calls Try.prog 22 #[.string a0] w fun e w' => e = .returned (.tuple #[.string ⟨#[]⟩, .bool false]) ∧ Below w.heap.size w w' := by
  have c2b0 : decide (20000 < (a0.size : Int)) = true := decide_eq_true c
  have c2b1 : decide (20000 < a0.size) = true := decide_eq_true (by omega)
  go_enter Try.func22, Try.ntmps22
  go_wp2
  go_ret2
  exact ⟨rfl, Below.refl _ _⟩
set_option maxHeartbeats 8000000 in
set_option maxRecDepth 100000 in
theorem impl_hex (a0 : ByteArray) (w : World) (hs : ¬ (a0.size : Int) > 20000) :
    Calls Try.prog 22 #[.string a0] w fun e w' => e = .returned (.tuple #[.string (strOfNums (hexL (bytesOf a0))), .bool true]) ∧ Below w.heap.size w w' := by
  have c2b0 : decide (20000 < (a0.size : Int)) = false := decide_eq_false hs
  have c2b1 : decide (20000 < a0.size) = false := decide_eq_false (by omega)
  have hs' := Aside0.mk hs
  clear hs
  go_enter Try.func22, Try.ntmps22
  go_wp2
  go_loopg [4, 5] (a0.size + 1) (fun kq v4 v5 w' => ∃ x : Int, v5 = .int .i64 x ∧ Aside0 (0 ≤ x) ∧ Aside0 (x + kq = a0.size + 1) ∧ Aside0 (Kd.R (Kd.int .u8) 5 w' w.heap.size (fun _ => True) v4 (hexL ((bytesOf a0).take x.toNat))) ∧ Aside0 (Below w.heap.size w w'))
  case atStart => exact ⟨0, rfl, ⟨by omega⟩, ⟨by omega⟩, ⟨by exact Kd.R_nil _ _ _ _ _⟩, ⟨by repeat (first | (with_reducible first | exact Below.refl _ _ | apply below_alloc | apply pw_below_drewN | apply below_drew1) | exact Below.refl _ _)⟩⟩
  case round =>
    try clear c2b0
    try clear c2b1
    obtain ⟨x, rfl, hx0, hxk, HO, HB⟩ := hrel
    by_cases hlt : x < (a0.size : Int)
    · have c3b0 : decide (x < (a0.size : Int)) = true := decide_eq_true hlt
      have hb := bt_range a0 x
      have nx := take_next a0 x hx0.out hlt
      have hlen : (hexL ((bytesOf a0).take x.toNat)).length ≤ 40000 := by
        rw [hexL_length, List.length_take]; have := hs'.out; have := hx0.out; omega
      have hlen' := Aside0.mk hlen
      have nx' := Aside0.mk nx
      clear nx hlen
      go_wp2
      have n0_ := Aside0.mk (Kd.R_drew HO.out)
      have n1_ := Aside0.mk (below_drew1 HB.out)
      clear HO HB
      have HO := n0_
      have HB := n1_
      clear n0_ n1_
      have p5 : 0 ≤ x := hx0.out
      have q5 : x < (a0.size : Int) := hlt
      have hx5 := bt_at a0 x
      obtain ⟨b, hbb⟩ : ∃ b, bt a0 x = b := ⟨_, rfl⟩
      rw [hbb] at hx5 hb nx'
      have e1 : IntKind.u8.wrap (Int.tdiv b 16) = b / 16 := by
        rw [Int.tdiv_eq_ediv_of_nonneg hb.1]; show b / 16 % 256 = b / 16; omega
      have e2 : Int.tmod b 16 = b % 16 := Int.tmod_eq_emod_of_nonneg hb.1
      have p9 : 0 ≤ b / 16 := by omega
      have q9 : b / 16 < 16 := by omega
      have hx9 := bt_at figs (b / 16)
      have p14 : 0 ≤ b % 16 := by omega
      have q14 : b % 16 < 16 := by omega
      have hx14 := bt_at figs (b % 16)
      unfold figs at hx9 hx14
      replace p5 := eq_true p5
      replace q5 := eq_true q5
      replace p9 := eq_true p9
      replace q9 := eq_true q9
      replace p14 := eq_true p14
      replace q14 := eq_true q14
      refine start_ (n := 14) (S := fun w' => True) (ds := []) #[false, false, false, false, false, false, false, false, false, false, false, false, false, false] (by kernel_rfl) rfl rfl trivial (fun hHeld => ?_); refine with_tabW tab7 bits7 (fun HT_ HW_ => ?_)
      generalize wr.drew = w16 at HO HB hHeld ⊢
      refine pure_ (i := 0) (N := some 15) (v := ?_) (a' := ?_) #[true, false, false, false, false, false, false, false, false, false, false, false, false, false] rfl rfl (any_of HT_.out (by kernel_rfl)) (fun _ _ _ h => h) (Or.inl ⟨by rfl, ?_⟩) ?_ ?_
      rotate_left
      · intro w'
        go_simp
        with_reducible rfl
      rotate_left
      · simp only [Act.put, List.setIfInBounds_toArray, List.set_cons_zero, List.set_cons_succ, i64_w, i32_w]
        rfl
      refine pure_ (i := 1) (N := some 16) (v := ?_) (a' := ?_) #[true, true, false, false, false, false, false, false, false, false, false, false, false, false] rfl rfl (any_of HT_.out (by kernel_rfl)) (fun _ _ _ h => h) (Or.inl ⟨by rfl, ?_⟩) ?_ ?_
      rotate_left
      · intro w'
        go_simp
        with_reducible rfl
      rotate_left
      · simp only [Act.put, List.setIfInBounds_toArray, List.set_cons_zero, List.set_cons_succ, i64_w, i32_w]
        rfl
      refine pure_ (i := 2) (N := some 17) (v := ?_) (a' := ?_) #[true, true, true, false, false, false, false, false, false, false, false, false, false, false] rfl rfl (any_of HT_.out (by kernel_rfl)) (fun _ _ _ h => h) (Or.inl ⟨by rfl, ?_⟩) ?_ ?_
      rotate_left
      · intro w'
        go_simp
        with_reducible rfl
      rotate_left
      · simp only [Act.put, List.setIfInBounds_toArray, List.set_cons_zero, List.set_cons_succ, i64_w, i32_w]
        rfl
      refine pure_ (i := 6) (N := some 21) (v := ?_) (a' := ?_) #[true, true, true, false, false, false, true, false, false, false, false, false, false, false] rfl rfl (any_of HT_.out (by kernel_rfl)) (fun _ _ _ h => h) (Or.inl ⟨by rfl, ?_⟩) ?_ ?_
      rotate_left
      · intro w'
        go_simp
        with_reducible rfl
      rotate_left
      · simp only [Act.put, List.setIfInBounds_toArray, List.set_cons_zero, List.set_cons_succ, i64_w, i32_w]
        rfl
      refine pure_ (i := 7) (N := some 22) (v := ?_) (a' := ?_) #[true, true, true, false, false, false, true, true, false, false, false, false, false, false] rfl rfl (any_of HT_.out (by kernel_rfl)) (fun _ _ _ h => h) (Or.inl ⟨by rfl, ?_⟩) ?_ ?_
      rotate_left
      · intro w'
        go_simp
        with_reducible rfl
      rotate_left
      · simp only [Act.put, List.setIfInBounds_toArray, List.set_cons_zero, List.set_cons_succ, i64_w, i32_w]
        rfl
      refine take_ (i := 3) (N := some 18) (v := ?_) (a' := ?_) #[true, true, true, true, false, false, true, true, false, false, false, false, false, false] rfl rfl (take_ofW HT_.out HW_.out (by kernel_rfl)) (fun _ _ _ h => h) (Or.inl ⟨by rfl, ?_⟩) hHeld ?_ ?_
      rotate_left
      · intro w' _
        go_simp
        with_reducible rfl
      rotate_left
      · simp only [Act.put, List.setIfInBounds_toArray, List.set_cons_zero, List.set_cons_succ, i64_w, i32_w]
        rfl
      refine pure_ (i := 4) (N := some 19) (v := ?_) (a' := ?_) #[true, true, true, true, true, false, true, true, false, false, false, false, false, false] rfl rfl (any_of HT_.out (by kernel_rfl)) (fun _ _ _ h => h) (Or.inl ⟨by rfl, ?_⟩) ?_ ?_
      rotate_left
      · intro w'
        go_simp
        with_reducible rfl
      rotate_left
      · simp only [Act.put, List.setIfInBounds_toArray, List.set_cons_zero, List.set_cons_succ, i64_w, i32_w]
        rfl
      refine take_ (i := 5) (N := some 20) (v := ?_) (a' := ?_) #[true, true, true, true, true, true, true, true, false, false, false, false, false, false] rfl rfl (take_ofW HT_.out HW_.out (by kernel_rfl)) (fun _ _ _ h => h) (Or.inl ⟨by rfl, ?_⟩) hHeld ?_ ?_
      rotate_left
      · intro w' _
        go_simp
        with_reducible rfl
      rotate_left
      · simp only [Act.put, List.setIfInBounds_toArray, List.set_cons_zero, List.set_cons_succ, i64_w, i32_w]
        rfl
      refine take_ (i := 8) (N := some 23) (v := ?_) (a' := ?_) #[true, true, true, true, true, true, true, true, true, false, false, false, false, false] rfl rfl (take_ofW HT_.out HW_.out (by kernel_rfl)) (fun _ _ _ h => h) (Or.inl ⟨by rfl, ?_⟩) hHeld ?_ ?_
      rotate_left
      · intro w' _
        go_simp
        with_reducible rfl
      rotate_left
      · simp only [Act.put, List.setIfInBounds_toArray, List.set_cons_zero, List.set_cons_succ, i64_w, i32_w]
        rfl
      refine pure_ (i := 9) (N := some 24) (v := ?_) (a' := ?_) #[true, true, true, true, true, true, true, true, true, true, false, false, false, false] rfl rfl (any_of HT_.out (by kernel_rfl)) (fun _ _ _ h => h) (Or.inl ⟨by rfl, ?_⟩) ?_ ?_
      rotate_left
      · intro w'
        go_simp
        with_reducible rfl
      rotate_left
      · simp only [Act.put, List.setIfInBounds_toArray, List.set_cons_zero, List.set_cons_succ, i64_w, i32_w]
        rfl
      refine take_ (i := 10) (N := some 25) (v := ?_) (a' := ?_) #[true, true, true, true, true, true, true, true, true, true, true, false, false, false] rfl rfl (take_ofW HT_.out HW_.out (by kernel_rfl)) (fun _ _ _ h => h) (Or.inl ⟨by rfl, ?_⟩) hHeld ?_ ?_
      rotate_left
      · intro w' _
        go_simp
        with_reducible rfl
      rotate_left
      · simp only [Act.put, List.setIfInBounds_toArray, List.set_cons_zero, List.set_cons_succ, i64_w, i32_w]
        rfl
      refine one_ (i := 11) (N := some 26) #[true, true, true, true, true, true, true, true, true, true, true, true, false, false] rfl rfl (one_of HT_.out (by kernel_rfl)) (by decide) (fun K hK => ?_)
      refine Kd.R_lit_step (Kd.int .u8) _ 5 ?hg (N := 26) ?hd (xs := [bt figs (b / 16), bt figs (b % 16)]) (inner := [.int .u8 (bt figs (b / 16)), .int .u8 (bt figs (b % 16))]) (ok := fun _ => True) (okp := fun _ => True) ?hr ?hp (fun _ hk => hk) trivial (Below.refl _ _) (Nat.le_refl _) (by simp) ?_
      case hd => rfl
      case hg => rfl
      case hr => first | (go_simp; done) | (go_simp; rfl)
      case hp => exact (Reps.one (show Kd.M (Kd.int .u8) _ _ _ (bt figs (b / 16)) [.int .u8 (bt figs (b / 16))] from rfl) (Reps.one (show Kd.M (Kd.int .u8) _ _ _ (bt figs (b % 16)) [.int .u8 (bt figs (b % 16))] from rfl) (Reps.none _ _)))
      intro v113 w17 ho18 hb18 hg_ hnew_
      clear hg_ hnew_
      have n0_ := Aside0.mk (Kd.R_elder' (by (with_reducible repeat (first | apply Kd.R_alloc | apply Kd.R_drewN | apply Kd.R_drew)); exact HO.out) (Kd.R_base ho18) hb18)
      have n1_ := Aside0.mk (Kd.R_lower (Kd.R_new' ho18 (Kd.R_lt (by (with_reducible repeat (first | apply Kd.R_alloc | apply Kd.R_drewN | apply Kd.R_drew)); exact HO.out))) (below_size (by repeat (first | (with_reducible first | exact HB.out | apply below_alloc | apply pw_below_drewN | apply below_drew1) | exact HB.out))))
      have n2_ := Aside0.mk (below_step (by repeat (first | (with_reducible first | exact HB.out | apply below_alloc | apply pw_below_drewN | apply below_drew1) | exact HB.out)) hb18)
      clear HO HB
      have HO := n0_
      have HO2 := n1_
      have HB := n2_
      clear n0_ n1_ n2_ hb18 ho18
      obtain ⟨Ao20, co20, eo20⟩ := Kd.R_slice HO2.out
      first | subst eo20 | (injection eo20 with f1_ f2_ f3_; have f4_ := f1_.symm; have f5_ := f3_.symm; clear f1_ f2_ f3_; subst f4_; subst f5_)
      refine hK.out _ _ trivial (fun hHeld => ?_)
      clear hK K
      refine norm_ (a' := ?_) ?_ ?_
      rotate_left
      · show Act.put _ (some 26) _ = _
        simp only [Act.put, List.setIfInBounds_toArray, List.set_cons_zero, List.set_cons_succ, i64_w, i32_w]
        rfl
      refine one_ (i := 12) (N := some 27) #[true, true, true, true, true, true, true, true, true, true, true, true, true, false] rfl rfl (one_of HT_.out (by kernel_rfl)) (by decide) (fun K hK => ?_)
      refine Kd.R_append_rows_step (Kd.int .u8) (w0 := w) w.heap.size (by rfl) (.tmp 15) (.tmp 26) 41 5 (.int .u8 0) 1 rfl Try.underlying41 PHex.info5 rfl (by decide) (by omega) u4 (hexL ((bytesOf a0).take x.toNat)) [bt figs (b / 16), bt figs (b % 16)] _ _ _ (fun k_ => some k_ ≠ (.slice Ao20 [bt figs (b / 16), bt figs (b % 16)].length co20 : Value).ownBlock) (fun _ => False) rfl rfl ?aO ?aR (fun _ _ h => h) (fun _ h => h.elim) ?aF ?aB ?aS ?aL ?_
      case aR => repeat (first | exact (Kd.R_reads' HO2.out).2.2 | (with_reducible refine Kd.C_alloc ?_ _) | (with_reducible refine Kd.C_drewN ?_ _) | (with_reducible refine Kd.C_drew ?_))
      case aB => exact (by repeat (first | (with_reducible first | exact HB.out | apply below_alloc | apply pw_below_drewN | apply below_drew1) | exact HB.out))
      case aF => exact (fun k_ hk => Kd.fresh' (Kd.R_lt (by (with_reducible repeat (first | apply Kd.R_alloc | apply Kd.R_drewN | apply Kd.R_drew)); exact HO2.out)) k_ hk)
      case aO => exact (by (with_reducible repeat (first | apply Kd.R_alloc | apply Kd.R_drewN | apply Kd.R_drew)); exact Kd.R_mono HO.out (fun _ hk => hk.2))
      case aS => exact (below_size (by repeat (first | (with_reducible first | exact HB.out | apply below_alloc | apply pw_below_drewN | apply below_drew1) | exact HB.out)))
      case aL => have := hlen'.out; simp; omega
      intro v116 w19 ho hbl hg hat
      have n1_ := Aside0.mk hbl
      have n2_ := Aside0.mk ho
      clear HO2 HB HO
      have HB := n1_
      have HO := n2_
      clear n1_ n2_ ho hbl hg hat
      refine hK.out _ _ trivial (fun hHeld => ?_)
      clear hK K
      refine norm_ (a' := ?_) ?_ ?_
      rotate_left
      · show Act.put _ (some 27) _ = _
        simp only [Act.put, List.setIfInBounds_toArray, List.set_cons_zero, List.set_cons_succ, i64_w, i32_w]
        rfl
      refine pure_ (i := 13) (N := some 4) (v := ?_) (a' := ?_) #[true, true, true, true, true, true, true, true, true, true, true, true, true, true] rfl rfl (any_of HT_.out (by kernel_rfl)) (fun _ _ _ h => h) (Or.inl ⟨by rfl, ?_⟩) ?_ ?_
      rotate_left
      · intro w'
        go_simp
        with_reducible rfl
      rotate_left
      · simp only [Act.put, List.setIfInBounds_toArray, List.set_cons_zero, List.set_cons_succ, i64_w, i32_w]
        rfl
      refine done_ (done_of HT_.out (by kernel_rfl)) ?_
      go_wp2
      go_roundg (a0.size - x.toNat)
      case measure => have := hxk.out; have := hx0.out; omega
      case rel => exact ⟨x + 1, (by rw [show wrap64 (x + 1) = x + 1 by unfold wrap64; have := hx0.out; have := hs'.out; omega]), ⟨by have := hx0.out; omega⟩, ⟨by have := hxk.out; have := hx0.out; omega⟩, ⟨by rw [nx'.out, hexL_snoc]; exact Kd.R_mono HO.out (fun _ _ => trivial)⟩, ⟨by repeat (first | (with_reducible first | exact HB.out | apply below_alloc | apply pw_below_drewN | apply below_drew1) | exact HB.out)⟩⟩
    · have c3b0 : decide (x < (a0.size : Int)) = false := decide_eq_false hlt
      have hcv := own_string (P := Try.prog) Try.underlying41 Try.underlying5 Try.underlying9 (Kd.own_of_R HO.out)
      have hall : (bytesOf a0).take x.toNat = bytesOf a0 := List.take_of_length_le (by rw [bytesOf_length]; omega)
      rw [hall] at hcv
      clear hall
      go_wp2
      go_ret2
      exact ⟨rfl, by repeat (first | (with_reducible first | exact HB.out | apply below_alloc | apply pw_below_drewN | apply below_drew1) | exact HB.out)⟩
open Go.Proofs.Ytmbdcobggkhijaa.PHex
theorem fig_at (x : Int) (h0 : 0 ≤ x) (h1 : x < 16) : spec_l01Figure.f x = some (bt figs x) := by
  have : x = 0 ∨ x = 1 ∨ x = 2 ∨ x = 3 ∨ x = 4 ∨ x = 5 ∨ x = 6 ∨ x = 7 ∨ x = 8 ∨ x = 9 ∨ x = 10 ∨ x = 11 ∨ x = 12 ∨ x = 13 ∨ x = 14 ∨ x = 15 := by omega
  rcases this with rfl | rfl | rfl | rfl | rfl | rfl | rfl | rfl | rfl | rfl | rfl | rfl | rfl | rfl | rfl | rfl <;> decide +kernel
theorem spec_rounds (s : ByteArray) (hs : s.size ≤ 20000) (d : Nat) : ∀ (k : Nat) (x : Int) (l : List Int), 0 ≤ x → x + d = s.size → d < k → l.length + 2 * d < 100000 →
    spec_Hex.l0 k s l x = some (strOfNums (l ++ hexL ((bytesOf s).drop x.toNat)), true) := by
  induction d with
  | zero =>
    intro k x l h0 hx hk hl
    obtain ⟨k, rfl⟩ : ∃ m, k = m + 1 := ⟨k - 1, by omega⟩
    simp only [spec_Hex.l0]
    rw [if_neg (by omega), List.drop_eq_nil_of_le (by rw [bytesOf_length]; omega)]
    simp [hexL]
  | succ d ih =>
    intro k x l h0 hx hk hl
    obtain ⟨k, rfl⟩ : ∃ m, k = m + 1 := ⟨k - 1, by omega⟩
    have hb := bt_range s x
    simp only [spec_Hex.l0]
    rw [if_pos (by omega), if_pos h0]
    have e0 : wrap64 (bt s x) = bt s x := by unfold wrap64; omega
    have e1 : wrap64 (Int.tdiv (bt s x) 16) = bt s x / 16 := by
      rw [Int.tdiv_eq_ediv_of_nonneg hb.1]; unfold wrap64; omega
    have e2 : Int.tmod (bt s x) 16 = bt s x % 16 := Int.tmod_eq_emod_of_nonneg hb.1
    rw [e0, e1, e2, fig_at _ (by omega) (by omega), fig_at _ (by omega) (by omega)]
    simp only [Option.bind_some, List.length_cons, List.length_nil]
    rw [if_pos (by omega), show wrap64 (x + 1) = x + 1 by unfold wrap64; omega]
    rw [ih k (x + 1) _ (by omega) (by omega) (by omega) (by simp; omega)]
    have hd : (bytesOf s).drop x.toNat = bt s x :: (bytesOf s).drop (x + 1).toNat := by
      have hl : x.toNat < (bytesOf s).length := by rw [bytesOf_length]; omega
      rw [List.drop_eq_getElem_cons hl, show (x + 1).toNat = x.toNat + 1 by omega]
      congr 1
      have := rd_bytesOf s x
      unfold rd at this
      rw [← this]
      simp [List.getD, hl]
    rw [hd]
    simp [hexL]
theorem spec_hex (a0 : ByteArray) (w : World) (hs : ¬ (a0.size : Int) > 20000) :
    Calls Try.prog 21 #[.string a0] w fun e w' => e = .returned (.tuple #[.string (strOfNums (hexL (bytesOf a0))), .bool true]) ∧ Below w.heap.size w w' := by
  refine spec_Hex.calls (a0.size + 1) a0 _ _ w ?_
  unfold spec_Hex.f
  rw [if_neg hs, spec_rounds a0 (by omega) a0.size (a0.size + 1) 0 [] (by omega) (by omega) (by omega) (by simp; omega)]
  rfl
theorem spec_long (a0 : ByteArray) (w : World) (hs : (a0.size : Int) > 20000) :
    Calls Try.prog 21 #[.string a0] w fun e w' => e = .returned (.tuple #[.string ⟨#[]⟩, .bool false]) ∧ Below w.heap.size w w' := by
  refine spec_Hex.calls 0 a0 _ _ w ?_
  unfold spec_Hex.f
  rw [if_pos hs]
set_option maxHeartbeats 1000000 in
theorem law_walk (a0 : ByteArray) (w : World) (h0 : a0.size ≤ 140737488351232) :
    Calls Try.prog 7 #[.string a0] w fun e w' => e = .returned (.bool true) ∧ Below w.heap.size w w' := by
  by_cases c1 : (a0.size : Int) > 1048576
  · have c1b0 : decide (1048576 < (a0.size : Int)) = true := decide_eq_true c1
    have c1b1 : decide (1048576 < a0.size) = true := decide_eq_true (by omega)
    go_enter Try.func7, Try.ntmps7
    go_wp2
    go_ret
    exact ⟨rfl, Below.refl _ _⟩
  have c1b0 : decide (1048576 < (a0.size : Int)) = false := decide_eq_false c1
  have c1b1 : decide (1048576 < a0.size) = false := decide_eq_false (by omega)
  by_cases c2 : (a0.size : Int) > 20000
  · go_enter Try.func7, Try.ntmps7
    go_wp2_with (first
      | (go_at_call 21; refine (spec_long _ _ c2).mono ?_; rintro e w1 ⟨rfl, hb1⟩)
      | (go_at_call 22; refine (impl_long _ _ c2).mono ?_; rintro e w2 ⟨rfl, hb2⟩))
    go_ret
    exact ⟨rfl, below_then hb1 hb1.size hb2⟩
  · obtain ⟨R, hR⟩ : ∃ R, strOfNums (hexL (bytesOf a0)) = R := ⟨_, rfl⟩
    have hi := fun w => impl_hex a0 w c2
    have hsp := fun w => spec_hex a0 w c2
    rw [hR] at hi hsp
    go_enter Try.func7, Try.ntmps7
    go_wp2_with (first
      | (go_at_call 21; refine (hsp _).mono ?_; rintro e w1 ⟨rfl, hb1⟩)
      | (go_at_call 22; refine (hi _).mono ?_; rintro e w2 ⟨rfl, hb2⟩))
    go_ret
    exact ⟨rfl, below_then hb1 hb1.size hb2⟩
end Go.Proofs.Ytmbdcobggkhijaa.Hex
