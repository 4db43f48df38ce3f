/- Unhex of the program and of the reference answer alike, for every text. No condition but that a text has at most 2^47 bytes. -/
import Derived.Test.YtmbdcobggkhijaaPUnhexx1
import Derived.Test.YtmbdcobggkhijaaSymA
namespace Go.Proofs.Ytmbdcobggkhijaa.Unhex
open Go.RowKit Go.Proofs.YtmbdcobggkhijaaW.PrintWords Go.Proofs.YtmbdcobggkhijaaW.PrintLast Go.Proofs.YtmbdcobggkhijaaW.PrintMore
attribute [local go_sem] max2_int min2_int max_two min_two max_three min_three max_four min_four
set_option linter.unusedVariables false
set_option linter.unusedSimpArgs false
def hv (c : Int) : Int := if 48 ≤ c ∧ c ≤ 57 then c - 48 else if 97 ≤ c ∧ c ≤ 102 then c - 87 else -1
theorem hv_range (c : Int) : -1 ≤ hv c ∧ hv c ≤ 15 := by unfold hv; split <;> (try split) <;> omega
def unhexL : List Int → Option (List Int)
  | [] => some []
  | [_] => none
  | a :: b :: l => if hv a < 0 ∨ hv b < 0 then none else (unhexL l).map fun r => (16 * hv a + hv b) :: r
def outS : Option (List Int) → ByteArray
  | none => ⟨#[]⟩
  | some l => strOfNums l
theorem idx_hv (c : Int) (h0 : 0 ≤ c) (h1 : c ≤ 255) : Lib.indexByte [48, 49, 50, 51, 52, 53, 54, 55, 56, 57, 97, 98, 99, 100, 101, 102] c.toNat.toUInt8 = hv c := by
  have key : ∀ n : Fin 256, Lib.indexByte [48, 49, 50, 51, 52, 53, 54, 55, 56, 57, 97, 98, 99, 100, 101, 102] (n.val.toUInt8) = hv (n.val : Int) := by decide +kernel
  have := key ⟨c.toNat, by omega⟩
  rw [this]
  congr 1
  show ((c.toNat : Nat) : Int) = c
  omega
theorem idx_fig (c : Int) (w : World) (h0 : 0 ≤ c) (h1 : c ≤ 255) :
    Calls Try.prog 38 #[.string ⟨#[48, 49, 50, 51, 52, 53, 54, 55, 56, 57, 97, 98, 99, 100, 101, 102]⟩, .int .u8 c] w fun e w' => e = .returned (.int .i64 (hv c)) ∧ w' = w := by
  have := Sym.index_byte ⟨#[48, 49, 50, 51, 52, 53, 54, 55, 56, 57, 97, 98, 99, 100, 101, 102]⟩ c w
  rw [← idx_hv c h0 h1]
  exact this
theorem drop_byte (s : ByteArray) (x : Int) (h0 : 0 ≤ x) (h1 : x < (s.size : Int)) : (bytesOf s).drop x.toNat = bt s x :: (bytesOf s).drop (x + 1).toNat := by
  have hl : x.toNat < (bytesOf s).length := by rw [bytesOf_length]; omega
  rw [List.drop_eq_getElem_cons hl, show (x + 1).toNat = x.toNat + 1 by omega]
  congr 1
  have := rd_bytesOf s x
  unfold rd at this
  rw [← this]
  simp [List.getD, hl]
def fin (s : ByteArray) (acc : List Int) (half x : Int) : Option (List Int) :=
  if x % 2 = 0 then (unhexL ((bytesOf s).drop x.toNat)).map fun r => acc ++ r
  else match (bytesOf s).drop x.toNat with
    | [] => none
    | b :: l => if hv b < 0 then none else (unhexL l).map fun r => acc ++ (16 * half + hv b) :: r
theorem fin_bad (s : ByteArray) (acc : List Int) (half x : Int) (h0 : 0 ≤ x) (h1 : x < (s.size : Int)) (hev : (s.size : Int) % 2 = 0) (hb : hv (bt s x) < 0) : fin s acc half x = none := by
  unfold fin
  rw [drop_byte s x h0 h1]
  split
  · rename_i h
    rw [drop_byte s (x + 1) (by omega) (by omega)]
    simp [unhexL, hb]
  · simp [hb]
theorem fin_odd (s : ByteArray) (acc : List Int) (half x : Int) (h0 : 0 ≤ x) (h1 : x < (s.size : Int)) (hp : x % 2 = 1) (hb : ¬ hv (bt s x) < 0) : fin s acc half x = fin s (acc ++ [16 * half + hv (bt s x)]) (hv (bt s x)) (x + 1) := by
  unfold fin
  rw [drop_byte s x h0 h1, if_neg (by omega), if_pos (by omega)]
  simp [hb]
theorem fin_even (s : ByteArray) (acc : List Int) (half x : Int) (h0 : 0 ≤ x) (h1 : x < (s.size : Int)) (hev : (s.size : Int) % 2 = 0) (hp : x % 2 = 0) (hb : ¬ hv (bt s x) < 0) : fin s acc half x = fin s acc (hv (bt s x)) (x + 1) := by
  unfold fin
  rw [drop_byte s x h0 h1, if_pos hp, if_neg (by omega), drop_byte s (x + 1) (by omega) (by omega)]
  simp only [unhexL, hb, false_or]
  split
  · rfl
  · simp only [Option.map_map]; rfl
theorem fin_end (s : ByteArray) (acc : List Int) (half x : Int) (h0 : 0 ≤ x) (h1 : ¬ x < (s.size : Int)) (hev : x % 2 = 0) : fin s acc half x = some acc := by
  unfold fin
  rw [if_pos hev, List.drop_eq_nil_of_le (by rw [bytesOf_length]; omega)]
  simp [unhexL]
theorem ret2 {a b : ByteArray} {c d : Bool} (h : a = b) (h' : c = d) : Ending.returned (.tuple #[.string a, .bool c]) = .returned (.tuple #[.string b, .bool d]) := by rw [h, h']
set_option maxHeartbeats 8000000 in
set_option maxRecDepth 100000 in
theorem impl_long (a0 : ByteArray) (w : World) (c : (a0.size : Int) % 2 = 1 ∨ (a0.size : Int) > 40000) :
    Calls Try.prog 35 #[.string a0] w fun e w' => e = .returned (.tuple #[.string ⟨#[]⟩, .bool false]) ∧ Below w.heap.size w w' := by
  by_cases c1 : (a0.size : Int) % 2 = 1
  · have c1b : decide ((a0.size : Int) % 2 = 1) = true := decide_eq_true c1
    have c1c : ((a0.size : Int) % 2 == 1) = true := by simpa using c1
    go_enter Try.func35, Try.ntmps35
    go_wp2
    go_ret2
    exact ⟨rfl, Below.refl _ _⟩
  · have c2 : (a0.size : Int) > 40000 := by omega
    have c1c : ((a0.size : Int) % 2 == 1) = false := by simpa using c1
    have c2b0 : decide (40000 < (a0.size : Int)) = true := decide_eq_true c2
    have c2b1 : decide (40000 < a0.size) = true := decide_eq_true (by omega)
    go_enter Try.func35, Try.ntmps35
    go_wp2
    go_ret2
    exact ⟨rfl, Below.refl _ _⟩
set_option maxHeartbeats 8000000 in
set_option maxRecDepth 100000 in
theorem impl_unhex (a0 : ByteArray) (w : World) (hev : (a0.size : Int) % 2 = 0) (hs : ¬ (a0.size : Int) > 40000) :
    Calls Try.prog 35 #[.string a0] w fun e w' => e = .returned (.tuple #[.string (outS (unhexL (bytesOf a0))), .bool (unhexL (bytesOf a0)).isSome]) ∧ Below w.heap.size w w' := by
  obtain ⟨R, hR⟩ : ∃ R, unhexL (bytesOf a0) = R := ⟨_, rfl⟩
  rw [hR]
  have hfin0 : fin a0 [] 0 0 = R := by
    unfold fin; rw [if_pos (by decide)]; show (unhexL (bytesOf a0)).map _ = R; rw [hR]; cases R <;> simp
  have c1c : ((a0.size : Int) % 2 == 1) = false := by
    have : (a0.size : Int) % 2 ≠ 1 := by omega
    simpa using this
  have c2b0 : decide (40000 < (a0.size : Int)) = false := decide_eq_false hs
  have c2b1 : decide (40000 < a0.size) = false := decide_eq_false (by omega)
  have hs' := Aside0.mk hs
  have hev' := Aside0.mk hev
  have hF0 := Aside0.mk hfin0
  clear hs hev hR hfin0
  go_enter Try.func35, Try.ntmps35
  go_wp2
  go_loopg [4, 5, 6] (a0.size + 1) (fun kq v4 v5 v6 w' => ∃ (x half : Int) (acc : List Int), v6 = .int .i64 x ∧ v5 = .int .i64 half ∧ Aside0 ((0 ≤ x ∧ x ≤ a0.size) ∧ x + kq = a0.size + 1 ∧ 0 ≤ half ∧ half ≤ 15 ∧ (acc.length : Int) ≤ x) ∧ Aside0 (fin a0 acc half x = R) ∧ Aside0 (Kd.R (Kd.int .u8) 5 w' w.heap.size (fun _ => True) v4 acc) ∧ Aside0 (Below w.heap.size w w'))
  case atStart => exact ⟨0, 0, [], rfl, rfl, ⟨⟨by omega, by omega⟩, by omega, by omega, by omega, by simp⟩, hF0, ⟨by exact Kd.R_nil _ _ _ _ _⟩, ⟨Below.refl _ _⟩⟩
  case round =>
    try clear c1c
    try clear c2b0
    try clear c2b1
    clear hF0
    obtain ⟨x, half, acc, rfl, rfl, hI, hF, HO, HB⟩ := hrel
    obtain ⟨⟨hx0, hxs⟩, hxk, hh0, hh1, hacc⟩ := hI.out
    have hxs' := Aside0.mk hxs
    clear hxs
    clear hI
    by_cases hlt : x < (a0.size : Int)
    · have c3b0 : decide (x < (a0.size : Int)) = true := decide_eq_true hlt
      have hb := bt_range a0 x
      have hx5 := bt_at a0 x
      obtain ⟨b, hbb⟩ : ∃ b, bt a0 x = b := ⟨_, rfl⟩
      have hvr := hv_range b
      by_cases hn : hv b < 0
      · have hbad := fin_bad a0 acc half x hx0 hlt hev'.out (by rw [hbb]; exact hn)
        have hRn : R = none := by rw [← hF.out, hbad]
        have c4b0 : decide (hv b < 0) = true := decide_eq_true hn
        rw [hbb] at hx5 hb
        clear hbad hF
        subst hRn
        go_wp2_with (go_at_call 38; refine (idx_fig _ _ hb.1 hb.2).mono ?_; rintro e w' ⟨rfl, rfl⟩)
        go_ret2
        exact ⟨rfl, HB.out⟩
      · have c4b0 : decide (hv b < 0) = false := decide_eq_false hn
        by_cases hp : x % 2 = 1
        · have hstep := fin_odd a0 acc half x hx0 hlt hp (by rw [hbb]; exact hn)
          rw [hbb] at hstep
          have hF' := Aside0.mk (hstep.symm.trans hF.out)
          have c5b0 : (x % 2 == 1) = true := by simpa using hp
          rw [hbb] at hx5 hb
          have hacc' := Aside0.mk hacc
          have hxk' := Aside0.mk hxk
          have hn' := Aside0.mk hn
          have hlt' := Aside0.mk hlt
          have hx0' := Aside0.mk hx0
          have hvr' := Aside0.mk hvr
          clear hstep hF hacc hxk hbb
          go_wp2_with (first
            | (go_at_call 38; refine (idx_fig _ _ hb.1 hb.2).mono ?_; rintro e w' ⟨rfl, rfl⟩)
            | ((with_reducible refine gate_builtin (b := .append) (xs := #[.tmp 32, .tmp 38]) rfl ?_); at_builtin; refine Kd.R_append (Kd.int .u8) (w0 := w) w.heap.size rfl (.tmp 32) (.tmp 38) 41 5 (.int .u8 0) 1 rfl Try.underlying41 PUnhex.info5 rfl (by decide) (by omega) u4 acc (16 * half + hv b) [.int .u8 (16 * half + hv b)] (fun _ => True) (fun _ => False) rfl rfl ?aP (fun _ hk => hk.elim) ?aF ?aO ?aB ?aS ?aL ?_; (case aP => exact rfl); (case aB => exact HB.out); (case aF => exact (fun _ _ => trivial)); (case aO => exact HO.out); (case aS => exact (below_size HB.out)); (case aL => have := hacc'.out; have := hs'.out; omega); intro v105 w6 ho hbl hg hat; have n0_ := Aside0.mk (hbl); have n1_ := Aside0.mk (ho); clear HB HO; have HB := n0_; have HO := n1_; clear n0_ n1_ ho hbl hg hat))
          go_roundg (a0.size - x.toNat)
          case measure => have := hxk'.out; have := hx0'.out; omega
          case rel => exact ⟨x + 1, hv b, acc ++ [16 * half + hv b], (by rw [show wrap64 (x + 1) = x + 1 by unfold wrap64; have := hs'.out; have := hlt'.out; have := hx0'.out; omega]), rfl, ⟨⟨by have := hx0'.out; omega, by have := hlt'.out; omega⟩, by have := hxk'.out; have := hx0'.out; omega, by have := hn'.out; omega, by have := hvr'.out; omega, by have := hacc'.out; simp; omega⟩, hF', HO, HB⟩
        · have hp0 : x % 2 = 0 := by omega
          have hstep := fin_even a0 acc half x hx0 hlt hev'.out hp0 (by rw [hbb]; exact hn)
          rw [hbb] at hstep
          have hF' := Aside0.mk (hstep.symm.trans hF.out)
          have c5b0 : (x % 2 == 1) = false := by simpa using hp
          rw [hbb] at hx5 hb
          have hacc' := Aside0.mk hacc
          have hxk' := Aside0.mk hxk
          have hn' := Aside0.mk hn
          have hlt' := Aside0.mk hlt
          have hx0' := Aside0.mk hx0
          have hvr' := Aside0.mk hvr
          clear hstep hF hacc hxk hbb
          go_wp2_with (go_at_call 38; refine (idx_fig _ _ hb.1 hb.2).mono ?_; rintro e w' ⟨rfl, rfl⟩)
          go_roundg (a0.size - x.toNat)
          case measure => have := hxk'.out; have := hx0'.out; omega
          case rel => exact ⟨x + 1, hv b, acc, (by rw [show wrap64 (x + 1) = x + 1 by unfold wrap64; have := hs'.out; have := hlt'.out; have := hx0'.out; omega]), rfl, ⟨⟨by have := hx0'.out; omega, by have := hlt'.out; omega⟩, by have := hxk'.out; have := hx0'.out; omega, by have := hn'.out; omega, by have := hvr'.out; omega, by have := hacc'.out; omega⟩, hF', HO, HB⟩
    · have c3b0 : decide (x < (a0.size : Int)) = false := decide_eq_false hlt
      have hend := fin_end a0 acc half x hx0 hlt (by have := hev'.out; have := hxs'.out; omega)
      have hRs : R = some acc := by rw [← hF.out, hend]
      have hcv := own_string (P := Try.prog) Try.underlying41 Try.underlying5 Try.underlying9 (Kd.own_of_R HO.out)
      clear hend hF
      subst hRs
      go_wp2
      go_ret2
      exact ⟨rfl, by repeat (first | (with_reducible first | exact HB.out | apply below_alloc | apply pw_below_drewN | apply below_drew1) | exact HB.out)⟩
open Go.Proofs.Ytmbdcobggkhijaa.PUnhex
theorem value_at (c : Int) (k : Nat) (h0 : 0 ≤ c) (h1 : c ≤ 255) (hk : 1 ≤ k) : spec_l01Value.f k c = some (hv c) := by
  obtain ⟨k, rfl⟩ : ∃ m, k = m + 1 := ⟨k - 1, by omega⟩
  have w1 : wrap64 c = c := by unfold wrap64; omega
  have w2 : wrap64 (c - 48) = c - 48 := by unfold wrap64; omega
  have w3 : wrap64 (c - 97) = c - 97 := by unfold wrap64; omega
  have w4 : wrap64 (c - 97 + 10) = c - 97 + 10 := by unfold wrap64; omega
  unfold spec_l01Value.f hv
  simp only [spec_l01Value.j0, w1, w2, w3, w4]
  by_cases c1 : c ≥ 48
  · by_cases c2 : c ≤ 57
    · simp [c1, c2]
    · by_cases c3 : c ≥ 97
      · by_cases c4 : c ≤ 102
        · have : ¬ (48 ≤ c ∧ c ≤ 57) := by omega
          simp [c1, c2, c3, c4]; omega
        · simp [c1, c2, c3, c4]
      · simp [c1, c2, c3]
  · have c3 : ¬ c ≥ 97 := by omega
    simp [c1, c3]
def outP : Option (List Int) → Option (ByteArray × Bool)
  | none => some (⟨#[]⟩, false)
  | some l => some (strOfNums l, true)
theorem spec_rounds (s : ByteArray) (hs : s.size ≤ 40000) (hev : (s.size : Int) % 2 = 0) (d : Nat) : ∀ (k : Nat) (x : Int) (l : List Int), 0 ≤ x → x + 2 * d = s.size → d + 1 < k → l.length + d < 100000 →
    spec_Unhex.l0 k s l x = outP ((unhexL ((bytesOf s).drop x.toNat)).map fun r => l ++ r) := by
  induction d with
  | zero =>
    intro k x l h0 hx hk hl
    obtain ⟨k, rfl⟩ : ∃ m, k = m + 1 := ⟨k - 1, by omega⟩
    simp only [spec_Unhex.l0]
    rw [if_neg (by omega), List.drop_eq_nil_of_le (by rw [bytesOf_length]; omega)]
    simp [unhexL, outP]
  | succ d ih =>
    intro k x l h0 hx hk hl
    obtain ⟨k, rfl⟩ : ∃ m, k = m + 1 := ⟨k - 1, by omega⟩
    have hb := bt_range s x
    have hb1 := bt_range s (x + 1)
    have hr := hv_range (bt s x)
    have hr1 := hv_range (bt s (x + 1))
    have w1 : wrap64 (x + 1) = x + 1 := by unfold wrap64; omega
    have w2 : wrap64 (x + 2) = x + 2 := by unfold wrap64; omega
    have w3 : wrap64 (16 * hv (bt s x)) = 16 * hv (bt s x) := by unfold wrap64; omega
    have w4 : wrap64 (16 * hv (bt s x) + hv (bt s (x + 1))) = 16 * hv (bt s x) + hv (bt s (x + 1)) := by unfold wrap64; omega
    simp only [spec_Unhex.l0, w1]
    rw [if_pos (by omega), if_pos h0, value_at _ _ hb.1 hb.2 (by omega)]
    simp only [Option.bind_some]
    rw [if_pos (by omega), if_pos (by omega), value_at _ _ hb1.1 hb1.2 (by omega)]
    simp only [Option.bind_some]
    rw [drop_byte s x h0 (by omega), drop_byte s (x + 1) (by omega) (by omega)]
    simp only [unhexL]
    by_cases c1 : hv (bt s x) < 0
    · rw [if_pos c1, if_pos (Or.inl c1)]; rfl
    · by_cases c2 : hv (bt s (x + 1)) < 0
      · rw [if_neg c1, if_pos c2, if_pos (Or.inr c2)]; rfl
      · rw [if_neg c1, if_neg c2, if_pos (show l.length < 140737488355328 by omega), w3, w4, w2, if_neg (show ¬ (hv (bt s x) < 0 ∨ hv (bt s (x + 1)) < 0) by omega)]
        rw [ih k (x + 2) _ (by omega) (by omega) (by omega) (by simp; omega)]
        have hm : (16 * hv (bt s x) + hv (bt s (x + 1))) % 256 = 16 * hv (bt s x) + hv (bt s (x + 1)) := by omega
        rw [hm, show (x + 1 + 1).toNat = (x + 2).toNat by omega]
        simp only [Option.map_map]
        congr 2
        funext r
        simp
theorem spec_unhex (a0 : ByteArray) (w : World) (hev : (a0.size : Int) % 2 = 0) (hs : ¬ (a0.size : Int) > 40000) :
    Calls Try.prog 34 #[.string a0] w fun e w' => e = .returned (.tuple #[.string (outS (unhexL (bytesOf a0))), .bool (unhexL (bytesOf a0)).isSome]) ∧ Below w.heap.size w w' := by
  refine spec_Unhex.calls (a0.size + 4) a0 _ _ w ?_
  unfold spec_Unhex.f
  have hne : (((a0.size : Int) % 2) != 0) = false := by simp [hev]
  rw [if_neg hs, hne]
  simp only [spec_Unhex.j0]
  rw [if_neg (by simp), spec_rounds a0 (by omega) hev (a0.size / 2) _ 0 [] (by omega) (by omega) (by omega) (by simp; omega)]
  simp only [Int.toNat_zero, List.drop_zero, List.nil_append]
  cases unhexL (bytesOf a0) <;> rfl
theorem spec_long (a0 : ByteArray) (w : World) (c : (a0.size : Int) % 2 = 1 ∨ (a0.size : Int) > 40000) :
    Calls Try.prog 34 #[.string a0] w fun e w' => e = .returned (.tuple #[.string ⟨#[]⟩, .bool false]) ∧ Below w.heap.size w w' := by
  refine spec_Unhex.calls 1 a0 _ _ w ?_
  unfold spec_Unhex.f
  simp only [spec_Unhex.j0]
  by_cases h : (a0.size : Int) > 40000
  · rw [if_pos h]; simp
  · have hne : (((a0.size : Int) % 2) != 0) = true := by
      have : (a0.size : Int) % 2 = 1 := by omega
      simp [this]
    rw [if_neg h, hne]; simp
set_option maxHeartbeats 1000000 in
theorem law_walk (a0 : ByteArray) (w : World) (h0 : a0.size ≤ 140737488351232) :
    Calls Try.prog 13 #[.string a0] w fun e w' => e = .returned (.bool true) ∧ Below w.heap.size w w' := by
  by_cases c1 : (a0.size : Int) > 1048576
  · have c1b0 : decide (1048576 < (a0.size : Int)) = true := decide_eq_true c1
    have c1b1 : decide (1048576 < a0.size) = true := decide_eq_true (by omega)
    go_enter Try.func13, Try.ntmps13
    go_wp2
    go_ret
    exact ⟨rfl, Below.refl _ _⟩
  have c1b0 : decide (1048576 < (a0.size : Int)) = false := decide_eq_false c1
  have c1b1 : decide (1048576 < a0.size) = false := decide_eq_false (by omega)
  by_cases c2 : (a0.size : Int) % 2 = 1 ∨ (a0.size : Int) > 40000
  · go_enter Try.func13, Try.ntmps13
    go_wp2_with (first
      | (go_at_call 34; refine (spec_long _ _ c2).mono ?_; rintro e w1 ⟨rfl, hb1⟩)
      | (go_at_call 35; refine (impl_long _ _ c2).mono ?_; rintro e w2 ⟨rfl, hb2⟩))
    go_ret
    exact ⟨rfl, below_then hb1 hb1.size hb2⟩
  · have hev : (a0.size : Int) % 2 = 0 := by omega
    have hs : ¬ (a0.size : Int) > 40000 := by omega
    have hi := fun w => impl_unhex a0 w hev hs
    have hsp := fun w => spec_unhex a0 w hev hs
    obtain ⟨R, hR⟩ : ∃ R, outS (unhexL (bytesOf a0)) = R := ⟨_, rfl⟩
    obtain ⟨B, hB⟩ : ∃ B, (unhexL (bytesOf a0)).isSome = B := ⟨_, rfl⟩
    rw [hR, hB] at hi hsp
    clear hR hB
    go_enter Try.func13, Try.ntmps13
    go_wp2_with (first
      | (go_at_call 34; refine (hsp _).mono ?_; rintro e w1 ⟨rfl, hb1⟩)
      | (go_at_call 35; refine (hi _).mono ?_; rintro e w2 ⟨rfl, hb2⟩))
    go_ret
    exact ⟨rfl, below_then hb1 hb1.size hb2⟩
end Go.Proofs.Ytmbdcobggkhijaa.Unhex
