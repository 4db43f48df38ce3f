/- Numbers come back from their texts, for every draw. No condition. -/
import Derived.Test.YtbkibnjpolnajaaDoorKNux3
import Derived.Test.YtbkibnjpolnajaaDoorKNux2
import Derived.Test.YtbkibnjpolnajaaDoorKNux1
import Derived.Test.YtbkibnjpolnajaaDoorShelfA
import Derived.Lib.ItoaNum
import Derived.Lib.AtoiAll
import Derived.Lib.AtoiAllCases
import Derived.Lib.AppendIntMem
import Derived.Lib.AtoiErrMem
import Derived.OpenShut
import Derived.Below
import Derived.WalkKit
import Derived.LoopTactic
import Derived.KernelRfl
import Derived.Lib.Strings
import Derived.Lib.Slices
import Derived.Lib.Walk
import Derived.Lib.Bytealg
set_option linter.unusedVariables false
set_option linter.unusedSimpArgs false
namespace Go.Proofs.YtbkibnjpolnajaaDoor.KNu
open Go.RowKit Go.Proofs.YtbkibnjpolnajaaDoorW.PrintWords Go.Proofs.YtbkibnjpolnajaaDoorW.PrintLast Go.Proofs.YtbkibnjpolnajaaDoorW.PrintMore
/-! #### strconv.Itoa by the shelf's contract -/
@[reducible] def i_it : fk_strconv_Itoa := ⟨fun _ n => if -9223372036854775808 ≤ n ∧ n ≤ 9223372036854775807 then some ⟨(Lib.itoa n).toArray⟩ else none, fun _ _ => LeO.refl _, fun k n r w hT h => by
  by_cases hn : -9223372036854775808 ≤ n ∧ n ≤ 9223372036854775807
  · rw [if_pos hn] at h
    cases h
    refine (Tryd.strconv_Itoa n hn.1 hn.2 w hT.1.here).mono ?_
    rintro e w' ⟨rfl, k, os, rfl⟩
    refine ⟨rfl, ?_⟩
    exact Lib.below_grow w.heap.size w (Nat.le_refl _) k os
  · rw [if_neg hn] at h
    cases h⟩
theorem Ev.pos {α : Type} {c : Prop} [Decidable c] {g f : Nat → Option α} {r : α} (h : c) (k : Ev g r) : Ev (fun n => if c then g n else f n) r := Ev.congr (fun _ => if_pos h) k
theorem Ev.neg {α : Type} {c : Prop} [Decidable c] {g f : Nat → Option α} {r : α} (h : ¬c) (k : Ev f r) : Ev (fun n => if c then g n else f n) r := Ev.congr (fun _ => if_neg h) k
def dg0 (u : Nat) : List UInt8 := if u = 0 then [] else Lib.decDigits u
theorem impl_dec (k : Nat) (n : Int) (h0 : -9223372036854775808 ≤ n) (h1 : n ≤ 9223372036854775807) : @impl_Decimal.f i_it k n = some (⟨(Lib.itoa n).toArray⟩ : ByteArray) := by
  unfold impl_Decimal.f
  show ((if -9223372036854775808 ≤ n ∧ n ≤ 9223372036854775807 then some (⟨(Lib.itoa n).toArray⟩ : ByteArray) else none) : Option ByteArray).bind _ = _
  rw [if_pos ⟨h0, h1⟩]; rfl
@[reducible] def d_rd : fk_impl_ReadDecimal := ⟨fun _ _ => none, fun _ _ => LeO.none _, by intros; contradiction⟩
@[reducible] def d_hex : fk_impl_Hex := ⟨fun _ _ => none, fun _ _ => LeO.none _, by intros; contradiction⟩
@[reducible] def d_unhex : fk_impl_Unhex := ⟨fun _ _ => none, fun _ _ => LeO.none _, by intros; contradiction⟩
/-! #### impl.ReadDecimal -/
def rdV (a : ByteArray) : Int × Bool := match Lib.atoiAll a.data.toList with
  | .ok v => if (Lib.itoa v = a.data.toList ∧ 0 ≤ v) ∧ v ≤ 1000000000 then (v, true) else (0, false)
  | _ => (0, false)
def rdF (_ : Nat) (a : ByteArray) : Option (Int × Bool) := if a.size ≤ 1048576 then some (rdV a) else none
section
set_option maxHeartbeats 8000000 in
set_option maxRecDepth 100000 in
theorem rd_calls (k : Nat) (a : ByteArray) (r1 : Int) (r2 : Bool) (w : World) (hT : TB w) (h : rdF k a = some (r1, r2)) :
    Calls Tryd.prog 15 #[.string a] w fun e w' => e = .returned (.tuple #[.int .i64 r1, .bool r2]) ∧ Below w.heap.size w w' := by
  unfold rdF at h
  by_cases hsz : a.size ≤ 1048576
  · rw [if_pos hsz] at h
    have h := Option.some.inj h
    unfold rdV at h
    have HT := Aside0.mk hT
    have HB := Aside0.mk (Below.refl w.heap.size w)
    clear hT
    cases hv : Lib.atoiAll a.data.toList with
    | ok v =>
      rw [hv] at h
      change (if (Lib.itoa v = a.data.toList ∧ 0 ≤ v) ∧ v ≤ 1000000000 then (v, true) else ((0 : Int), false)) = (r1, r2) at h
      have hbd := Lib.atoiAll_bounds hv
      obtain ⟨t, ht⟩ : ∃ t : ByteArray, t = ⟨(Lib.itoa v).toArray⟩ := ⟨_, rfl⟩
      have hd : @impl_Decimal.f i_it k v = some t := by rw [ht]; exact impl_dec k v hbd.1 hbd.2
      have htl : t.toList = Lib.itoa v := by rw [ht, ByteArray.toList_eq]
      have hal : a.toList = a.data.toList := ByteArray.toList_eq _
      have HV := Aside0.mk hv
      have HD := Aside0.mk hd
      have HM := Aside0.mk (show a.size ≤ 9223372036854775806 by omega)
      clear hv hd hsz hbd ht
      have h := Aside0.mk h
      by_cases q : t.toList = a.toList
      · have q1 : (t.toList == a.toList) = true := by rw [q]; simp
        have q2 : (t.toList != a.toList) = false := by rw [q]; simp
        by_cases p : 0 ≤ v
        · by_cases p2 : v ≤ 1000000000
          · have hw : impl_within.f v 0 1000000000 = some true := by unfold impl_within.f; rw [if_pos p, decide_eq_true p2]
            have hh := h.out
            rw [if_pos ⟨⟨by rw [← htl, ← hal, q], p⟩, p2⟩] at hh
            obtain ⟨rfl, rfl⟩ := Prod.mk.inj hh
            have HW := Aside0.mk hw
            clear hw hh htl hal q
            go_enter Tryd.func15, Tryd.ntmps15
            go_wp2_with (first
              | (go_at_call 30; refine (Tryd.strconv_Atoi_ok a HM.out v HV.out _).mono ?_; rintro e w2 ⟨rfl, hw2⟩; have hb : Below w.heap.size w w2 := (by rcases hw2 with rfl | ⟨t, rfl⟩; exact Below.refl _ _; exact Lib.bytesWorld_below _ _ _); have q_ := Aside0.mk (below_step HB.out hb); clear HB; have HB := q_; clear q_ hb hw2)
              | (go_at_call 8; refine (@impl_Decimal.calls i_it d_rd d_hex d_unhex k v t _ (tab_at HT.out HB.out) HD.out).mono ?_; rintro e w3 ⟨rfl, hb⟩; have q_ := Aside0.mk (below_step HB.out hb); clear HB; have HB := q_; clear q_ hb)
              | (go_at_call 27; refine (@impl_within.calls i_it d_rd d_hex d_unhex v 0 1000000000 true _ HW.out).mono ?_; rintro e w4 ⟨rfl, hd⟩; have hb := hd.below; have q_ := Aside0.mk (below_step HB.out hb); clear HB; have HB := q_; clear q_ hb hd))
            go_ret2
            exact ⟨rfl, HB.out⟩
          · have hw : impl_within.f v 0 1000000000 = some false := by unfold impl_within.f; rw [if_pos p, decide_eq_false p2]
            have hh := h.out
            rw [if_neg (fun z => p2 z.2)] at hh
            obtain ⟨rfl, rfl⟩ := Prod.mk.inj hh
            have HW := Aside0.mk hw
            clear hw hh htl hal q
            go_enter Tryd.func15, Tryd.ntmps15
            go_wp2_with (first
              | (go_at_call 30; refine (Tryd.strconv_Atoi_ok a HM.out v HV.out _).mono ?_; rintro e w2 ⟨rfl, hw2⟩; have hb : Below w.heap.size w w2 := (by rcases hw2 with rfl | ⟨t, rfl⟩; exact Below.refl _ _; exact Lib.bytesWorld_below _ _ _); have q_ := Aside0.mk (below_step HB.out hb); clear HB; have HB := q_; clear q_ hb hw2)
              | (go_at_call 8; refine (@impl_Decimal.calls i_it d_rd d_hex d_unhex k v t _ (tab_at HT.out HB.out) HD.out).mono ?_; rintro e w3 ⟨rfl, hb⟩; have q_ := Aside0.mk (below_step HB.out hb); clear HB; have HB := q_; clear q_ hb)
              | (go_at_call 27; refine (@impl_within.calls i_it d_rd d_hex d_unhex v 0 1000000000 false _ HW.out).mono ?_; rintro e w4 ⟨rfl, hd⟩; have hb := hd.below; have q_ := Aside0.mk (below_step HB.out hb); clear HB; have HB := q_; clear q_ hb hd))
            go_ret2
            exact ⟨rfl, HB.out⟩
        · have hw : impl_within.f v 0 1000000000 = some false := by unfold impl_within.f; rw [if_neg p]
          have hh := h.out
          rw [if_neg (fun z => p z.1.2)] at hh
          obtain ⟨rfl, rfl⟩ := Prod.mk.inj hh
          have HW := Aside0.mk hw
          clear hw hh htl hal q
          go_enter Tryd.func15, Tryd.ntmps15
          go_wp2_with (first
            | (go_at_call 30; refine (Tryd.strconv_Atoi_ok a HM.out v HV.out _).mono ?_; rintro e w2 ⟨rfl, hw2⟩; have hb : Below w.heap.size w w2 := (by rcases hw2 with rfl | ⟨t, rfl⟩; exact Below.refl _ _; exact Lib.bytesWorld_below _ _ _); have q_ := Aside0.mk (below_step HB.out hb); clear HB; have HB := q_; clear q_ hb hw2)
            | (go_at_call 8; refine (@impl_Decimal.calls i_it d_rd d_hex d_unhex k v t _ (tab_at HT.out HB.out) HD.out).mono ?_; rintro e w3 ⟨rfl, hb⟩; have q_ := Aside0.mk (below_step HB.out hb); clear HB; have HB := q_; clear q_ hb)
            | (go_at_call 27; refine (@impl_within.calls i_it d_rd d_hex d_unhex v 0 1000000000 false _ HW.out).mono ?_; rintro e w4 ⟨rfl, hd⟩; have hb := hd.below; have q_ := Aside0.mk (below_step HB.out hb); clear HB; have HB := q_; clear q_ hb hd))
          go_ret2
          exact ⟨rfl, HB.out⟩
      · have q1 : (t.toList == a.toList) = false := beq_eq_false_iff_ne.2 q
        have q2 : (t.toList != a.toList) = true := bne_iff_ne.2 q
        have hh := h.out
        rw [if_neg (fun z => q (by rw [htl, hal]; exact z.1.1))] at hh
        obtain ⟨rfl, rfl⟩ := Prod.mk.inj hh
        clear hh htl hal q
        go_enter Tryd.func15, Tryd.ntmps15
        go_wp2_with (first
          | (go_at_call 30; refine (Tryd.strconv_Atoi_ok a HM.out v HV.out _).mono ?_; rintro e w2 ⟨rfl, hw2⟩; have hb : Below w.heap.size w w2 := (by rcases hw2 with rfl | ⟨t, rfl⟩; exact Below.refl _ _; exact Lib.bytesWorld_below _ _ _); have q_ := Aside0.mk (below_step HB.out hb); clear HB; have HB := q_; clear q_ hb hw2)
          | (go_at_call 8; refine (@impl_Decimal.calls i_it d_rd d_hex d_unhex k v t _ (tab_at HT.out HB.out) HD.out).mono ?_; rintro e w3 ⟨rfl, hb⟩; have q_ := Aside0.mk (below_step HB.out hb); clear HB; have HB := q_; clear q_ hb))
        go_ret2
        exact ⟨rfl, HB.out⟩
    | «syntax» =>
      rw [hv] at h
      obtain ⟨rfl, rfl⟩ := Prod.mk.inj h
      obtain ⟨tp, p, hvar⟩ := HT.out.2.1
      have HV := Aside0.mk hv
      have HM := Aside0.mk (show a.size ≤ 281474976710656 by omega)
      have HVR := Aside0.mk (hvar w (Below.refl _ _))
      clear hv hsz hvar
      go_enter Tryd.func15, Tryd.ntmps15
      go_wp2_with (go_at_call 30; refine (Tryd.strconv_Atoi_syntax_var a HM.out HV.out tp p w HVR.out).mono ?_; rintro e w2 ⟨N, rfl, _, _, hb⟩)
      go_ret2
      exact ⟨rfl, hb⟩
    | range =>
      rw [hv] at h
      obtain ⟨rfl, rfl⟩ := Prod.mk.inj h
      obtain ⟨tp, p, hvar⟩ := HT.out.2.2
      have HV := Aside0.mk hv
      have HM := Aside0.mk (show a.size ≤ 281474976710656 by omega)
      have HVR := Aside0.mk (hvar w (Below.refl _ _))
      clear hv hsz hvar
      go_enter Tryd.func15, Tryd.ntmps15
      go_wp2_with (go_at_call 30; refine (Tryd.strconv_Atoi_range_var a HM.out HV.out tp p w HVR.out).mono ?_; rintro e w2 ⟨N, rfl, _, _, hb⟩)
      go_ret2
      exact ⟨rfl, hb⟩
  · rw [if_neg hsz] at h
    cases h
end
@[reducible] def i_rd : fk_impl_ReadDecimal := ⟨rdF, fun _ _ => LeO.refl _, rd_calls⟩
/-! #### what a text of figures tells -/
def isFig (c : UInt8) : Prop := 48 ≤ c.toNat ∧ c.toNat ≤ 57
instance (c : UInt8) : Decidable (isFig c) := inferInstanceAs (Decidable (_ ∧ _))
def sp : Nat → List UInt8 → Option Nat
  | acc, [] => some acc
  | acc, c :: r => if isFig c then sp (10 * acc + (c.toNat - 48)) r else none
theorem sp_append : ∀ (l m : List UInt8) (acc : Nat), sp acc (l ++ m) = (sp acc l).bind fun v => sp v m
  | [], m, acc => rfl
  | c :: r, m, acc => by
    rw [List.cons_append, sp, sp]
    by_cases h : isFig c
    · rw [if_pos h, if_pos h, sp_append r m]
    · rw [if_neg h, if_neg h]; rfl
theorem pa_append : ∀ (l m : List UInt8) (acc : Nat), Lib.parseUint10 acc (l ++ m) = match Lib.parseUint10 acc l with | .ok v => Lib.parseUint10 v m | .«syntax» => .«syntax» | .range => .range
  | [], m, acc => rfl
  | c :: r, m, acc => by
    rw [List.cons_append]
    simp only [Lib.parseUint10]
    split
    · split
      · rfl
      · split
        · rfl
        · exact pa_append r m _
    · rfl
theorem fig_of (d : Nat) (h : d < 10) : isFig (UInt8.ofNat (48 + d)) ∧ (UInt8.ofNat (48 + d)).toNat = 48 + d := by
  have e : (UInt8.ofNat (48 + d)).toNat = 48 + d := by rw [UInt8.toNat_ofNat']; omega
  unfold isFig
  rw [e]
  exact ⟨⟨by omega, by omega⟩, rfl⟩
theorem dec_facts (u : Nat) : u ≤ 9999999999 → sp 0 (Lib.decDigits u) = some u ∧ Lib.parseUint10 0 (Lib.decDigits u) = .ok u ∧ (∀ c ∈ Lib.decDigits u, isFig c) ∧ Lib.decDigits u ≠ [] ∧ (∀ k, u < 10 ^ (k + 1) → (Lib.decDigits u).length ≤ k + 1) := by
  induction u using Nat.strongRecOn with
  | _ u ih =>
    intro hu
    by_cases h : u < 10
    · rw [Lib.decDigits, dif_pos h]
      obtain ⟨f1, f2⟩ := fig_of u h
      refine ⟨?_, ?_, ?_, by simp, fun k _ => by simp⟩
      · rw [sp, if_pos f1, f2, sp]; congr 1; omega
      · have f3 : 48 ≤ (UInt8.ofNat (48 + u)).toNat ∧ (UInt8.ofNat (48 + u)).toNat ≤ 57 := f1
        simp only [Lib.parseUint10]
        rw [if_pos f3, if_neg (by omega), f2, if_neg (by omega)]
        congr 1; omega
      · intro c hc
        rw [List.mem_singleton.1 hc]
        exact f1
    · rw [Lib.decDigits, dif_neg h]
      obtain ⟨i1, i2, i3, i4, i5⟩ := ih (u / 10) (by omega) (by omega)
      obtain ⟨f1, f2⟩ := fig_of (u % 10) (by omega)
      refine ⟨?_, ?_, ?_, by simp, ?_⟩
      · rw [sp_append, i1, Option.bind_some, sp, if_pos f1, f2, sp]; congr 1; omega
      · have f3 : 48 ≤ (UInt8.ofNat (48 + u % 10)).toNat ∧ (UInt8.ofNat (48 + u % 10)).toNat ≤ 57 := f1
        rw [pa_append, i2]
        simp only [Lib.parseUint10]
        rw [if_pos f3, if_neg (by omega), f2, if_neg (by omega)]
        congr 1; omega
      · intro c hc
        rcases List.mem_append.1 hc with hc | hc
        · exact i3 c hc
        · rw [List.mem_singleton.1 hc]; exact f1
      · intro k hk
        rw [List.length_append, List.length_singleton]
        cases k with
        | zero => simp at hk; omega
        | succ k =>
          have := i5 k (by rw [Nat.pow_succ] at hk; omega)
          omega
theorem atoi_dec (u : Nat) (hu : u ≤ 1000000000) : Lib.atoiAll (Lib.decDigits u) = .ok (u : Int) := by
  obtain ⟨_, h2, h3, h4, _⟩ := dec_facts u (by omega)
  cases hl : Lib.decDigits u with
  | nil => exact absurd hl h4
  | cons c r =>
    have hc := h3 c (by rw [hl]; simp)
    unfold isFig at hc
    rw [hl] at h2
    simp only [Lib.atoiAll]
    rw [if_neg (by omega)]
    unfold Lib.parseMag
    rw [if_neg (by simp), h2]
    show (if ¬ c.toNat = 45 ∧ 9223372036854775808 ≤ u then Lib.NumEnd.range else if c.toNat = 45 ∧ 9223372036854775808 < u then Lib.NumEnd.range else Lib.NumEnd.ok (if c.toNat = 45 then -(u : Int) else u)) = _
    rw [if_neg (by omega), if_neg (by omega), if_neg (by omega)]
theorem itoa_nat (u : Nat) : Lib.itoa (u : Int) = Lib.decDigits u := by unfold Lib.itoa; rw [if_neg (by omega)]; simp
def spV (l : List UInt8) : Int × Bool := if l.length > 10 then (0, false) else match sp 0 l with
  | none => (0, false)
  | some n => if n > 1000000000 then (0, false) else if Lib.itoa (n : Int) = l then ((n : Int), true) else (0, false)
theorem spV_rdV (a : ByteArray) : spV a.data.toList = rdV a := by
  unfold spV rdV
  generalize a.data.toList = l
  by_cases hc : ∃ u : Nat, u ≤ 1000000000 ∧ l = Lib.decDigits u
  · obtain ⟨u, hu, rfl⟩ := hc
    obtain ⟨h1, _, _, _, h5⟩ := dec_facts u (by omega)
    have := h5 9 (by omega)
    rw [if_neg (by omega), h1, atoi_dec u hu]
    show (if u > 1000000000 then ((0 : Int), false) else if Lib.itoa (u : Int) = Lib.decDigits u then ((u : Int), true) else (0, false)) = if (Lib.itoa (u : Int) = Lib.decDigits u ∧ 0 ≤ (u : Int)) ∧ (u : Int) ≤ 1000000000 then ((u : Int), true) else (0, false)
    rw [if_neg (by omega), if_pos (itoa_nat u), if_pos ⟨⟨itoa_nat u, by omega⟩, by omega⟩]
  · have e2 : (match Lib.atoiAll l with | .ok v => if (Lib.itoa v = l ∧ 0 ≤ v) ∧ v ≤ 1000000000 then (v, true) else ((0 : Int), false) | _ => (0, false)) = (0, false) := by
      cases Lib.atoiAll l with
      | ok v =>
        refine if_neg (fun z => hc ⟨v.toNat, by omega, ?_⟩)
        rw [← itoa_nat, Int.toNat_of_nonneg z.1.2]
        exact z.1.1.symm
      | «syntax» => rfl
      | range => rfl
    rw [e2]
    split
    · rfl
    · cases sp 0 l with
      | none => rfl
      | some n =>
        show (if n > 1000000000 then ((0 : Int), false) else if Lib.itoa (n : Int) = l then ((n : Int), true) else (0, false)) = _
        split
        · rfl
        · rename_i hn
          refine if_neg (fun z => hc ⟨n, by omega, ?_⟩)
          rw [← itoa_nat]; exact z.symm
/-! #### strings.IndexByte -/
set_option maxHeartbeats 1000000 in
set_option maxRecDepth 100000 in
theorem lite_index (s : ByteArray) (c : Int) (w : World) :
    Calls Tryd.prog 45 #[.string s, .int .u8 c] w fun e w' => e = .returned (.int .i64 (Lib.indexByte s.data.toList c.toNat.toUInt8)) ∧ w' = w := by
  go_enter Tryd.func45, Tryd.ntmps45
  go_wp2
  rw [run_callFunc_extern Tryd.func53 (by kernel_rfl) (by kernel_rfl) (by kernel_rfl) (e := Extern.BytealgIndexByte.indexByte) (by kernel_rfl), Lib.run_indexByteString]
  simp only [Result.andThen]
  rw [Oper.upon_value]
  go_wp2
  go_ret
  exact ⟨rfl, rfl⟩
set_option maxHeartbeats 1000000 in
theorem index_byte (s : ByteArray) (c : Int) (w : World) :
    Calls Tryd.prog 37 #[.string s, .int .u8 c] w fun e w' => e = .returned (.int .i64 (Lib.indexByte s.data.toList c.toNat.toUInt8)) ∧ w' = w := by
  go_enter Tryd.func37, Tryd.ntmps37
  go_wp2_with (go_at_call 45; refine (lite_index _ _ _).mono ?_; rintro e w' ⟨rfl, rfl⟩)
  go_ret
  exact ⟨rfl, rfl⟩
/-! #### impl.Hex -/
def figs : ByteArray := ⟨#[48, 49, 50, 51, 52, 53, 54, 55, 56, 57, 97, 98, 99, 100, 101, 102]⟩
def hexL (l : List Int) : List Int := l.flatMap fun b => [bt figs (b / 16), bt figs (b % 16)]
def T7 : Bool × List (List Nat × List Nat) := (true, [([], []), ([], []), ([], []), ([1, 2], [1, 2]), ([3], [3]), ([4], [4]), ([], []), ([], []), ([6, 7], [6, 7]), ([8], [8]), ([9], [9]), ([5, 10], [5, 10]), ([0, 11], [0, 11]), ([12, 12, 0, 1, 2, 3, 4, 5, 6, 7, 8, 9, 10, 11, 12], [0, 12])])
def B7 : List Nat := [0, 0, 0, 6, 14, 30, 0, 0, 192, 448, 960, 2046, 4095, 8191]
theorem tab7 : rtab .any (opsOf Tryd.f23 7) = T7 := by kernel_rfl
theorem bits7 : waitsOk T7.2 B7 = true := by kernel_rfl
theorem hexL_snoc (l : List Int) (b : Int) : hexL (l ++ [b]) = hexL l ++ [bt figs (b / 16), bt figs (b % 16)] := by simp [hexL]
theorem hexL_length (l : List Int) : (hexL l).length = 2 * l.length := by
  induction l with
  | nil => rfl
  | cons b l ih => simp only [hexL, List.flatMap_cons, List.length_append] at *; simp at *; omega
theorem take_next (s : ByteArray) (x : Int) (h0 : 0 ≤ x) (h1 : x < (s.size : Int)) : (bytesOf s).take (x + 1).toNat = (bytesOf s).take x.toNat ++ [bt s x] := by
  have hl : x.toNat < (bytesOf s).length := by rw [bytesOf_length]; omega
  rw [show (x + 1).toNat = x.toNat + 1 by omega, List.take_succ_eq_append_getElem hl]
  congr 1
  have := rd_bytesOf s x
  unfold rd at this
  rw [← this]
  simp [List.getD, hl]
set_option maxHeartbeats 8000000 in
set_option maxRecDepth 100000 in
theorem hex_long (a0 : ByteArray) (w : World) (c : (a0.size : Int) > 20000) :
    Calls Tryd.prog 23 #[.string a0] w fun e w' => e = .returned (.tuple #[.string ⟨#[]⟩, .bool false]) ∧ Below w.heap.size w w' := by
  have c2b0 : decide (20000 < (a0.size : Int)) = true := decide_eq_true c
  have c2b1 : decide (20000 < a0.size) = true := decide_eq_true (by omega)
  go_enter Tryd.func23, Tryd.ntmps23
  go_wp2
  go_ret2
  exact ⟨rfl, Below.refl _ _⟩
set_option maxHeartbeats 8000000 in
set_option maxRecDepth 100000 in
theorem impl_hex (a0 : ByteArray) (w : World) (hs : ¬ (a0.size : Int) > 20000) :
    Calls Tryd.prog 23 #[.string a0] w fun e w' => e = .returned (.tuple #[.string (strOfNums (hexL (bytesOf a0))), .bool true]) ∧ Below w.heap.size w w' := by
  have c2b0 : decide (20000 < (a0.size : Int)) = false := decide_eq_false hs
  have c2b1 : decide (20000 < a0.size) = false := decide_eq_false (by omega)
  have hs' := Aside0.mk hs
  clear hs
  go_enter Tryd.func23, Tryd.ntmps23
  go_wp2
  go_loopg [4, 5] (a0.size + 1) (fun kq v4 v5 w' => ∃ x : Int, v5 = .int .i64 x ∧ Aside0 (0 ≤ x) ∧ Aside0 (x + kq = a0.size + 1) ∧ Aside0 (Kd.R (Kd.int .u8) 5 w' w.heap.size (fun _ => True) v4 (hexL ((bytesOf a0).take x.toNat))) ∧ Aside0 (Below w.heap.size w w'))
  case atStart => exact ⟨0, rfl, ⟨by omega⟩, ⟨by omega⟩, ⟨by exact Kd.R_nil _ _ _ _ _⟩, ⟨by repeat (first | (with_reducible first | exact Below.refl _ _ | apply below_alloc | apply pw_below_drewN | apply below_drew1) | exact Below.refl _ _)⟩⟩
  case round =>
    try clear c2b0
    try clear c2b1
    obtain ⟨x, rfl, hx0, hxk, HO, HB⟩ := hrel
    by_cases hlt : x < (a0.size : Int)
    · have c3b0 : decide (x < (a0.size : Int)) = true := decide_eq_true hlt
      have hb := bt_range a0 x
      have nx := take_next a0 x hx0.out hlt
      have hlen : (hexL ((bytesOf a0).take x.toNat)).length ≤ 40000 := by
        rw [hexL_length, List.length_take]; have := hs'.out; have := hx0.out; omega
      have hlen' := Aside0.mk hlen
      have nx' := Aside0.mk nx
      clear nx hlen
      go_wp2
      have n0_ := Aside0.mk (Kd.R_drew HO.out)
      have n1_ := Aside0.mk (below_drew1 HB.out)
      clear HO HB
      have HO := n0_
      have HB := n1_
      clear n0_ n1_
      have p5 : 0 ≤ x := hx0.out
      have q5 : x < (a0.size : Int) := hlt
      have hx5 := bt_at a0 x
      obtain ⟨b, hbb⟩ : ∃ b, bt a0 x = b := ⟨_, rfl⟩
      rw [hbb] at hx5 hb nx'
      have e1 : IntKind.u8.wrap (Int.tdiv b 16) = b / 16 := by
        rw [Int.tdiv_eq_ediv_of_nonneg hb.1]; show b / 16 % 256 = b / 16; omega
      have e2 : Int.tmod b 16 = b % 16 := Int.tmod_eq_emod_of_nonneg hb.1
      have p9 : 0 ≤ b / 16 := by omega
      have q9 : b / 16 < 16 := by omega
      have hx9 := bt_at figs (b / 16)
      have p14 : 0 ≤ b % 16 := by omega
      have q14 : b % 16 < 16 := by omega
      have hx14 := bt_at figs (b % 16)
      unfold figs at hx9 hx14
      replace p5 := eq_true p5
      replace q5 := eq_true q5
      replace p9 := eq_true p9
      replace q9 := eq_true q9
      replace p14 := eq_true p14
      replace q14 := eq_true q14
      refine start_ (n := 14) (S := fun w' => True) (ds := []) #[false, false, false, false, false, false, false, false, false, false, false, false, false, false] (by kernel_rfl) rfl rfl trivial (fun hHeld => ?_); refine with_tabW tab7 bits7 (fun HT_ HW_ => ?_)
      generalize wr.drew = w16 at HO HB hHeld ⊢
      refine pure_ (i := 0) (N := some 15) (v := ?_) (a' := ?_) #[true, false, false, false, false, false, false, false, false, false, false, false, false, false] rfl rfl (any_of HT_.out (by kernel_rfl)) (fun _ _ _ h => h) (Or.inl ⟨by rfl, ?_⟩) ?_ ?_
      rotate_left
      · intro w'
        go_simp
        with_reducible rfl
      rotate_left
      · simp only [Act.put, List.setIfInBounds_toArray, List.set_cons_zero, List.set_cons_succ, i64_w, i32_w]
        rfl
      refine pure_ (i := 1) (N := some 16) (v := ?_) (a' := ?_) #[true, true, false, false, false, false, false, false, false, false, false, false, false, false] rfl rfl (any_of HT_.out (by kernel_rfl)) (fun _ _ _ h => h) (Or.inl ⟨by rfl, ?_⟩) ?_ ?_
      rotate_left
      · intro w'
        go_simp
        with_reducible rfl
      rotate_left
      · simp only [Act.put, List.setIfInBounds_toArray, List.set_cons_zero, List.set_cons_succ, i64_w, i32_w]
        rfl
      refine pure_ (i := 2) (N := some 17) (v := ?_) (a' := ?_) #[true, true, true, false, false, false, false, false, false, false, false, false, false, false] rfl rfl (any_of HT_.out (by kernel_rfl)) (fun _ _ _ h => h) (Or.inl ⟨by rfl, ?_⟩) ?_ ?_
      rotate_left
      · intro w'
        go_simp
        with_reducible rfl
      rotate_left
      · simp only [Act.put, List.setIfInBounds_toArray, List.set_cons_zero, List.set_cons_succ, i64_w, i32_w]
        rfl
      refine pure_ (i := 6) (N := some 21) (v := ?_) (a' := ?_) #[true, true, true, false, false, false, true, false, false, false, false, false, false, false] rfl rfl (any_of HT_.out (by kernel_rfl)) (fun _ _ _ h => h) (Or.inl ⟨by rfl, ?_⟩) ?_ ?_
      rotate_left
      · intro w'
        go_simp
        with_reducible rfl
      rotate_left
      · simp only [Act.put, List.setIfInBounds_toArray, List.set_cons_zero, List.set_cons_succ, i64_w, i32_w]
        rfl
      refine pure_ (i := 7) (N := some 22) (v := ?_) (a' := ?_) #[true, true, true, false, false, false, true, true, false, false, false, false, false, false] rfl rfl (any_of HT_.out (by kernel_rfl)) (fun _ _ _ h => h) (Or.inl ⟨by rfl, ?_⟩) ?_ ?_
      rotate_left
      · intro w'
        go_simp
        with_reducible rfl
      rotate_left
      · simp only [Act.put, List.setIfInBounds_toArray, List.set_cons_zero, List.set_cons_succ, i64_w, i32_w]
        rfl
      refine take_ (i := 3) (N := some 18) (v := ?_) (a' := ?_) #[true, true, true, true, false, false, true, true, false, false, false, false, false, false] rfl rfl (take_ofW HT_.out HW_.out (by kernel_rfl)) (fun _ _ _ h => h) (Or.inl ⟨by rfl, ?_⟩) hHeld ?_ ?_
      rotate_left
      · intro w' _
        go_simp
        with_reducible rfl
      rotate_left
      · simp only [Act.put, List.setIfInBounds_toArray, List.set_cons_zero, List.set_cons_succ, i64_w, i32_w]
        rfl
      refine pure_ (i := 4) (N := some 19) (v := ?_) (a' := ?_) #[true, true, true, true, true, false, true, true, false, false, false, false, false, false] rfl rfl (any_of HT_.out (by kernel_rfl)) (fun _ _ _ h => h) (Or.inl ⟨by rfl, ?_⟩) ?_ ?_
      rotate_left
      · intro w'
        go_simp
        with_reducible rfl
      rotate_left
      · simp only [Act.put, List.setIfInBounds_toArray, List.set_cons_zero, List.set_cons_succ, i64_w, i32_w]
        rfl
      refine take_ (i := 5) (N := some 20) (v := ?_) (a' := ?_) #[true, true, true, true, true, true, true, true, false, false, false, false, false, false] rfl rfl (take_ofW HT_.out HW_.out (by kernel_rfl)) (fun _ _ _ h => h) (Or.inl ⟨by rfl, ?_⟩) hHeld ?_ ?_
      rotate_left
      · intro w' _
        go_simp
        with_reducible rfl
      rotate_left
      · simp only [Act.put, List.setIfInBounds_toArray, List.set_cons_zero, List.set_cons_succ, i64_w, i32_w]
        rfl
      refine take_ (i := 8) (N := some 23) (v := ?_) (a' := ?_) #[true, true, true, true, true, true, true, true, true, false, false, false, false, false] rfl rfl (take_ofW HT_.out HW_.out (by kernel_rfl)) (fun _ _ _ h => h) (Or.inl ⟨by rfl, ?_⟩) hHeld ?_ ?_
      rotate_left
      · intro w' _
        go_simp
        with_reducible rfl
      rotate_left
      · simp only [Act.put, List.setIfInBounds_toArray, List.set_cons_zero, List.set_cons_succ, i64_w, i32_w]
        rfl
      refine pure_ (i := 9) (N := some 24) (v := ?_) (a' := ?_) #[true, true, true, true, true, true, true, true, true, true, false, false, false, false] rfl rfl (any_of HT_.out (by kernel_rfl)) (fun _ _ _ h => h) (Or.inl ⟨by rfl, ?_⟩) ?_ ?_
      rotate_left
      · intro w'
        go_simp
        with_reducible rfl
      rotate_left
      · simp only [Act.put, List.setIfInBounds_toArray, List.set_cons_zero, List.set_cons_succ, i64_w, i32_w]
        rfl
      refine take_ (i := 10) (N := some 25) (v := ?_) (a' := ?_) #[true, true, true, true, true, true, true, true, true, true, true, false, false, false] rfl rfl (take_ofW HT_.out HW_.out (by kernel_rfl)) (fun _ _ _ h => h) (Or.inl ⟨by rfl, ?_⟩) hHeld ?_ ?_
      rotate_left
      · intro w' _
        go_simp
        with_reducible rfl
      rotate_left
      · simp only [Act.put, List.setIfInBounds_toArray, List.set_cons_zero, List.set_cons_succ, i64_w, i32_w]
        rfl
      refine one_ (i := 11) (N := some 26) #[true, true, true, true, true, true, true, true, true, true, true, true, false, false] rfl rfl (one_of HT_.out (by kernel_rfl)) (by decide) (fun K hK => ?_)
      refine Kd.R_lit_step (Kd.int .u8) _ 5 ?hg (N := 26) ?hd (xs := [bt figs (b / 16), bt figs (b % 16)]) (inner := [.int .u8 (bt figs (b / 16)), .int .u8 (bt figs (b % 16))]) (ok := fun _ => True) (okp := fun _ => True) ?hr ?hp (fun _ hk => hk) trivial (Below.refl _ _) (Nat.le_refl _) (by simp) ?_
      case hd => rfl
      case hg => rfl
      case hr => first | (go_simp; done) | (go_simp; rfl)
      case hp => exact (Reps.one (show Kd.M (Kd.int .u8) _ _ _ (bt figs (b / 16)) [.int .u8 (bt figs (b / 16))] from rfl) (Reps.one (show Kd.M (Kd.int .u8) _ _ _ (bt figs (b % 16)) [.int .u8 (bt figs (b % 16))] from rfl) (Reps.none _ _)))
      intro v113 w17 ho18 hb18 hg_ hnew_
      clear hg_ hnew_
      have n0_ := Aside0.mk (Kd.R_elder' (by (with_reducible repeat (first | apply Kd.R_alloc | apply Kd.R_drewN | apply Kd.R_drew)); exact HO.out) (Kd.R_base ho18) hb18)
      have n1_ := Aside0.mk (Kd.R_lower (Kd.R_new' ho18 (Kd.R_lt (by (with_reducible repeat (first | apply Kd.R_alloc | apply Kd.R_drewN | apply Kd.R_drew)); exact HO.out))) (below_size (by repeat (first | (with_reducible first | exact HB.out | apply below_alloc | apply pw_below_drewN | apply below_drew1) | exact HB.out))))
      have n2_ := Aside0.mk (below_step (by repeat (first | (with_reducible first | exact HB.out | apply below_alloc | apply pw_below_drewN | apply below_drew1) | exact HB.out)) hb18)
      clear HO HB
      have HO := n0_
      have HO2 := n1_
      have HB := n2_
      clear n0_ n1_ n2_ hb18 ho18
      obtain ⟨Ao20, co20, eo20⟩ := Kd.R_slice HO2.out
      first | subst eo20 | (injection eo20 with f1_ f2_ f3_; have f4_ := f1_.symm; have f5_ := f3_.symm; clear f1_ f2_ f3_; subst f4_; subst f5_)
      refine hK.out _ _ trivial (fun hHeld => ?_)
      clear hK K
      refine norm_ (a' := ?_) ?_ ?_
      rotate_left
      · show Act.put _ (some 26) _ = _
        simp only [Act.put, List.setIfInBounds_toArray, List.set_cons_zero, List.set_cons_succ, i64_w, i32_w]
        rfl
      refine one_ (i := 12) (N := some 27) #[true, true, true, true, true, true, true, true, true, true, true, true, true, false] rfl rfl (one_of HT_.out (by kernel_rfl)) (by decide) (fun K hK => ?_)
      refine Kd.R_append_rows_step (Kd.int .u8) (w0 := w) w.heap.size (by rfl) (.tmp 15) (.tmp 26) 32 5 (.int .u8 0) 1 rfl Tryd.underlying32 info5 rfl (by decide) (by omega) u4 (hexL ((bytesOf a0).take x.toNat)) [bt figs (b / 16), bt figs (b % 16)] _ _ _ (fun k_ => some k_ ≠ (.slice Ao20 [bt figs (b / 16), bt figs (b % 16)].length co20 : Value).ownBlock) (fun _ => False) rfl rfl ?aO ?aR (fun _ _ h => h) (fun _ h => h.elim) ?aF ?aB ?aS ?aL ?_
      case aR => repeat (first | exact (Kd.R_reads' HO2.out).2.2 | (with_reducible refine Kd.C_alloc ?_ _) | (with_reducible refine Kd.C_drewN ?_ _) | (with_reducible refine Kd.C_drew ?_))
      case aB => exact (by repeat (first | (with_reducible first | exact HB.out | apply below_alloc | apply pw_below_drewN | apply below_drew1) | exact HB.out))
      case aF => exact (fun k_ hk => Kd.fresh' (Kd.R_lt (by (with_reducible repeat (first | apply Kd.R_alloc | apply Kd.R_drewN | apply Kd.R_drew)); exact HO2.out)) k_ hk)
      case aO => exact (by (with_reducible repeat (first | apply Kd.R_alloc | apply Kd.R_drewN | apply Kd.R_drew)); exact Kd.R_mono HO.out (fun _ hk => hk.2))
      case aS => exact (below_size (by repeat (first | (with_reducible first | exact HB.out | apply below_alloc | apply pw_below_drewN | apply below_drew1) | exact HB.out)))
      case aL => have := hlen'.out; simp; omega
      intro v116 w19 ho hbl hg hat
      have n1_ := Aside0.mk hbl
      have n2_ := Aside0.mk ho
      clear HO2 HB HO
      have HB := n1_
      have HO := n2_
      clear n1_ n2_ ho hbl hg hat
      refine hK.out _ _ trivial (fun hHeld => ?_)
      clear hK K
      refine norm_ (a' := ?_) ?_ ?_
      rotate_left
      · show Act.put _ (some 27) _ = _
        simp only [Act.put, List.setIfInBounds_toArray, List.set_cons_zero, List.set_cons_succ, i64_w, i32_w]
        rfl
      refine pure_ (i := 13) (N := some 4) (v := ?_) (a' := ?_) #[true, true, true, true, true, true, true, true, true, true, true, true, true, true] rfl rfl (any_of HT_.out (by kernel_rfl)) (fun _ _ _ h => h) (Or.inl ⟨by rfl, ?_⟩) ?_ ?_
      rotate_left
      · intro w'
        go_simp
        with_reducible rfl
      rotate_left
      · simp only [Act.put, List.setIfInBounds_toArray, List.set_cons_zero, List.set_cons_succ, i64_w, i32_w]
        rfl
      refine done_ (done_of HT_.out (by kernel_rfl)) ?_
      go_wp2
      go_roundg (a0.size - x.toNat)
      case measure => have := hxk.out; have := hx0.out; omega
      case rel => exact ⟨x + 1, (by rw [show wrap64 (x + 1) = x + 1 by unfold wrap64; have := hx0.out; have := hs'.out; omega]), ⟨by have := hx0.out; omega⟩, ⟨by have := hxk.out; have := hx0.out; omega⟩, ⟨by rw [nx'.out, hexL_snoc]; exact Kd.R_mono HO.out (fun _ _ => trivial)⟩, ⟨by repeat (first | (with_reducible first | exact HB.out | apply below_alloc | apply pw_below_drewN | apply below_drew1) | exact HB.out)⟩⟩
    · have c3b0 : decide (x < (a0.size : Int)) = false := decide_eq_false hlt
      have hcv := own_string (P := Tryd.prog) Tryd.underlying32 Tryd.underlying5 Tryd.underlying9 (Kd.own_of_R HO.out)
      have hall : (bytesOf a0).take x.toNat = bytesOf a0 := List.take_of_length_le (by rw [bytesOf_length]; omega)
      rw [hall] at hcv
      clear hall
      go_wp2
      go_ret2
      exact ⟨rfl, by repeat (first | (with_reducible first | exact HB.out | apply below_alloc | apply pw_below_drewN | apply below_drew1) | exact HB.out)⟩
/-! #### impl.Unhex -/
def hv (c : Int) : Int := if 48 ≤ c ∧ c ≤ 57 then c - 48 else if 97 ≤ c ∧ c ≤ 102 then c - 87 else -1
theorem hv_range (c : Int) : -1 ≤ hv c ∧ hv c ≤ 15 := by unfold hv; split <;> (try split) <;> omega
def unhexL : List Int → Option (List Int)
  | [] => some []
  | [_] => none
  | a :: b :: l => if hv a < 0 ∨ hv b < 0 then none else (unhexL l).map fun r => (16 * hv a + hv b) :: r
def outS : Option (List Int) → ByteArray
  | none => ⟨#[]⟩
  | some l => strOfNums l
theorem idx_hv (c : Int) (h0 : 0 ≤ c) (h1 : c ≤ 255) : Lib.indexByte [48, 49, 50, 51, 52, 53, 54, 55, 56, 57, 97, 98, 99, 100, 101, 102] c.toNat.toUInt8 = hv c := by
  have key : ∀ n : Fin 256, Lib.indexByte [48, 49, 50, 51, 52, 53, 54, 55, 56, 57, 97, 98, 99, 100, 101, 102] (n.val.toUInt8) = hv (n.val : Int) := by decide +kernel
  have := key ⟨c.toNat, by omega⟩
  rw [this]
  congr 1
  show ((c.toNat : Nat) : Int) = c
  omega
theorem idx_fig (c : Int) (w : World) (h0 : 0 ≤ c) (h1 : c ≤ 255) :
    Calls Tryd.prog 37 #[.string ⟨#[48, 49, 50, 51, 52, 53, 54, 55, 56, 57, 97, 98, 99, 100, 101, 102]⟩, .int .u8 c] w fun e w' => e = .returned (.int .i64 (hv c)) ∧ w' = w := by
  have := index_byte ⟨#[48, 49, 50, 51, 52, 53, 54, 55, 56, 57, 97, 98, 99, 100, 101, 102]⟩ c w
  rw [← idx_hv c h0 h1]
  exact this
theorem drop_byte (s : ByteArray) (x : Int) (h0 : 0 ≤ x) (h1 : x < (s.size : Int)) : (bytesOf s).drop x.toNat = bt s x :: (bytesOf s).drop (x + 1).toNat := by
  have hl : x.toNat < (bytesOf s).length := by rw [bytesOf_length]; omega
  rw [List.drop_eq_getElem_cons hl, show (x + 1).toNat = x.toNat + 1 by omega]
  congr 1
  have := rd_bytesOf s x
  unfold rd at this
  rw [← this]
  simp [List.getD, hl]
def fin (s : ByteArray) (acc : List Int) (half x : Int) : Option (List Int) :=
  if x % 2 = 0 then (unhexL ((bytesOf s).drop x.toNat)).map fun r => acc ++ r
  else match (bytesOf s).drop x.toNat with
    | [] => none
    | b :: l => if hv b < 0 then none else (unhexL l).map fun r => acc ++ (16 * half + hv b) :: r
theorem fin_bad (s : ByteArray) (acc : List Int) (half x : Int) (h0 : 0 ≤ x) (h1 : x < (s.size : Int)) (hev : (s.size : Int) % 2 = 0) (hb : hv (bt s x) < 0) : fin s acc half x = none := by
  unfold fin
  rw [drop_byte s x h0 h1]
  split
  · rename_i h
    rw [drop_byte s (x + 1) (by omega) (by omega)]
    simp [unhexL, hb]
  · simp [hb]
theorem fin_odd (s : ByteArray) (acc : List Int) (half x : Int) (h0 : 0 ≤ x) (h1 : x < (s.size : Int)) (hp : x % 2 = 1) (hb : ¬ hv (bt s x) < 0) : fin s acc half x = fin s (acc ++ [16 * half + hv (bt s x)]) (hv (bt s x)) (x + 1) := by
  unfold fin
  rw [drop_byte s x h0 h1, if_neg (by omega), if_pos (by omega)]
  simp [hb]
theorem fin_even (s : ByteArray) (acc : List Int) (half x : Int) (h0 : 0 ≤ x) (h1 : x < (s.size : Int)) (hev : (s.size : Int) % 2 = 0) (hp : x % 2 = 0) (hb : ¬ hv (bt s x) < 0) : fin s acc half x = fin s acc (hv (bt s x)) (x + 1) := by
  unfold fin
  rw [drop_byte s x h0 h1, if_pos hp, if_neg (by omega), drop_byte s (x + 1) (by omega) (by omega)]
  simp only [unhexL, hb, false_or]
  split
  · rfl
  · simp only [Option.map_map]; rfl
theorem fin_end (s : ByteArray) (acc : List Int) (half x : Int) (h0 : 0 ≤ x) (h1 : ¬ x < (s.size : Int)) (hev : x % 2 = 0) : fin s acc half x = some acc := by
  unfold fin
  rw [if_pos hev, List.drop_eq_nil_of_le (by rw [bytesOf_length]; omega)]
  simp [unhexL]
theorem ret2 {a b : ByteArray} {c d : Bool} (h : a = b) (h' : c = d) : Ending.returned (.tuple #[.string a, .bool c]) = .returned (.tuple #[.string b, .bool d]) := by rw [h, h']
set_option maxHeartbeats 8000000 in
set_option maxRecDepth 100000 in
theorem unhex_long (a0 : ByteArray) (w : World) (c : (a0.size : Int) % 2 = 1 ∨ (a0.size : Int) > 40000) :
    Calls Tryd.prog 24 #[.string a0] w fun e w' => e = .returned (.tuple #[.string ⟨#[]⟩, .bool false]) ∧ Below w.heap.size w w' := by
  by_cases c1 : (a0.size : Int) % 2 = 1
  · have c1b : decide ((a0.size : Int) % 2 = 1) = true := decide_eq_true c1
    have c1c : ((a0.size : Int) % 2 == 1) = true := by simpa using c1
    go_enter Tryd.func24, Tryd.ntmps24
    go_wp2
    go_ret2
    exact ⟨rfl, Below.refl _ _⟩
  · have c2 : (a0.size : Int) > 40000 := by omega
    have c1c : ((a0.size : Int) % 2 == 1) = false := by simpa using c1
    have c2b0 : decide (40000 < (a0.size : Int)) = true := decide_eq_true c2
    have c2b1 : decide (40000 < a0.size) = true := decide_eq_true (by omega)
    go_enter Tryd.func24, Tryd.ntmps24
    go_wp2
    go_ret2
    exact ⟨rfl, Below.refl _ _⟩
set_option maxHeartbeats 8000000 in
set_option maxRecDepth 100000 in
theorem impl_unhex (a0 : ByteArray) (w : World) (hev : (a0.size : Int) % 2 = 0) (hs : ¬ (a0.size : Int) > 40000) :
    Calls Tryd.prog 24 #[.string a0] w fun e w' => e = .returned (.tuple #[.string (outS (unhexL (bytesOf a0))), .bool (unhexL (bytesOf a0)).isSome]) ∧ Below w.heap.size w w' := by
  obtain ⟨R, hR⟩ : ∃ R, unhexL (bytesOf a0) = R := ⟨_, rfl⟩
  rw [hR]
  have hfin0 : fin a0 [] 0 0 = R := by
    unfold fin; rw [if_pos (by decide)]; show (unhexL (bytesOf a0)).map _ = R; rw [hR]; cases R <;> simp
  have c1c : ((a0.size : Int) % 2 == 1) = false := by
    have : (a0.size : Int) % 2 ≠ 1 := by omega
    simpa using this
  have c2b0 : decide (40000 < (a0.size : Int)) = false := decide_eq_false hs
  have c2b1 : decide (40000 < a0.size) = false := decide_eq_false (by omega)
  have hs' := Aside0.mk hs
  have hev' := Aside0.mk hev
  have hF0 := Aside0.mk hfin0
  clear hs hev hR hfin0
  go_enter Tryd.func24, Tryd.ntmps24
  go_wp2
  go_loopg [4, 5, 6] (a0.size + 1) (fun kq v4 v5 v6 w' => ∃ (x half : Int) (acc : List Int), v6 = .int .i64 x ∧ v5 = .int .i64 half ∧ Aside0 ((0 ≤ x ∧ x ≤ a0.size) ∧ x + kq = a0.size + 1 ∧ 0 ≤ half ∧ half ≤ 15 ∧ (acc.length : Int) ≤ x) ∧ Aside0 (fin a0 acc half x = R) ∧ Aside0 (Kd.R (Kd.int .u8) 5 w' w.heap.size (fun _ => True) v4 acc) ∧ Aside0 (Below w.heap.size w w'))
  case atStart => exact ⟨0, 0, [], rfl, rfl, ⟨⟨by omega, by omega⟩, by omega, by omega, by omega, by simp⟩, hF0, ⟨by exact Kd.R_nil _ _ _ _ _⟩, ⟨Below.refl _ _⟩⟩
  case round =>
    try clear c1c
    try clear c2b0
    try clear c2b1
    clear hF0
    obtain ⟨x, half, acc, rfl, rfl, hI, hF, HO, HB⟩ := hrel
    obtain ⟨⟨hx0, hxs⟩, hxk, hh0, hh1, hacc⟩ := hI.out
    have hxs' := Aside0.mk hxs
    clear hxs
    clear hI
    by_cases hlt : x < (a0.size : Int)
    · have c3b0 : decide (x < (a0.size : Int)) = true := decide_eq_true hlt
      have hb := bt_range a0 x
      have hx5 := bt_at a0 x
      obtain ⟨b, hbb⟩ : ∃ b, bt a0 x = b := ⟨_, rfl⟩
      have hvr := hv_range b
      by_cases hn : hv b < 0
      · have hbad := fin_bad a0 acc half x hx0 hlt hev'.out (by rw [hbb]; exact hn)
        have hRn : R = none := by rw [← hF.out, hbad]
        have c4b0 : decide (hv b < 0) = true := decide_eq_true hn
        rw [hbb] at hx5 hb
        clear hbad hF
        subst hRn
        go_wp2_with (go_at_call 37; refine (idx_fig _ _ hb.1 hb.2).mono ?_; rintro e w' ⟨rfl, rfl⟩)
        go_ret2
        exact ⟨rfl, HB.out⟩
      · have c4b0 : decide (hv b < 0) = false := decide_eq_false hn
        by_cases hp : x % 2 = 1
        · have hstep := fin_odd a0 acc half x hx0 hlt hp (by rw [hbb]; exact hn)
          rw [hbb] at hstep
          have hF' := Aside0.mk (hstep.symm.trans hF.out)
          have c5b0 : (x % 2 == 1) = true := by simpa using hp
          rw [hbb] at hx5 hb
          have hacc' := Aside0.mk hacc
          have hxk' := Aside0.mk hxk
          have hn' := Aside0.mk hn
          have hlt' := Aside0.mk hlt
          have hx0' := Aside0.mk hx0
          have hvr' := Aside0.mk hvr
          clear hstep hF hacc hxk hbb
          go_wp2_with (first
            | (go_at_call 37; refine (idx_fig _ _ hb.1 hb.2).mono ?_; rintro e w' ⟨rfl, rfl⟩)
            | ((with_reducible refine gate_builtin (b := .append) (xs := #[.tmp 32, .tmp 38]) rfl ?_); at_builtin; refine Kd.R_append (Kd.int .u8) (w0 := w) w.heap.size rfl (.tmp 32) (.tmp 38) 32 5 (.int .u8 0) 1 rfl Tryd.underlying32 info5 rfl (by decide) (by omega) u4 acc (16 * half + hv b) [.int .u8 (16 * half + hv b)] (fun _ => True) (fun _ => False) rfl rfl ?aP (fun _ hk => hk.elim) ?aF ?aO ?aB ?aS ?aL ?_; (case aP => exact rfl); (case aB => exact HB.out); (case aF => exact (fun _ _ => trivial)); (case aO => exact HO.out); (case aS => exact (below_size HB.out)); (case aL => have := hacc'.out; have := hs'.out; omega); intro v105 w6 ho hbl hg hat; have n0_ := Aside0.mk (hbl); have n1_ := Aside0.mk (ho); clear HB HO; have HB := n0_; have HO := n1_; clear n0_ n1_ ho hbl hg hat))
          go_roundg (a0.size - x.toNat)
          case measure => have := hxk'.out; have := hx0'.out; omega
          case rel => exact ⟨x + 1, hv b, acc ++ [16 * half + hv b], (by rw [show wrap64 (x + 1) = x + 1 by unfold wrap64; have := hs'.out; have := hlt'.out; have := hx0'.out; omega]), rfl, ⟨⟨by have := hx0'.out; omega, by have := hlt'.out; omega⟩, by have := hxk'.out; have := hx0'.out; omega, by have := hn'.out; omega, by have := hvr'.out; omega, by have := hacc'.out; simp; omega⟩, hF', HO, HB⟩
        · have hp0 : x % 2 = 0 := by omega
          have hstep := fin_even a0 acc half x hx0 hlt hev'.out hp0 (by rw [hbb]; exact hn)
          rw [hbb] at hstep
          have hF' := Aside0.mk (hstep.symm.trans hF.out)
          have c5b0 : (x % 2 == 1) = false := by simpa using hp
          rw [hbb] at hx5 hb
          have hacc' := Aside0.mk hacc
          have hxk' := Aside0.mk hxk
          have hn' := Aside0.mk hn
          have hlt' := Aside0.mk hlt
          have hx0' := Aside0.mk hx0
          have hvr' := Aside0.mk hvr
          clear hstep hF hacc hxk hbb
          go_wp2_with (go_at_call 37; refine (idx_fig _ _ hb.1 hb.2).mono ?_; rintro e w' ⟨rfl, rfl⟩)
          go_roundg (a0.size - x.toNat)
          case measure => have := hxk'.out; have := hx0'.out; omega
          case rel => exact ⟨x + 1, hv b, acc, (by rw [show wrap64 (x + 1) = x + 1 by unfold wrap64; have := hs'.out; have := hlt'.out; have := hx0'.out; omega]), rfl, ⟨⟨by have := hx0'.out; omega, by have := hlt'.out; omega⟩, by have := hxk'.out; have := hx0'.out; omega, by have := hn'.out; omega, by have := hvr'.out; omega, by have := hacc'.out; omega⟩, hF', HO, HB⟩
    · have c3b0 : decide (x < (a0.size : Int)) = false := decide_eq_false hlt
      have hend := fin_end a0 acc half x hx0 hlt (by have := hev'.out; have := hxs'.out; omega)
      have hRs : R = some acc := by rw [← hF.out, hend]
      have hcv := own_string (P := Tryd.prog) Tryd.underlying32 Tryd.underlying5 Tryd.underlying9 (Kd.own_of_R HO.out)
      clear hend hF
      subst hRs
      go_wp2
      go_ret2
      exact ⟨rfl, by repeat (first | (with_reducible first | exact HB.out | apply below_alloc | apply pw_below_drewN | apply below_drew1) | exact HB.out)⟩
/-! #### the functions that were walked by hand -/
def hexF (_ : Nat) (s : ByteArray) : Option (ByteArray × Bool) := if (s.size : Int) > 20000 then some (⟨#[]⟩, false) else some (strOfNums (hexL (bytesOf s)), true)
def unhexF (_ : Nat) (s : ByteArray) : Option (ByteArray × Bool) := if (s.size : Int) % 2 = 1 ∨ (s.size : Int) > 40000 then some (⟨#[]⟩, false) else some (outS (unhexL (bytesOf s)), (unhexL (bytesOf s)).isSome)
@[reducible] def i_hex : fk_impl_Hex := ⟨hexF, fun _ _ => LeO.refl _, fun k s r1 r2 w h => by
  unfold hexF at h
  by_cases c : (s.size : Int) > 20000
  · rw [if_pos c] at h
    cases h
    exact hex_long s w c
  · rw [if_neg c] at h
    cases h
    exact impl_hex s w c⟩
@[reducible] def i_unhex : fk_impl_Unhex := ⟨unhexF, fun _ _ => LeO.refl _, fun k s r1 r2 w h => by
  unfold unhexF at h
  by_cases c : (s.size : Int) % 2 = 1 ∨ (s.size : Int) > 40000
  · rw [if_pos c] at h
    cases h
    exact unhex_long s w c
  · rw [if_neg c] at h
    cases h
    exact impl_unhex s w (by omega) (by omega)⟩
/-! #### VarText and ReadVar of the program -/
theorem vt_wrap {i : Int} (h0 : -4611686018427387904 ≤ i) (h1 : i ≤ 4611686018427387904) : wrap64 i = i := by
  unfold wrap64; omega
def vtL : Nat → Int → List Int
  | 0, x => [x % 256]
  | f + 1, x => if x > 127 then ((x % 128 + 128) % 256) :: vtL f (x / 128) else [x % 256]
theorem vtL_length (f : Nat) : ∀ x, (vtL f x).length ≤ f + 1 := by
  induction f with
  | zero => intro x; simp [vtL]
  | succ f ih => intro x; simp only [vtL]; split <;> simp; exact ih _
theorem vt_small (x : Int) (h : ¬ x > 127) (f : Nat) : vtL f x = [x % 256] := by
  cases f with
  | zero => rfl
  | succ f => simp only [vtL]; rw [if_neg h]
theorem vt_rounds (f : Nat) : ∀ (x : Int) (l : List Int) (k : Nat), 0 ≤ x → x ≤ 1152921504606846975 → x < 128 * 128 ^ f → f < k → l.length + f < 1000 → impl_VarText.l0 k x l = some (strOfNums (l ++ vtL f x), true) := by
  induction f with
  | zero =>
    intro x l k h0 hb h1 hk hl
    obtain ⟨k, rfl⟩ : ∃ m, k = m + 1 := ⟨k - 1, by omega⟩
    have hx : ¬ x > 127 := by simp at h1; omega
    simp only [impl_VarText.l0]
    rw [if_neg hx, if_pos (by omega)]
    rfl
  | succ f ih =>
    intro x l k h0 hb h1 hk hl
    obtain ⟨k, rfl⟩ : ∃ m, k = m + 1 := ⟨k - 1, by omega⟩
    simp only [impl_VarText.l0]
    by_cases hx : x > 127
    · rw [if_pos hx, if_pos (by omega)]
      have e1 : wrap64 (Int.tdiv x 128) = x / 128 := by
        rw [Int.tdiv_eq_ediv_of_nonneg h0]; exact vt_wrap (by omega) (by omega)
      have e2 : wrap64 (Int.tmod x 128 + 128) = x % 128 + 128 := by
        rw [Int.tmod_eq_emod_of_nonneg h0]; exact vt_wrap (by omega) (by omega)
      rw [e1, e2]
      have h1' : x / 128 < 128 * 128 ^ f := by
        have : (128 : Int) * 128 ^ (f + 1) = (128 * 128 ^ f) * 128 := by rw [Int.pow_succ]; ac_rfl
        rw [this] at h1
        exact Int.ediv_lt_of_lt_mul (by omega) h1
      have := ih (x / 128) (l ++ [(x % 128 + 128) % 256]) k (by omega) (by omega) h1' (by omega) (by simp; omega)
      rw [this]
      simp only [vtL]; rw [if_pos hx]
      simp
    · rw [if_neg hx, if_pos (by omega)]
      rw [vt_small x hx]

def valD : List Int → Int
  | [] => 0
  | d :: l => d + 128 * valD l
def encD : List Int → List Int
  | [] => []
  | [d] => [d]
  | d :: e :: l => (d + 128) :: encD (e :: l)
def okD (l : List Int) : Prop := ∀ d ∈ l, 0 ≤ d ∧ d < 128
theorem valD_nonneg (l : List Int) (h : okD l) : 0 ≤ valD l := by
  induction l with
  | nil => simp [valD]
  | cons d l ih =>
    have h1 := h d (by simp)
    have h2 := ih (fun e he => h e (by simp [he]))
    simp only [valD]; omega
theorem valD_lt (l : List Int) (h : okD l) : valD l < 128 ^ l.length := by
  induction l with
  | nil => simp [valD]
  | cons d l ih =>
    have h1 := h d (by simp)
    have h2 := ih (fun e he => h e (by simp [he]))
    simp only [valD, List.length_cons, Int.pow_succ]; omega
theorem valD_snoc (l : List Int) (d : Int) : valD (l ++ [d]) = valD l + d * 128 ^ l.length := by
  induction l with
  | nil => simp [valD]
  | cons e l ih =>
    simp only [List.cons_append, valD, ih, List.length_cons, Int.pow_succ, Int.mul_add]
    have : d * (128 ^ l.length * 128) = 128 * (d * 128 ^ l.length) := by ac_rfl
    rw [this]; omega
theorem encD_length : ∀ l : List Int, (encD l).length = l.length
  | [] => rfl
  | [_] => rfl
  | d :: e :: l => by simp only [encD, List.length_cons]; rw [encD_length (e :: l)]; rfl
theorem encD_snoc : ∀ (l : List Int) (d : Int), encD (l ++ [d]) = l.map (· + 128) ++ [d]
  | [], d => rfl
  | [e], d => rfl
  | e :: f :: l, d => by
    have := encD_snoc (f :: l) d
    simp only [List.cons_append] at this
    simp only [List.cons_append, encD, List.map_cons]
    rw [this]; rfl
theorem list_of_bytes (s : ByteArray) : s.toList.map (fun b => (b.toNat : Int)) = bytesOf s := by
  rw [ByteArray.toList_eq]; rfl
theorem toList_eq_iff (a b : ByteArray) : a.toList = b.toList ↔ bytesOf a = bytesOf b := by
  constructor
  · intro h; rw [← list_of_bytes, ← list_of_bytes, h]
  · intro h
    rw [ByteArray.toList_eq, ByteArray.toList_eq]
    unfold bytesOf at h
    exact (List.map_inj_right (fun x y hxy => UInt8.toNat_inj.1 (by omega))).1 h
theorem pow_small (j : Nat) (h : j ≤ 5) : (1 : Int) ≤ 128 ^ j ∧ (128 : Int) ^ j ≤ 34359738368 := by
  have : j = 0 ∨ j = 1 ∨ j = 2 ∨ j = 3 ∨ j = 4 ∨ j = 5 := by omega
  rcases this with rfl | rfl | rfl | rfl | rfl | rfl <;> decide +kernel
theorem shl_pow (d : Int) (j : Nat) (h : j ≤ 4) (h0 : 0 ≤ d) (h1 : d < 128) : shl .i64 d (7 * (j : Int)) = d * 128 ^ j := by
  have hw : ∀ x : Int, 0 ≤ x → x ≤ 34359738368 → IntKind.i64.wrap x = x := by
    intro x h0 h1
    rw [i64_w]
    exact vt_wrap (by omega) (by omega)
  have hj : j = 0 ∨ j = 1 ∨ j = 2 ∨ j = 3 ∨ j = 4 := by omega
  have e : (2 : Int) ^ min (7 * (j : Int)).toNat IntKind.i64.bits = 128 ^ j := by
    rcases hj with rfl | rfl | rfl | rfl | rfl <;> decide +kernel
  unfold shl
  rw [e]
  have hp := pow_small j (by omega)
  have hp4 : (128 : Int) ^ j ≤ 268435456 := by
    rcases hj with rfl | rfl | rfl | rfl | rfl <;> decide +kernel
  obtain ⟨p, hpp⟩ : ∃ p, (128 : Int) ^ j = p := ⟨_, rfl⟩
  rw [hpp] at hp hp4 ⊢
  have h2 : 0 ≤ d * p := Int.mul_nonneg h0 (by omega)
  have h3 : d * p ≤ 127 * p := Int.mul_le_mul_of_nonneg_right (by omega) (by omega)
  exact hw _ h2 (by omega)
theorem byte_drop (s : ByteArray) (i : Nat) (h : i < s.size) : (bytesOf s).drop i = bt s i :: (bytesOf s).drop (i + 1) := by
  have hl : i < (bytesOf s).length := by rw [bytesOf_length]; exact h
  rw [List.drop_eq_getElem_cons hl]
  congr 1
  have := rd_bytesOf s i
  unfold rd at this
  rw [← this]
  simp [List.getD, hl]
theorem byte_take (s : ByteArray) (i j : Nat) (h : i + j < s.size) : ((bytesOf s).drop i).take (j + 1) = ((bytesOf s).drop i).take j ++ [bt s ((i : Int) + j)] := by
  have hl : j < ((bytesOf s).drop i).length := by rw [List.length_drop, bytesOf_length]; omega
  rw [List.take_succ_eq_append_getElem hl]
  congr 1
  have hd := byte_drop s (i + j) h
  have : ((bytesOf s).drop i)[j] = ((bytesOf s).drop (i + j))[0]'(by rw [List.length_drop, bytesOf_length]; omega) := by simp
  rw [this]
  have e : ((bytesOf s).drop (i + j))[0]'(by rw [List.length_drop, bytesOf_length]; omega) = bt s ((i + j : Nat) : Int) := by simp only [hd]; rfl
  rw [e]
  simp
theorem bytes_extract (s : ByteArray) (a b : Nat) : bytesOf (s.extract a b) = ((bytesOf s).drop a).take (b - a) := by
  unfold bytesOf
  rw [ByteArray.data_extract, Array.toList_extract, List.extract_eq_take_drop, List.map_take, List.map_drop]
theorem bytes_nums (l : List Int) (h : ∀ d ∈ l, 0 ≤ d ∧ d < 256) : bytesOf (strOfNums l) = l := by
  unfold bytesOf strOfNums
  simp only [List.map_map]
  conv => rhs; rw [← List.map_id l]
  apply List.map_congr_left
  intro d hd
  have := h d hd
  simp only [Function.comp, id]
  rw [UInt8.toNat_ofNat']; omega
theorem vtL_bytes (f : Nat) : ∀ x, 0 ≤ x → ∀ d ∈ vtL f x, 0 ≤ d ∧ d < 256 := by
  induction f with
  | zero => intro x h d hd; simp [vtL] at hd; omega
  | succ f ih =>
    intro x h d hd
    simp only [vtL] at hd
    split at hd
    · rcases List.mem_cons.1 hd with rfl | hd
      · omega
      · exact ih _ (by omega) d hd
    · simp at hd; omega
theorem rv_nums (ds : List Int) (j : Nat) (c : Int) (hl : ds.length = j) (hok : okD ds) (hj4 : j ≤ 4) :
    wrap64 ((c % 128) * 128 ^ j) = (c % 128) * 128 ^ j ∧ wrap64 (valD ds + (c % 128) * 128 ^ j) = valD (ds ++ [c % 128]) ∧ shl .i64 (c % 128) (7 * (j : Int)) = (c % 128) * 128 ^ j ∧
    0 ≤ valD (ds ++ [c % 128]) ∧ valD (ds ++ [c % 128]) ≤ 4398046511104 ∧ wrap64 ((128 : Int) ^ j * 128) = 128 ^ (j + 1) := by
  have hp := pow_small j (by omega)
  have hv0 := valD_nonneg ds hok
  have hv1 := valD_lt ds hok
  have hsh := shl_pow (c % 128) j hj4 (by omega) (by omega)
  have hsn := valD_snoc ds (c % 128)
  rw [hl] at hv1 hsn
  rw [Int.pow_succ]
  obtain ⟨p, hpp⟩ : ∃ p, (128 : Int) ^ j = p := ⟨_, rfl⟩
  rw [hpp] at hp hv1 hsh hsn ⊢
  have hq0 : 0 ≤ (c % 128) * p := Int.mul_nonneg (by omega) (by omega)
  have hq1 : (c % 128) * p ≤ 127 * p := Int.mul_le_mul_of_nonneg_right (by omega) (by omega)
  obtain ⟨q, hq⟩ : ∃ q, (c % 128) * p = q := ⟨_, rfl⟩
  rw [hq] at hq0 hq1 hsh hsn ⊢
  rw [hsn]
  exact ⟨vt_wrap (by omega) (by omega), vt_wrap (by omega) (by omega), hsh, by omega, by omega, vt_wrap (by omega) (by omega)⟩
theorem vt_digits : ∀ (f : Nat) (x : Int), 0 ≤ x → x < 128 * 128 ^ f → ∃ ds, okD ds ∧ ds ≠ [] ∧ vtL f x = encD ds ∧ valD ds = x
  | 0, x, h0, h1 => ⟨[x], fun d hd => by rw [List.mem_singleton.1 hd]; simp at h1; omega, by simp, by simp at h1; simp only [vtL, encD]; rw [Int.emod_eq_of_lt h0 (by omega)], by simp [valD]⟩
  | f + 1, x, h0, h1 => by
    by_cases hx : x > 127
    · have h1' : x / 128 < 128 * 128 ^ f := by
        have : (128 : Int) * 128 ^ (f + 1) = (128 * 128 ^ f) * 128 := by rw [Int.pow_succ]; ac_rfl
        rw [this] at h1
        exact Int.ediv_lt_of_lt_mul (by omega) h1
      obtain ⟨ds, h2, h3, h4, h5⟩ := vt_digits f (x / 128) (by omega) h1'
      cases ds with
      | nil => exact absurd rfl h3
      | cons e l =>
        refine ⟨x % 128 :: e :: l, ?_, by simp, ?_, ?_⟩
        · intro d hd
          rcases List.mem_cons.1 hd with rfl | hd
          · omega
          · exact h2 d hd
        · simp only [vtL]
          rw [if_pos hx, h4]
          simp only [encD]
          congr 1; omega
        · show x % 128 + 128 * valD (e :: l) = x
          rw [h5]; omega
    · refine ⟨[x], fun d hd => by rw [List.mem_singleton.1 hd]; omega, by simp, ?_, by simp [valD]⟩
      simp only [vtL, encD]
      rw [if_neg hx, Int.emod_eq_of_lt h0 (by omega)]
theorem vt_says (n : Int) (h0 : 0 ≤ n) (h1 : n ≤ 1000000000) (k : Nat) (hk : 5 < k) : impl_VarText.f k n = some (strOfNums (vtL 5 n), true) := by
  unfold impl_VarText.f impl_within.f
  rw [if_pos h0, decide_eq_true h1, Option.bind_some, if_pos rfl, vt_rounds 5 n [] k h0 (by omega) (by omega) hk (by simp), List.nil_append]
set_option maxHeartbeats 1000000 in
theorem rv_step (s : ByteArray) (hs : s.size ≤ 1048576) (at_ : Int) (h0 : 0 ≤ at_) (j : Nat) (ds : List Int) (k : Nat) (hl : ds.length = j) (hok : okD ds) (hj4 : j ≤ 4) (hlt : at_ + (j : Int) < s.size) (c : Int) (hc : bt s (at_ + j) = c) :
    impl_ReadVar.l0 (k + 1 + 1) s at_ (valD ds) j = if c < 128 then ((impl_VarText.f k (valD (ds ++ [c % 128]))).bind fun bt120 => (if bt120.2 = true then (if (bt120.1.size : Int) = (j : Int) + 1 then some (valD (ds ++ [c % 128]), at_ + (j : Int) + 1, true) else some (0, 0, false)) else some (0, 0, false))) else impl_ReadVar.l0 k s at_ (valD (ds ++ [c % 128])) ((j : Int) + 1) := by
  have ej : Aside0 (wrap64 (at_ + (j : Int)) = at_ + j) := ⟨vt_wrap (by omega) (by omega)⟩
  have e7 : Aside0 (wrap64 (7 * (j : Int)) = 7 * j) := ⟨vt_wrap (by omega) (by omega)⟩
  have e1 : Aside0 (wrap64 (at_ + (j : Int) + 1) = at_ + j + 1) := ⟨vt_wrap (by omega) (by omega)⟩
  have ej1 : Aside0 (wrap64 ((j : Int) + 1) = j + 1) := ⟨vt_wrap (by omega) (by omega)⟩
  have i5 : (j : Int) < 5 := by omega
  have i0 : 0 ≤ at_ + (j : Int) := by omega
  have i7 : (0 : Int) ≤ 7 * j := by omega
  have hbr := bt_range s (at_ + j)
  rw [hc] at hbr
  have ew : Aside0 (wrap64 c = c) := ⟨vt_wrap (by omega) (by omega)⟩
  have em : Int.tmod c 128 = c % 128 := Int.tmod_eq_emod_of_nonneg hbr.1
  obtain ⟨emul, eadd, esh, hm0, hm1, ep⟩ := rv_nums ds j c hl hok hj4
  simp only [impl_ReadVar.l0, if_pos i5, ej.out, decide_eq_true hlt, impl_ReadVar.j1, if_true, if_pos i0, if_pos hlt, e7.out, if_pos i7, hc, ew.out, em, esh, eadd, e1.out, ej1.out]
theorem rv_go (s : ByteArray) (hs : s.size ≤ 1048576) (at_ : Int) (h0 : 0 ≤ at_) : ∀ (post pre : List Int) (d : Int) (k : Nat), okD (pre ++ d :: post) → pre.length + 1 + post.length ≤ 5 → (∃ rest, (bytesOf s).drop (at_.toNat + pre.length) = encD (d :: post) ++ rest) → valD (pre ++ d :: post) ≤ 1000000000 → at_ + pre.length + 1 + post.length ≤ s.size → (vtL 5 (valD (pre ++ d :: post))).length = pre.length + 1 + post.length → 2 * post.length + 12 ≤ k →
    impl_ReadVar.l0 k s at_ (valD pre) pre.length = some (valD (pre ++ d :: post), at_ + pre.length + 1 + post.length, true)
  | [], pre, d, k, hok, hl, ⟨rest, hr⟩, hv, hat, hvl, hk => by
    obtain ⟨k, rfl⟩ : ∃ m, k = m + 1 + 1 := ⟨k - 2, by omega⟩
    simp only [List.length_nil] at *
    have hlt : at_ + (pre.length : Int) < s.size := by omega
    have hbd := byte_drop s (at_.toNat + pre.length) (by omega)
    rw [hr] at hbd
    have hc : bt s (at_ + pre.length) = d := by
      have := (List.cons.inj hbd).1
      rw [show ((at_.toNat + pre.length : Nat) : Int) = at_ + pre.length by omega] at this
      exact this.symm
    have hd := hok d (by simp)
    have hpre : okD pre := fun x hx => hok x (by simp [hx])
    have hm0 := valD_nonneg _ hok
    rw [rv_step s hs at_ h0 pre.length pre k rfl hpre (by omega) hlt d hc, if_pos hd.2, show d % 128 = d by omega, vt_says _ hm0 hv k (by omega), Option.bind_some]
    simp only [if_true, strOfNums_size]
    rw [if_pos (by omega)]
    simp
  | e :: post, pre, d, k, hok, hl, ⟨rest, hr⟩, hv, hat, hvl, hk => by
    obtain ⟨k, rfl⟩ : ∃ m, k = m + 1 + 1 := ⟨k - 2, by omega⟩
    simp only [List.length_cons] at *
    have hlt : at_ + (pre.length : Int) < s.size := by omega
    have hbd := byte_drop s (at_.toNat + pre.length) (by omega)
    rw [hr] at hbd
    have hd := hok d (by simp)
    have hc : bt s (at_ + pre.length) = d + 128 := by
      have := (List.cons.inj hbd).1
      rw [show ((at_.toNat + pre.length : Nat) : Int) = at_ + pre.length by omega] at this
      exact this.symm
    have hr2 : (bytesOf s).drop (at_.toNat + (pre ++ [d]).length) = encD (e :: post) ++ rest := by
      rw [List.length_append, List.length_singleton, ← Nat.add_assoc]
      exact (List.cons.inj hbd).2.symm
    have hpre : okD pre := fun x hx => hok x (by simp [hx])
    have he : pre ++ d :: e :: post = (pre ++ [d]) ++ e :: post := by simp
    rw [rv_step s hs at_ h0 pre.length pre k rfl hpre (by omega) hlt (d + 128) hc, if_neg (by omega), show (d + 128) % 128 = d by omega]
    have hln : (pre ++ [d]).length = pre.length + 1 := by simp
    have := rv_go s hs at_ h0 post (pre ++ [d]) e k (he ▸ hok) (by rw [hln]; omega) ⟨rest, hr2⟩ (he ▸ hv) (by rw [hln]; omega) (by rw [← he, hln]; omega) (by omega)
    rw [hln, ← he] at this
    rw [show ((pre.length + 1 : Nat) : Int) = (pre.length : Int) + 1 by omega] at this
    rw [this]
    congr 2
    push_cast
    congr 1
    omega
theorem rv_says (s : ByteArray) (hs : s.size ≤ 1048576) (at_ : Nat) (n : Int) (h0 : 0 ≤ n) (h1 : n ≤ 1000000000) (rest : List Int) (hr : (bytesOf s).drop at_ = vtL 5 n ++ rest) (hat : at_ + (vtL 5 n).length ≤ s.size) (k : Nat) (hk : 40 ≤ k) :
    impl_ReadVar.f k s at_ = some (n, (at_ : Int) + (vtL 5 n).length, true) := by
  obtain ⟨ds, h2, h3, h4, h5⟩ := vt_digits 5 n h0 (by omega)
  have hlen : (vtL 5 n).length = ds.length := by rw [h4, encD_length]
  have hle : (vtL 5 n).length ≤ 5 := by
    have hx : ∀ m : Int, 0 ≤ m → m ≤ 1000000000 → (vtL 5 m).length ≤ 5 := fun m a b => by
      simp only [vtL]
      repeat (first | (split <;> simp <;> done) | split | (simp; omega) | simp)
      all_goals omega
    exact hx n h0 h1
  cases ds with
  | nil => exact absurd rfl h3
  | cons d post =>
    simp only [List.length_cons] at hlen
    unfold impl_ReadVar.f impl_within.f
    rw [if_pos (by omega), decide_eq_true (show (at_ : Int) ≤ (s.size : Int) by omega), Option.bind_some, if_pos rfl]
    have := rv_go s hs at_ (by omega) post [] d k h2 (by simp; omega) ⟨rest, by rw [← h4]; simpa using hr⟩ (by simpa [h5] using h1) (by simp; omega) (by rw [List.nil_append, h5, hlen]; simp; omega) (by omega)
    simp only [List.nil_append, List.length_nil] at this
    rw [h5] at this
    rw [show ((0 : Nat) : Int) = 0 from rfl, show valD [] = 0 from rfl] at this
    rw [this]
    congr 2
    congr 1
    rw [hlen]; push_cast; omega
/-! #### Hex and back -/
theorem fig_back (b : Int) (h0 : 0 ≤ b) (h1 : b < 256) : (hv (bt figs (b / 16)) = b / 16 ∧ hv (bt figs (b % 16)) = b % 16) ∧ (0 ≤ bt figs (b / 16) ∧ bt figs (b / 16) < 256) ∧ 0 ≤ bt figs (b % 16) ∧ bt figs (b % 16) < 256 := by
  have key : ∀ n : Fin 256, (hv (bt figs ((n.val : Int) / 16)) = (n.val : Int) / 16 ∧ hv (bt figs ((n.val : Int) % 16)) = (n.val : Int) % 16) ∧ (0 ≤ bt figs ((n.val : Int) / 16) ∧ bt figs ((n.val : Int) / 16) < 256) ∧ 0 ≤ bt figs ((n.val : Int) % 16) ∧ bt figs ((n.val : Int) % 16) < 256 := by decide +kernel
  have := key ⟨b.toNat, by omega⟩
  rw [show (((⟨b.toNat, by omega⟩ : Fin 256).val : Nat) : Int) = b by show ((b.toNat : Nat) : Int) = b; omega] at this
  exact this
theorem unhex_hex : ∀ (l : List Int), (∀ d ∈ l, 0 ≤ d ∧ d < 256) → unhexL (hexL l) = some l ∧ ∀ d ∈ hexL l, 0 ≤ d ∧ d < 256
  | [], _ => ⟨rfl, fun d hd => by simp [hexL] at hd⟩
  | b :: l, h => by
    obtain ⟨i1, i2⟩ := unhex_hex l (fun d hd => h d (by simp [hd]))
    obtain ⟨⟨f1, f2⟩, f3, f4⟩ := fig_back b (h b (by simp)).1 (h b (by simp)).2
    have hb := h b (by simp)
    have e : hexL (b :: l) = bt figs (b / 16) :: bt figs (b % 16) :: hexL l := by simp [hexL]
    rw [e]
    refine ⟨?_, ?_⟩
    · simp only [unhexL]
      rw [if_neg (by rw [f1, f2]; omega), i1, f1, f2, Option.map_some]
      congr 2; omega
    · intro d hd
      rcases List.mem_cons.1 hd with rfl | hd
      · exact f3
      rcases List.mem_cons.1 hd with rfl | hd
      · exact f4
      · exact i2 d hd
theorem bytes_ok (s : ByteArray) : ∀ d ∈ bytesOf s, 0 ≤ d ∧ d < 256 := by
  intro d hd
  unfold bytesOf at hd
  obtain ⟨b, _, rfl⟩ := List.mem_map.1 hd
  have := b.toNat_lt
  omega
theorem nums_bytes (s : ByteArray) : strOfNums (bytesOf s) = s := by
  have h := bytes_nums (bytesOf s) (bytes_ok s)
  have h2 := (toList_eq_iff _ _).2 h
  rw [ByteArray.toList_eq, ByteArray.toList_eq] at h2
  exact ByteArray.ext (Array.toList_inj.1 h2)
/-! #### draws -/
theorem w_next (i n : Nat) (h : i < n) (hn : n ≤ 4611686018427387904) : wrap64 ((i : Int) + 1) = ((i + 1 : Nat) : Int) := by unfold wrap64; omega
theorem and255 (x : Int) : 0 ≤ Go.bits .and .i64 x 255 ∧ Go.bits .and .i64 x 255 ≤ 255 := by
  show 0 ≤ IntKind.i64.wrap ((BitVec.ofInt 64 x &&& BitVec.ofInt 64 255).toNat : Int) ∧ IntKind.i64.wrap ((BitVec.ofInt 64 x &&& BitVec.ofInt 64 255).toNat : Int) ≤ 255
  have h : (BitVec.ofInt 64 x &&& BitVec.ofInt 64 255).toNat ≤ 255 := by
    rw [BitVec.toNat_and]
    have e : (BitVec.ofInt 64 255).toNat = 255 := by decide
    rw [e]; exact Nat.and_le_right
  obtain ⟨v, hv⟩ : ∃ v, v = (BitVec.ofInt 64 x &&& BitVec.ofInt 64 255).toNat := ⟨_, rfl⟩
  rw [← hv] at h ⊢
  simp only [IntKind.wrap, IntKind.bits, IntKind.signed]
  simp; omega
theorem byte_tells (b : List Int) (i h : Int) (h0 : 0 ≤ i) (h1 : i ≤ b.length) (hl : b.length ≤ 1048576) : ∃ r i' h', spec_l01Byte.f b i h = some (r, i', h') ∧ 0 ≤ r ∧ r ≤ 255 ∧ 0 ≤ i' ∧ i' ≤ b.length := by
  unfold spec_l01Byte.f
  by_cases c : i < (b.length : Int)
  · rw [if_pos c, if_pos h0]
    have := and255 (wrap64 ((Go.bits .and .i64 (Go.bits .xor .i64 ((wrap64 ((wrap64 (h * 6364136223846793005)) + 1442695040888963407)) / 8589934592) ((wrap64 ((wrap64 (h * 6364136223846793005)) + 1442695040888963407)) / 35184372088832)) 255) + (wrap64 (rd b i))))
    exact ⟨_, _, _, rfl, this.1, this.2, by unfold wrap64; omega, by unfold wrap64; omega⟩
  · rw [if_neg c]
    have := and255 (Go.bits .xor .i64 ((wrap64 ((wrap64 (h * 6364136223846793005)) + 1442695040888963407)) / 8589934592) ((wrap64 ((wrap64 (h * 6364136223846793005)) + 1442695040888963407)) / 35184372088832))
    exact ⟨_, _, _, rfl, this.1, this.2, h0, h1⟩
theorem below_tells (b : List Int) (i h n : Int) (h0 : 0 ≤ i) (h1 : i ≤ b.length) (hl : b.length ≤ 1048576) (hn : 0 < n) (hn2 : n ≤ 256) : ∃ r i' h', spec_l01Below.f b i h n = some (r, i', h') ∧ 0 ≤ r ∧ r < n ∧ 0 ≤ i' ∧ i' ≤ b.length := by
  obtain ⟨r, i', h', e, a1, a2, a3, a4⟩ := byte_tells b i h h0 h1 hl
  unfold spec_l01Below.f
  rw [if_neg (by omega), if_pos hn2, e, Option.bind_some]
  simp only
  rw [if_neg (by omega)]
  refine ⟨_, _, _, rfl, ?_, ?_, a3, a4⟩
  · rw [Int.tmod_eq_emod_of_nonneg a1]; exact Int.emod_nonneg _ (by omega)
  · rw [Int.tmod_eq_emod_of_nonneg a1]; exact Int.emod_lt_of_pos _ hn
theorem new_ev (b : List Int) (hl : b.length ≤ 1048576) (d : Nat) : ∀ (h : Int) (i : Nat), i ≤ b.length → b.length - i = d → ∃ r, Ev (fun k => spec_l01New.l0 k b h i) (b, 0, r) := by
  induction d with
  | zero =>
    intro h i hi hd
    refine ⟨h, Ev.step (f := fun _ => some (b, 0, h)) (fun k => ?_) (Ev.now _)⟩
    simp only [spec_l01New.l0]
    rw [if_neg (by omega)]
  | succ d ih =>
    intro h i hi hd
    by_cases c : i < 4000
    · obtain ⟨r, hr⟩ := ih (Go.bits .and .i64 (wrap64 ((wrap64 ((wrap64 (h * 131)) + (wrap64 (rd b i)))) + 7)) 1073741823) (i + 1) (by omega) (by omega)
      refine ⟨r, Ev.step (fun k => ?_) hr⟩
      simp only [spec_l01New.l0]
      rw [if_pos (by omega), if_pos (by omega), if_pos (by omega), w_next i 4000 c (by omega)]
    · refine ⟨h, Ev.step (f := fun _ => some (b, 0, h)) (fun k => ?_) (Ev.now _)⟩
      simp only [spec_l01New.l0]
      rw [if_pos (by omega), if_neg (by omega)]
theorem long_ev (n : Nat) (hn : n ≤ 30000) (c : Int) : ∃ s : ByteArray, s.size = n ∧ Ev (fun k => spec_l01Long.f k n c) s := by
  have hl : ∀ (d i : Nat) (xs : List Int), i ≤ n → n - i = d → xs.length = n → ∃ s : ByteArray, s.size = n ∧ Ev (fun k => spec_l01Long.l0 k n c xs i) s := by
    intro d
    induction d with
    | zero =>
      intro i xs hi hd hx
      refine ⟨strOfNums xs, ?_, Ev.step (f := fun _ => some (strOfNums xs)) (fun k => ?_) (Ev.now _)⟩
      · rw [← hx]; exact strOfNums_size xs
      · simp only [spec_l01Long.l0]
        rw [if_neg (by omega)]
    | succ d ih =>
      intro i xs hi hd hx
      obtain ⟨s, h1, h2⟩ := ih (i + 1) (xs.set i c) (by omega) (by omega) (by rw [List.length_set]; exact hx)
      refine ⟨s, h1, Ev.step (fun k => ?_) h2⟩
      simp only [spec_l01Long.l0]
      rw [if_pos (by omega), if_pos (by omega), if_pos (by omega), w_next i 30000 (by omega) (by omega), Int.toNat_natCast]
  obtain ⟨s, h1, h2⟩ := hl n 0 (List.replicate n 0) (by omega) rfl (by simp)
  refine ⟨s, h1, ?_⟩
  unfold spec_l01Long.f
  refine Ev.pos (by omega) (Ev.pos (by rw [Int.toNat_natCast]; omega) ?_)
  rw [Int.toNat_natCast]
  exact h2
theorem big_tells (b : List Int) (i h n : Int) (h0 : 0 ≤ i) (h1 : i ≤ b.length) (hl : b.length ≤ 1048576) (hn : 256 < n) : ∃ r i' h', spec_l01Below.f b i h n = some (r, i', h') ∧ 0 ≤ i' ∧ i' ≤ b.length := by
  obtain ⟨r1, i1, g1, e1, _, _, a3, a4⟩ := byte_tells b i h h0 h1 hl
  obtain ⟨r2, i2, g2, e2, _, _, b3, b4⟩ := byte_tells b i1 g1 a3 a4 hl
  obtain ⟨r3, i3, g3, e3, _, _, c3, c4⟩ := byte_tells b i2 g2 b3 b4 hl
  obtain ⟨r4, i4, g4, e4, _, _, d3, d4⟩ := byte_tells b i3 g3 c3 c4 hl
  unfold spec_l01Below.f
  rw [if_neg (by omega), if_neg (by omega), e1, Option.bind_some]
  simp only
  rw [e2, Option.bind_some]
  simp only
  rw [e3, Option.bind_some]
  simp only
  rw [e4, Option.bind_some]
  simp only
  rw [if_neg (by omega)]
  exact ⟨_, _, _, rfl, d3, d4⟩
theorem number_tells (b : List Int) (h : Int) (hl : b.length ≤ 1048576) : ∃ r i' h', spec_l01Number.f b 0 h = some (r, i', h') := by
  obtain ⟨q, i, g, e, a1, a2, a3, a4⟩ := below_tells b 0 h 4 (by omega) (by omega) hl (by omega) (by omega)
  unfold spec_l01Number.f
  rw [e, Option.bind_some]
  simp only
  by_cases c0 : q = 0
  · rw [if_pos c0]
    obtain ⟨p, i2, g2, e2, b1, b2, _, _⟩ := below_tells b i g 10 a3 a4 hl (by omega) (by omega)
    have : spec_l01PickInt.f b i g ([(-1),0,127,128,16383,16384,1000000000,1000000001,9223372036854775807,(-9223372036854775808)] : List Int) = some (rd ([(-1),0,127,128,16383,16384,1000000000,1000000001,9223372036854775807,(-9223372036854775808)] : List Int) p, i2, g2) := by
      unfold spec_l01PickInt.f
      show (spec_l01Below.f b i g 10).bind _ = _
      rw [e2, Option.bind_some]
      simp only
      rw [if_pos b1]
      exact if_pos b2
    rw [this]
    exact ⟨_, _, _, rfl⟩
  · rw [if_neg c0]
    by_cases c1 : q = 1
    · rw [if_pos c1]
      obtain ⟨p, i2, g2, e2, _, _⟩ := big_tells b i g 1000000000 a3 a4 hl (by omega)
      rw [e2]
      exact ⟨_, _, _, rfl⟩
    · rw [if_neg c1]
      obtain ⟨p, i2, g2, e2, _, _⟩ := big_tells b i g 400 a3 a4 hl (by omega)
      rw [e2]
      exact ⟨_, _, _, rfl⟩
theorem vtdraw_ev (b : List Int) (hl : b.length ≤ 1048576) : ∃ n, Ev (fun k => spec_DrawVarText.f k b) n := by
  obtain ⟨h, hn⟩ := new_ev b hl _ (wrap64 (95101 + (b.length : Int))) 0 (by omega) rfl
  obtain ⟨r, i', h', e⟩ := number_tells b h hl
  refine ⟨r, ?_⟩
  unfold spec_DrawVarText.f
  refine Ev.bind (f := fun _ bt141 => (spec_l01Number.f bt141.1 bt141.2.1 bt141.2.2).bind fun bt145 => some bt145.1) (show Ev (fun k => spec_l01New.f k b) (b, 0, h) from hn) ?_
  simp only [e, Option.bind_some]
  exact Ev.now _
theorem text_ev (b : List Int) (hl : b.length ≤ 1048576) (n : Nat) (hn : n ≤ 300) : ∀ (i h : Int), 0 ≤ i → i ≤ b.length → ∃ t i' h', Ev (fun k => spec_l01Text.f k b i h n) (t, i', h') := by
  have hloop : ∀ (d j : Nat) (xs : List Int) (i h : Int), j + d = n → xs.length = j → 0 ≤ i → i ≤ b.length → ∃ t i' h', Ev (fun k => spec_l01Text.l0 k n xs j b i h) (t, i', h') := by
    intro d
    induction d with
    | zero =>
      intro j xs i h hj hx h0 h1
      refine ⟨strOfNums xs, i, h, Ev.step (f := fun _ => some (strOfNums xs, i, h)) (fun k => ?_) (Ev.now _)⟩
      simp only [spec_l01Text.l0]
      rw [if_neg (by omega)]
    | succ d ih =>
      intro j xs i h hj hx h0 h1
      obtain ⟨r, i', h', e, _, _, a3, a4⟩ := byte_tells b i h h0 h1 hl
      obtain ⟨t, i2, h2, hev⟩ := ih (j + 1) (xs ++ [r % 256]) i' h' (by omega) (by rw [List.length_append, hx]; rfl) a3 a4
      refine ⟨t, i2, h2, Ev.step (fun k => ?_) hev⟩
      simp only [spec_l01Text.l0]
      rw [if_pos (by omega), e, Option.bind_some]
      simp only
      rw [if_pos (by omega), w_next j n (by omega) (by omega)]
  intro i h h0 h1
  obtain ⟨t, i', h', hev⟩ := hloop n 0 [] i h (by omega) rfl h0 h1
  refine ⟨t, i', h', ?_⟩
  unfold spec_l01Text.f
  refine Ev.neg (by omega) ?_
  exact Ev.step (f := fun k => spec_l01Text.l0 k n [] 0 b i h) (fun k => by simp only [spec_l01Text.j0]) hev
theorem hexdraw_ev (b : List Int) (hl : b.length ≤ 1048576) : ∃ t, Ev (fun k => spec_DrawHex.f k b) t := by
  obtain ⟨h, hn⟩ := new_ev b hl _ (wrap64 (95101 + (b.length : Int))) 0 (by omega) rfl
  obtain ⟨r, i, g, e, a1, a2, a3, a4⟩ := below_tells b 0 h 60 (by omega) (by omega) hl (by omega) (by omega)
  have ho : spec_l01Once.f b 0 h 60 = some (r == 0, i, g) := by unfold spec_l01Once.f; rw [e]; rfl
  unfold spec_DrawHex.f
  by_cases c : (r == 0) = true
  · obtain ⟨q, i2, g2, e2, b1, b2, _, _⟩ := below_tells b i g 2 a3 a4 hl (by omega) (by omega)
    obtain ⟨n, hn2⟩ : ∃ n : Nat, wrap64 (20000 + q) = n := ⟨(20000 + q).toNat, by unfold wrap64; omega⟩
    have hn' : n ≤ 30000 := by unfold wrap64 at hn2; omega
    obtain ⟨s, _, y⟩ := long_ev n hn' 200
    refine ⟨s, Ev.bind (f := fun k bt174 => (spec_l01Once.f bt174.1 bt174.2.1 bt174.2.2 60).bind fun bt178 => (if bt178.1 = true then ((spec_l01Below.f bt174.1 bt178.2.1 bt178.2.2 2).bind fun bt181 => ((spec_l01Long.f k (wrap64 (20000 + bt181.1)) 200).bind fun t184 => (some t184))) else ((spec_l01Below.f bt174.1 bt178.2.1 bt178.2.2 30).bind fun bt185 => ((spec_l01Text.f k bt174.1 bt185.2.1 bt185.2.2 bt185.1).bind fun bt188 => (some bt188.1))))) (show Ev (fun k => spec_l01New.f k b) (b, 0, h) from hn) ?_⟩
    simp only [ho, Option.bind_some]
    rw [c]
    simp only [if_true, e2, Option.bind_some, hn2]
    exact Ev.bind (f := fun _ t184 => some t184) y (Ev.now _)
  · obtain ⟨q, i2, g2, e2, b1, b2, b3, b4⟩ := below_tells b i g 30 a3 a4 hl (by omega) (by omega)
    obtain ⟨n, hn2⟩ : ∃ n : Nat, q = n := ⟨q.toNat, by omega⟩
    subst hn2
    obtain ⟨t, i3, g3, y⟩ := text_ev b hl n (by omega) i2 g2 b3 b4
    refine ⟨t, Ev.bind (f := fun k bt174 => (spec_l01Once.f bt174.1 bt174.2.1 bt174.2.2 60).bind fun bt178 => (if bt178.1 = true then ((spec_l01Below.f bt174.1 bt178.2.1 bt178.2.2 2).bind fun bt181 => ((spec_l01Long.f k (wrap64 (20000 + bt181.1)) 200).bind fun t184 => (some t184))) else ((spec_l01Below.f bt174.1 bt178.2.1 bt178.2.2 30).bind fun bt185 => ((spec_l01Text.f k bt174.1 bt185.2.1 bt185.2.2 bt185.1).bind fun bt188 => (some bt188.1))))) (show Ev (fun k => spec_l01New.f k b) (b, 0, h) from hn) ?_⟩
    simp only [ho, Option.bind_some]
    rw [show (r == 0) = false by simpa using c]
    simp only [Bool.false_eq_true, if_false, e2, Option.bind_some]
    exact Ev.bind (f := fun _ bt188 => some bt188.1) y (Ev.now _)
/-! #### FnNumbers -/
theorem bytes_join (a b : ByteArray) : bytesOf (a ++ b) = bytesOf a ++ bytesOf b := by
  unfold bytesOf
  rw [ByteArray.data_append, Array.toList_append, List.map_append]
theorem vt_len (m : Int) (a : 0 ≤ m) (b : m ≤ 1000000000) : (vtL 5 m).length ≤ 6 := vtL_length 5 m
theorem j2_ev (n : Int) (s : ByteArray) (t : ByteArray) (ht : t.size ≤ 300) : Ev (fun k => @laws_FnNumbers.j2 i_it d_rd i_hex i_unhex k n s true n (wrap64 ((s.size : Int) + 1)) true n true t) true := by
  refine Ev.of (fun k => ?_) (k := 60) ?_
  · exact (@laws_FnNumbers.mono_l i_it d_rd i_hex i_unhex k).2.2 _ _ _ _ _ _ _ _ _
  · have hL := vt_len (t.size : Int) (by omega) (by omega)
    have hn := bytes_nums (vtL 5 (t.size : Int)) (vtL_bytes 5 _ (by omega))
    have hsz : (strOfNums (vtL 5 (t.size : Int))).size = (vtL 5 (t.size : Int)).length := strOfNums_size _
    have e1 : impl_ShortText.f 59 t = some (strOfNums (vtL 5 (t.size : Int)) ++ t, true) := by
      unfold impl_ShortText.f
      rw [if_neg (by omega), vt_says (t.size : Int) (by omega) (by omega) 59 (by omega), Option.bind_some, if_pos (by simp only; omega)]
    have hasz : (strOfNums (vtL 5 (t.size : Int)) ++ t).size = (vtL 5 (t.size : Int)).length + t.size := by rw [ByteArray.size_append, hsz]
    have e2 : impl_ReadVar.f 59 (strOfNums (vtL 5 (t.size : Int)) ++ t) ((0 : Nat) : Int) = some ((t.size : Int), ((0 : Nat) : Int) + (vtL 5 (t.size : Int)).length, true) :=
      rv_says _ (by omega) 0 _ (by omega) (by omega) (bytesOf t) (by rw [List.drop_zero, bytes_join, hn]) (by omega) 59 (by omega)
    have hx : (strOfNums (vtL 5 (t.size : Int)) ++ t).extract (vtL 5 (t.size : Int)).length ((vtL 5 (t.size : Int)).length + t.size) = t := by
      have h2 : bytesOf ((strOfNums (vtL 5 (t.size : Int)) ++ t).extract (vtL 5 (t.size : Int)).length ((vtL 5 (t.size : Int)).length + t.size)) = bytesOf t := by
        rw [bytes_extract, bytes_join, hn, List.drop_left, Nat.add_sub_cancel_left]
        exact List.take_of_length_le (by rw [bytesOf_length]; omega)
      have h3 := (toList_eq_iff _ _).2 h2
      rw [ByteArray.toList_eq, ByteArray.toList_eq] at h3
      exact ByteArray.ext (Array.toList_inj.1 h3)
    generalize hLL : (vtL 5 (t.size : Int)).length = L at *
    generalize hA : strOfNums (vtL 5 (t.size : Int)) ++ t = A at *
    have w1 : Aside0 (wrap64 ((A.size : Int) - (((0 : Nat) : Int) + L)) = t.size) := ⟨by rw [vt_wrap (by omega) (by omega)]; omega⟩
    have w2 : Aside0 (wrap64 ((((0 : Nat) : Int) + L) + (t.size : Int)) = ((L + t.size : Nat) : Int)) := ⟨by rw [vt_wrap (by omega) (by omega)]; push_cast; omega⟩
    have e3 : impl_ReadShort.f 59 A 0 = some (t, ((L + t.size : Nat) : Int), true) := by
      unfold impl_ReadShort.f
      rw [show (0 : Int) = ((0 : Nat) : Int) from rfl, e2, Option.bind_some]
      simp only [if_true, w1.out, w2.out]
      rw [if_neg (by omega), if_neg (by omega), if_pos (by omega), if_pos (by omega), if_pos (by omega)]
      rw [show (((0 : Nat) : Int) + (L : Int)).toNat = L by omega, Int.toNat_natCast, hx]
    obtain ⟨u1, u2⟩ := unhex_hex (bytesOf t) (bytes_ok t)
    have hh := bytes_nums (hexL (bytesOf t)) u2
    have hl : (hexL (bytesOf t)).length = 2 * t.size := by rw [hexL_length, bytesOf_length]
    have e4 : hexF 59 t = some (strOfNums (hexL (bytesOf t)), true) := if_neg (by omega)
    have e5 : unhexF 59 (strOfNums (hexL (bytesOf t))) = some (t, true) := by
      unfold unhexF
      rw [strOfNums_size, hl, if_neg (by omega), hh, u1]
      show some (strOfNums (bytesOf t), true) = _
      rw [nums_bytes]
    show (impl_ShortText.f 59 t).bind _ = _
    rw [e1, Option.bind_some]
    simp only [e3, Option.bind_some]
    rw [show @fk_impl_Hex.f i_hex 59 t = hexF 59 t from rfl, e4, Option.bind_some]
    simp only
    rw [show @fk_impl_Unhex.f i_unhex 59 (strOfNums (hexL (bytesOf t))) = unhexF 59 (strOfNums (hexL (bytesOf t))) from rfl, e5, Option.bind_some]
    simp only [if_true]
    rw [if_pos (by omega)]
    simp
theorem j1_ev (b : List Int) (hl : b.length ≤ 1048576) (n : Int) (h0 : 0 ≤ n) (h1 : n ≤ 1000000000) : Ev (fun k => @laws_FnNumbers.j1 i_it i_rd i_hex i_unhex k b n) true := by
  have hL := vt_len n h0 h1
  have hn := bytes_nums (vtL 5 n) (vtL_bytes 5 _ h0)
  have hsz : (strOfNums (vtL 5 n)).size = (vtL 5 n).length := strOfNums_size _
  obtain ⟨t, hd⟩ := hexdraw_ev b hl
  have hs1 : ((⟨#[120]⟩ : ByteArray) ++ strOfNums (vtL 5 n)).size = 1 + (vtL 5 n).length := by rw [ByteArray.size_append, hsz]; rfl
  have hs2 : (((⟨#[120]⟩ : ByteArray) ++ strOfNums (vtL 5 n)) ++ (⟨#[121]⟩ : ByteArray)).size = (vtL 5 n).length + 2 := by rw [ByteArray.size_append, hs1]; show 1 + (vtL 5 n).length + 1 = _; omega
  have hv : Ev (fun k => impl_VarText.f k n) (strOfNums (vtL 5 n), true) := ⟨6, fun k hk => vt_says n h0 h1 k (by omega)⟩
  have hr : Ev (fun k => impl_ReadVar.f k (((⟨#[120]⟩ : ByteArray) ++ strOfNums (vtL 5 n)) ++ (⟨#[121]⟩ : ByteArray)) 1) (n, wrap64 (((strOfNums (vtL 5 n)).size : Int) + 1), true) := by
    refine ⟨40, fun k hk => ?_⟩
    have := rv_says (((⟨#[120]⟩ : ByteArray) ++ strOfNums (vtL 5 n)) ++ (⟨#[121]⟩ : ByteArray)) (by omega) 1 n h0 h1 (bytesOf (⟨#[121]⟩ : ByteArray)) (by
      rw [bytes_join, bytes_join, hn, List.append_assoc]; rfl) (by omega) k hk
    show impl_ReadVar.f k (((⟨#[120]⟩ : ByteArray) ++ strOfNums (vtL 5 n)) ++ (⟨#[121]⟩ : ByteArray)) ((1 : Nat) : Int) = some (n, wrap64 (((strOfNums (vtL 5 n)).size : Int) + ((1 : Nat) : Int)), true)
    rw [this, hsz, vt_wrap (i := ((vtL 5 n).length : Int) + ((1 : Nat) : Int)) (by omega) (by omega), Int.add_comm]
  have hdec : Ev (fun k => @impl_Decimal.f i_it k n) (⟨(Lib.itoa n).toArray⟩ : ByteArray) := Ev.congr (fun k => impl_dec k n (by omega) (by omega)) (Ev.now _)
  have hrd : Ev (fun k => i_rd.f k (⟨(Lib.itoa n).toArray⟩ : ByteArray)) (n, true) := by
    have hu : n = ((n.toNat : Nat) : Int) := by omega
    have hl5 := (dec_facts n.toNat (by omega)).2.2.2.2 9 (by omega)
    have hi : Lib.itoa n = Lib.decDigits n.toNat := by have h_ := itoa_nat n.toNat; rwa [Int.toNat_of_nonneg h0] at h_
    have hz : (⟨(Lib.itoa n).toArray⟩ : ByteArray).size ≤ 1048576 := by
      show (Lib.itoa n).toArray.size ≤ _
      rw [List.size_toArray, hi]; omega
    have hr : rdV (⟨(Lib.itoa n).toArray⟩ : ByteArray) = (n, true) := by
      unfold rdV
      show (match Lib.atoiAll (Lib.itoa n) with | .ok v => if (Lib.itoa v = Lib.itoa n ∧ 0 ≤ v) ∧ v ≤ 1000000000 then (v, true) else ((0 : Int), false) | _ => (0, false)) = _
      rw [hi, atoi_dec n.toNat (by omega)]
      show (if (Lib.itoa ((n.toNat : Nat) : Int) = Lib.decDigits n.toNat ∧ 0 ≤ ((n.toNat : Nat) : Int)) ∧ ((n.toNat : Nat) : Int) ≤ 1000000000 then (((n.toNat : Nat) : Int), true) else ((0 : Int), false)) = _
      rw [if_pos ⟨⟨itoa_nat _, by omega⟩, by omega⟩, ← hu]
    exact Ev.congr (fun k => if_pos hz) (by rw [hr]; exact Ev.now _)
  have hj2 : ∀ t : ByteArray, t.size ≤ 300 → Ev (fun k => @laws_FnNumbers.j2 i_it i_rd i_hex i_unhex k n (strOfNums (vtL 5 n)) true n (wrap64 (((strOfNums (vtL 5 n)).size : Int) + 1)) true n true t) true := fun t ht => j2_ev n (strOfNums (vtL 5 n)) t ht
  refine Ev.step (f := fun k => (impl_VarText.f k n).bind fun bt198 => (if 1 + bt198.1.size ≤ 9223372036854775807 then (if ((⟨#[120]⟩ : ByteArray) ++ bt198.1).size + 1 ≤ 9223372036854775807 then ((impl_ReadVar.f k (((⟨#[120]⟩ : ByteArray) ++ bt198.1) ++ (⟨#[121]⟩ : ByteArray)) 1).bind fun bt200 => ((@impl_Decimal.f i_it k n).bind fun t203 => ((i_rd.f k t203).bind fun bt204 => ((spec_DrawHex.f k b).bind fun t206 => (if (t206.size : Int) > 300 then (@laws_FnNumbers.j2 i_it i_rd i_hex i_unhex k n bt198.1 bt198.2 bt200.1 bt200.2.1 bt200.2.2 bt204.1 bt204.2 (⟨#[97,98,99]⟩ : ByteArray)) else (@laws_FnNumbers.j2 i_it i_rd i_hex i_unhex k n bt198.1 bt198.2 bt200.1 bt200.2.1 bt200.2.2 bt204.1 bt204.2 t206)))))) else (none)) else (none))) (fun k => by simp only [laws_FnNumbers.j1]) ?_
  refine Ev.bind hv (Ev.pos (by simp only; omega) (Ev.pos (by simp only; omega) (Ev.bind hr (Ev.bind hdec (Ev.bind hrd (Ev.bind hd ?_))))))
  by_cases c : (t.size : Int) > 300
  · exact Ev.pos c (hj2 _ (by decide))
  · exact Ev.neg c (hj2 t (by omega))
theorem law_nu (b : List Int) : Ev (fun k => @laws_FnNumbers.f i_it i_rd i_hex i_unhex k b) true := by
  unfold laws_FnNumbers.f laws_big.f
  by_cases hb : (b.length : Int) > 1048576
  · rw [decide_eq_true hb]
    exact Ev.congr (fun k => by rw [Option.bind_some, if_pos rfl]) (Ev.now _)
  · have hl : b.length ≤ 1048576 := by omega
    rw [decide_eq_false hb]
    obtain ⟨n, hn⟩ := vtdraw_ev b hl
    refine Ev.congr (fun k => by rw [Option.bind_some, if_neg (by decide)]) (Ev.bind hn ?_)
    have hj0 : ∀ c : Bool, (c = false → 0 ≤ n ∧ n ≤ 1000000000) → Ev (fun k => @laws_FnNumbers.j0 i_it i_rd i_hex i_unhex k b n c) true := by
      intro c hc
      refine Ev.step (f := fun k => if c = true then @laws_FnNumbers.j1 i_it i_rd i_hex i_unhex k b 12345 else @laws_FnNumbers.j1 i_it i_rd i_hex i_unhex k b n) (fun k => by simp only [laws_FnNumbers.j0]) ?_
      cases c with
      | true => exact Ev.pos rfl (j1_ev b hl 12345 (by omega) (by omega))
      | false => exact Ev.neg (by decide) (j1_ev b hl n (hc rfl).1 (hc rfl).2)
    by_cases c0 : n < 0
    · exact Ev.pos c0 (hj0 true (fun h => by cases h))
    · exact Ev.neg c0 (hj0 _ (fun h => by have := of_decide_eq_false h; omega))
theorem nu_walk (A : Option Addr) (c : Nat) (l : List Int) (W : World) (hC : Kd.C (Kd.int .u8) W A l.length l) (hl : l.length ≤ c) (hT : TB W) :
    Calls Tryd.prog 6 #[.slice A l.length c] W fun e w' => e = .returned (.bool true) ∧ Below W.heap.size W w' := by
  obtain ⟨k, h⟩ := Ev.rounds (law_nu l)
  exact @laws_FnNumbers.calls i_it i_rd i_hex i_unhex k A c l true W hT hC hl h
end Go.Proofs.YtbkibnjpolnajaaDoor.KNu
