/- ReadDecimal of the program and of the reference tell the same number for every text. No condition. -/
import Derived.Test.YtbkibnjpolnajaaDoorKRdx1
import Derived.Test.YtbkibnjpolnajaaDoorShelfA
import Derived.Lib.ItoaNum
import Derived.Lib.AtoiAll
import Derived.Lib.AtoiAllCases
import Derived.Lib.AppendIntMem
import Derived.Lib.AtoiErrMem
import Derived.OpenShut
set_option linter.unusedVariables false
set_option linter.unusedSimpArgs false
namespace Go.Proofs.YtbkibnjpolnajaaDoor.KRd
open Go.RowKit Go.Proofs.YtbkibnjpolnajaaDoorW.PrintWords Go.Proofs.YtbkibnjpolnajaaDoorW.PrintLast Go.Proofs.YtbkibnjpolnajaaDoorW.PrintMore
/-! #### strconv.Itoa by the shelf's contract -/
@[reducible] def i_it : fk_strconv_Itoa := ⟨fun _ n => if -9223372036854775808 ≤ n ∧ n ≤ 9223372036854775807 then some ⟨(Lib.itoa n).toArray⟩ else none, fun _ _ => LeO.refl _, fun k n r w hT h => by
  by_cases hn : -9223372036854775808 ≤ n ∧ n ≤ 9223372036854775807
  · rw [if_pos hn] at h
    cases h
    refine (Tryd.strconv_Itoa n hn.1 hn.2 w hT.1.here).mono ?_
    rintro e w' ⟨rfl, k, os, rfl⟩
    refine ⟨rfl, ?_⟩
    exact Lib.below_grow w.heap.size w (Nat.le_refl _) k os
  · rw [if_neg hn] at h
    cases h⟩
@[reducible] def d_rd : fk_impl_ReadDecimal := ⟨fun _ _ => none, fun _ _ => LeO.none _, by intros; contradiction⟩
/-! #### the reference's figures -/
theorem Ev.pos {α : Type} {c : Prop} [Decidable c] {g f : Nat → Option α} {r : α} (h : c) (k : Ev g r) : Ev (fun n => if c then g n else f n) r := Ev.congr (fun _ => if_pos h) k
theorem Ev.neg {α : Type} {c : Prop} [Decidable c] {g f : Nat → Option α} {r : α} (h : ¬c) (k : Ev f r) : Ev (fun n => if c then g n else f n) r := Ev.congr (fun _ => if_neg h) k
def dg0 (u : Nat) : List UInt8 := if u = 0 then [] else Lib.decDigits u
theorem dg0_step (u : Nat) (h : 0 < u) : dg0 u = dg0 (u / 10) ++ [UInt8.ofNat (48 + u % 10)] := by
  unfold dg0
  rw [if_neg (by omega), Lib.decDigits]
  by_cases h10 : u < 10
  · rw [dif_pos h10, if_pos (by omega), show u % 10 = u by omega]; rfl
  · rw [dif_neg h10, if_neg (by omega)]
theorem push_fig (d : Nat) (hd : d < 10) (L : List UInt8) : strOfNums [((48 + d : Nat) : Int)] ++ (⟨L.toArray⟩ : ByteArray) = ⟨(UInt8.ofNat (48 + d) :: L).toArray⟩ := by
  apply ByteArray.ext
  rw [ByteArray.data_append]
  apply Array.toList_inj.1
  rw [Array.toList_append]
  have : d = 0 ∨ d = 1 ∨ d = 2 ∨ d = 3 ∨ d = 4 ∨ d = 5 ∨ d = 6 ∨ d = 7 ∨ d = 8 ∨ d = 9 := by omega
  rcases this with rfl | rfl | rfl | rfl | rfl | rfl | rfl | rfl | rfl | rfl <;> rfl
theorem fig_ok (d : Nat) (hd : d < 10) : spec_l01Figure.f (d : Int) = some ((48 + d : Nat) : Int) := by
  unfold spec_l01Figure.f
  rw [if_pos (by omega)]
  congr 1
  unfold wrap64
  omega
theorem dec_loop (b : Bool) (m : Nat) : ∀ (n : Int) (L : List UInt8), -9223372036854775808 ≤ n → n ≤ 9223372036854775807 → n.natAbs < 10 ^ m → L.length + m ≤ 100 →
    Ev (fun k => spec_Decimal.l0 k n b ⟨L.toArray⟩) (⟨((if b then [45] else []) ++ (dg0 n.natAbs ++ L)).toArray⟩ : ByteArray) := by
  induction m with
  | zero =>
    intro n L h0 h1 hm hl
    have hn : n = 0 := by omega
    subst hn
    cases b with
    | false =>
      refine Ev.step (f := fun _ => some (⟨L.toArray⟩ : ByteArray)) (fun k => ?_) (Ev.now _)
      simp only [spec_Decimal.l0, if_true, Bool.false_eq_true, if_false]
    | true =>
      refine Ev.step (f := fun _ => some ((⟨#[45]⟩ : ByteArray) ++ (⟨L.toArray⟩ : ByteArray))) (fun k => ?_) ?_
      · simp only [spec_Decimal.l0, if_true]
        rw [if_pos (by show 1 + L.toArray.size ≤ _; rw [List.size_toArray]; omega)]
      · rw [show ((⟨#[45]⟩ : ByteArray) ++ (⟨L.toArray⟩ : ByteArray)) = (⟨((if true then [45] else []) ++ (dg0 (0 : Int).natAbs ++ L)).toArray⟩ : ByteArray) by
          apply ByteArray.ext; rw [ByteArray.data_append]; apply Array.toList_inj.1; rw [Array.toList_append]; rfl]
        exact Ev.now _
  | succ m ih =>
    intro n L h0 h1 hm hl
    by_cases hn : n = 0
    · subst hn
      cases b with
      | false =>
        refine Ev.step (f := fun _ => some (⟨L.toArray⟩ : ByteArray)) (fun k => ?_) (Ev.now _)
        simp only [spec_Decimal.l0, if_true, Bool.false_eq_true, if_false]
      | true =>
        refine Ev.step (f := fun _ => some ((⟨#[45]⟩ : ByteArray) ++ (⟨L.toArray⟩ : ByteArray))) (fun k => ?_) ?_
        · simp only [spec_Decimal.l0, if_true]
          rw [if_pos (by show 1 + L.toArray.size ≤ _; rw [List.size_toArray]; omega)]
        · rw [show ((⟨#[45]⟩ : ByteArray) ++ (⟨L.toArray⟩ : ByteArray)) = (⟨((if true then [45] else []) ++ (dg0 (0 : Int).natAbs ++ L)).toArray⟩ : ByteArray) by
            apply ByteArray.ext; rw [ByteArray.data_append]; apply Array.toList_inj.1; rw [Array.toList_append]; rfl]
          exact Ev.now _
    · have hqa : (Int.tdiv n 10).natAbs = n.natAbs / 10 := Int.natAbs_tdiv n 10
      have hma : (Int.tmod n 10).natAbs = n.natAbs % 10 := Int.natAbs_tmod n 10
      have hqb : -1000000000000000000 ≤ Int.tdiv n 10 ∧ Int.tdiv n 10 ≤ 1000000000000000000 := by
        generalize Int.tdiv n 10 = q at hqa
        omega
      have hq : wrap64 (Int.tdiv n 10) = Int.tdiv n 10 := by
        generalize Int.tdiv n 10 = q at hqb
        unfold wrap64; omega
      have hlt : n.natAbs / 10 < 10 ^ m := by rw [Nat.pow_succ] at hm; omega
      have hd : n.natAbs % 10 < 10 := Nat.mod_lt _ (by omega)
      have hres : dg0 n.natAbs ++ L = dg0 (Int.tdiv n 10).natAbs ++ (UInt8.ofNat (48 + n.natAbs % 10) :: L) := by
        rw [hqa, dg0_step n.natAbs (by omega), List.append_assoc]; rfl
      have hnext := ih (Int.tdiv n 10) (UInt8.ofNat (48 + n.natAbs % 10) :: L) (by have := hqb.1; omega) (by have := hqb.2; omega) (by rw [hqa]; exact hlt) (by rw [List.length_cons]; omega)
      rw [hres]
      refine Ev.step (fun k => ?_) hnext
      have hsz : (strOfNums [((48 + n.natAbs % 10 : Nat) : Int)]).size + (⟨L.toArray⟩ : ByteArray).size ≤ 9223372036854775807 := by
        show 1 + L.toArray.size ≤ _
        rw [List.size_toArray]; omega
      by_cases hneg : Int.tmod n 10 < 0
      · have e1 : wrap64 (-(Int.tmod n 10)) = ((n.natAbs % 10 : Nat) : Int) := by
          generalize Int.tmod n 10 = q at hma hneg
          unfold wrap64; omega
        simp only [spec_Decimal.l0, Option.bind_some]
        rw [if_neg hn, if_pos hneg, e1, fig_ok _ hd, Option.bind_some, if_pos hsz, push_fig _ hd, hq]
      · have e1 : Int.tmod n 10 = ((n.natAbs % 10 : Nat) : Int) := by
          generalize Int.tmod n 10 = q at hma hneg
          omega
        simp only [spec_Decimal.l0, Option.bind_some]
        rw [if_neg hn, if_neg hneg, e1, fig_ok _ hd, Option.bind_some, if_pos hsz, push_fig _ hd, hq]
theorem dec_ev (n : Int) (h0 : -9223372036854775808 ≤ n) (h1 : n ≤ 9223372036854775807) : Ev (fun k => spec_Decimal.f k n) (⟨(Lib.itoa n).toArray⟩ : ByteArray) := by
  unfold spec_Decimal.f
  by_cases hn : n = 0
  · subst hn
    refine Ev.pos rfl ?_
    rw [show (⟨#[48]⟩ : ByteArray) = (⟨(Lib.itoa 0).toArray⟩ : ByteArray) by unfold Lib.itoa; rw [if_neg (by decide), Lib.decDigits]; rfl]
    exact Ev.now _
  · refine Ev.neg hn ?_
    have := dec_loop (decide (n < 0)) 20 n [] h0 h1 (by omega) (by decide)
    have e : (if decide (n < 0) = true then [45] else []) ++ (dg0 n.natAbs ++ []) = Lib.itoa n := by
      have hd : dg0 n.natAbs = Lib.decDigits n.natAbs := by unfold dg0; rw [if_neg (by omega)]
      unfold Lib.itoa
      rw [List.append_nil, hd]
      by_cases hneg : n < 0
      · rw [if_pos hneg, decide_eq_true hneg]; rfl
      · rw [if_neg hneg, decide_eq_false hneg, show n.toNat = n.natAbs by omega]; rfl
    rw [e] at this
    exact this
theorem impl_dec (k : Nat) (n : Int) (h0 : -9223372036854775808 ≤ n) (h1 : n ≤ 9223372036854775807) : @impl_Decimal.f i_it k n = some (⟨(Lib.itoa n).toArray⟩ : ByteArray) := by
  unfold impl_Decimal.f
  show ((if -9223372036854775808 ≤ n ∧ n ≤ 9223372036854775807 then some (⟨(Lib.itoa n).toArray⟩ : ByteArray) else none) : Option ByteArray).bind _ = _
  rw [if_pos ⟨h0, h1⟩]; rfl
/-! #### impl.ReadDecimal -/
def rdV (a : ByteArray) : Int × Bool := match Lib.atoiAll a.data.toList with
  | .ok v => if (Lib.itoa v = a.data.toList ∧ 0 ≤ v) ∧ v ≤ 1000000000 then (v, true) else (0, false)
  | _ => (0, false)
def rdF (_ : Nat) (a : ByteArray) : Option (Int × Bool) := if a.size ≤ 1048576 then some (rdV a) else none
section
set_option maxHeartbeats 8000000 in
set_option maxRecDepth 100000 in
theorem rd_calls (k : Nat) (a : ByteArray) (r1 : Int) (r2 : Bool) (w : World) (hT : TB w) (h : rdF k a = some (r1, r2)) :
    Calls Tryd.prog 15 #[.string a] w fun e w' => e = .returned (.tuple #[.int .i64 r1, .bool r2]) ∧ Below w.heap.size w w' := by
  unfold rdF at h
  by_cases hsz : a.size ≤ 1048576
  · rw [if_pos hsz] at h
    have h := Option.some.inj h
    unfold rdV at h
    have HT := Aside0.mk hT
    have HB := Aside0.mk (Below.refl w.heap.size w)
    clear hT
    cases hv : Lib.atoiAll a.data.toList with
    | ok v =>
      rw [hv] at h
      change (if (Lib.itoa v = a.data.toList ∧ 0 ≤ v) ∧ v ≤ 1000000000 then (v, true) else ((0 : Int), false)) = (r1, r2) at h
      have hbd := Lib.atoiAll_bounds hv
      obtain ⟨t, ht⟩ : ∃ t : ByteArray, t = ⟨(Lib.itoa v).toArray⟩ := ⟨_, rfl⟩
      have hd : @impl_Decimal.f i_it k v = some t := by rw [ht]; exact impl_dec k v hbd.1 hbd.2
      have htl : t.toList = Lib.itoa v := by rw [ht, ByteArray.toList_eq]
      have hal : a.toList = a.data.toList := ByteArray.toList_eq _
      have HV := Aside0.mk hv
      have HD := Aside0.mk hd
      have HM := Aside0.mk (show a.size ≤ 9223372036854775806 by omega)
      clear hv hd hsz hbd ht
      have h := Aside0.mk h
      by_cases q : t.toList = a.toList
      · have q1 : (t.toList == a.toList) = true := by rw [q]; simp
        have q2 : (t.toList != a.toList) = false := by rw [q]; simp
        by_cases p : 0 ≤ v
        · by_cases p2 : v ≤ 1000000000
          · have hw : impl_within.f v 0 1000000000 = some true := by unfold impl_within.f; rw [if_pos p, decide_eq_true p2]
            have hh := h.out
            rw [if_pos ⟨⟨by rw [← htl, ← hal, q], p⟩, p2⟩] at hh
            obtain ⟨rfl, rfl⟩ := Prod.mk.inj hh
            have HW := Aside0.mk hw
            clear hw hh htl hal q
            go_enter Tryd.func15, Tryd.ntmps15
            go_wp2_with (first
              | (go_at_call 30; refine (Tryd.strconv_Atoi_ok a HM.out v HV.out _).mono ?_; rintro e w2 ⟨rfl, hw2⟩; have hb : Below w.heap.size w w2 := (by rcases hw2 with rfl | ⟨t, rfl⟩; exact Below.refl _ _; exact Lib.bytesWorld_below _ _ _); have q_ := Aside0.mk (below_step HB.out hb); clear HB; have HB := q_; clear q_ hb hw2)
              | (go_at_call 8; refine (@impl_Decimal.calls i_it d_rd k v t _ (tab_at HT.out HB.out) HD.out).mono ?_; rintro e w3 ⟨rfl, hb⟩; have q_ := Aside0.mk (below_step HB.out hb); clear HB; have HB := q_; clear q_ hb)
              | (go_at_call 27; refine (@impl_within.calls i_it d_rd v 0 1000000000 true _ HW.out).mono ?_; rintro e w4 ⟨rfl, hd⟩; have hb := hd.below; have q_ := Aside0.mk (below_step HB.out hb); clear HB; have HB := q_; clear q_ hb hd))
            go_ret2
            exact ⟨rfl, HB.out⟩
          · have hw : impl_within.f v 0 1000000000 = some false := by unfold impl_within.f; rw [if_pos p, decide_eq_false p2]
            have hh := h.out
            rw [if_neg (fun z => p2 z.2)] at hh
            obtain ⟨rfl, rfl⟩ := Prod.mk.inj hh
            have HW := Aside0.mk hw
            clear hw hh htl hal q
            go_enter Tryd.func15, Tryd.ntmps15
            go_wp2_with (first
              | (go_at_call 30; refine (Tryd.strconv_Atoi_ok a HM.out v HV.out _).mono ?_; rintro e w2 ⟨rfl, hw2⟩; have hb : Below w.heap.size w w2 := (by rcases hw2 with rfl | ⟨t, rfl⟩; exact Below.refl _ _; exact Lib.bytesWorld_below _ _ _); have q_ := Aside0.mk (below_step HB.out hb); clear HB; have HB := q_; clear q_ hb hw2)
              | (go_at_call 8; refine (@impl_Decimal.calls i_it d_rd k v t _ (tab_at HT.out HB.out) HD.out).mono ?_; rintro e w3 ⟨rfl, hb⟩; have q_ := Aside0.mk (below_step HB.out hb); clear HB; have HB := q_; clear q_ hb)
              | (go_at_call 27; refine (@impl_within.calls i_it d_rd v 0 1000000000 false _ HW.out).mono ?_; rintro e w4 ⟨rfl, hd⟩; have hb := hd.below; have q_ := Aside0.mk (below_step HB.out hb); clear HB; have HB := q_; clear q_ hb hd))
            go_ret2
            exact ⟨rfl, HB.out⟩
        · have hw : impl_within.f v 0 1000000000 = some false := by unfold impl_within.f; rw [if_neg p]
          have hh := h.out
          rw [if_neg (fun z => p z.1.2)] at hh
          obtain ⟨rfl, rfl⟩ := Prod.mk.inj hh
          have HW := Aside0.mk hw
          clear hw hh htl hal q
          go_enter Tryd.func15, Tryd.ntmps15
          go_wp2_with (first
            | (go_at_call 30; refine (Tryd.strconv_Atoi_ok a HM.out v HV.out _).mono ?_; rintro e w2 ⟨rfl, hw2⟩; have hb : Below w.heap.size w w2 := (by rcases hw2 with rfl | ⟨t, rfl⟩; exact Below.refl _ _; exact Lib.bytesWorld_below _ _ _); have q_ := Aside0.mk (below_step HB.out hb); clear HB; have HB := q_; clear q_ hb hw2)
            | (go_at_call 8; refine (@impl_Decimal.calls i_it d_rd k v t _ (tab_at HT.out HB.out) HD.out).mono ?_; rintro e w3 ⟨rfl, hb⟩; have q_ := Aside0.mk (below_step HB.out hb); clear HB; have HB := q_; clear q_ hb)
            | (go_at_call 27; refine (@impl_within.calls i_it d_rd v 0 1000000000 false _ HW.out).mono ?_; rintro e w4 ⟨rfl, hd⟩; have hb := hd.below; have q_ := Aside0.mk (below_step HB.out hb); clear HB; have HB := q_; clear q_ hb hd))
          go_ret2
          exact ⟨rfl, HB.out⟩
      · have q1 : (t.toList == a.toList) = false := beq_eq_false_iff_ne.2 q
        have q2 : (t.toList != a.toList) = true := bne_iff_ne.2 q
        have hh := h.out
        rw [if_neg (fun z => q (by rw [htl, hal]; exact z.1.1))] at hh
        obtain ⟨rfl, rfl⟩ := Prod.mk.inj hh
        clear hh htl hal q
        go_enter Tryd.func15, Tryd.ntmps15
        go_wp2_with (first
          | (go_at_call 30; refine (Tryd.strconv_Atoi_ok a HM.out v HV.out _).mono ?_; rintro e w2 ⟨rfl, hw2⟩; have hb : Below w.heap.size w w2 := (by rcases hw2 with rfl | ⟨t, rfl⟩; exact Below.refl _ _; exact Lib.bytesWorld_below _ _ _); have q_ := Aside0.mk (below_step HB.out hb); clear HB; have HB := q_; clear q_ hb hw2)
          | (go_at_call 8; refine (@impl_Decimal.calls i_it d_rd k v t _ (tab_at HT.out HB.out) HD.out).mono ?_; rintro e w3 ⟨rfl, hb⟩; have q_ := Aside0.mk (below_step HB.out hb); clear HB; have HB := q_; clear q_ hb))
        go_ret2
        exact ⟨rfl, HB.out⟩
    | «syntax» =>
      rw [hv] at h
      obtain ⟨rfl, rfl⟩ := Prod.mk.inj h
      obtain ⟨tp, p, hvar⟩ := HT.out.2.1
      have HV := Aside0.mk hv
      have HM := Aside0.mk (show a.size ≤ 281474976710656 by omega)
      have HVR := Aside0.mk (hvar w (Below.refl _ _))
      clear hv hsz hvar
      go_enter Tryd.func15, Tryd.ntmps15
      go_wp2_with (go_at_call 30; refine (Tryd.strconv_Atoi_syntax_var a HM.out HV.out tp p w HVR.out).mono ?_; rintro e w2 ⟨N, rfl, _, _, hb⟩)
      go_ret2
      exact ⟨rfl, hb⟩
    | range =>
      rw [hv] at h
      obtain ⟨rfl, rfl⟩ := Prod.mk.inj h
      obtain ⟨tp, p, hvar⟩ := HT.out.2.2
      have HV := Aside0.mk hv
      have HM := Aside0.mk (show a.size ≤ 281474976710656 by omega)
      have HVR := Aside0.mk (hvar w (Below.refl _ _))
      clear hv hsz hvar
      go_enter Tryd.func15, Tryd.ntmps15
      go_wp2_with (go_at_call 30; refine (Tryd.strconv_Atoi_range_var a HM.out HV.out tp p w HVR.out).mono ?_; rintro e w2 ⟨N, rfl, _, _, hb⟩)
      go_ret2
      exact ⟨rfl, hb⟩
  · rw [if_neg hsz] at h
    cases h
end
@[reducible] def i_rd : fk_impl_ReadDecimal := ⟨rdF, fun _ _ => LeO.refl _, rd_calls⟩
/-! #### what a text of figures tells -/
def isFig (c : UInt8) : Prop := 48 ≤ c.toNat ∧ c.toNat ≤ 57
instance (c : UInt8) : Decidable (isFig c) := inferInstanceAs (Decidable (_ ∧ _))
def sp : Nat → List UInt8 → Option Nat
  | acc, [] => some acc
  | acc, c :: r => if isFig c then sp (10 * acc + (c.toNat - 48)) r else none
theorem sp_append : ∀ (l m : List UInt8) (acc : Nat), sp acc (l ++ m) = (sp acc l).bind fun v => sp v m
  | [], m, acc => rfl
  | c :: r, m, acc => by
    rw [List.cons_append, sp, sp]
    by_cases h : isFig c
    · rw [if_pos h, if_pos h, sp_append r m]
    · rw [if_neg h, if_neg h]; rfl
theorem pa_append : ∀ (l m : List UInt8) (acc : Nat), Lib.parseUint10 acc (l ++ m) = match Lib.parseUint10 acc l with | .ok v => Lib.parseUint10 v m | .«syntax» => .«syntax» | .range => .range
  | [], m, acc => rfl
  | c :: r, m, acc => by
    rw [List.cons_append]
    simp only [Lib.parseUint10]
    split
    · split
      · rfl
      · split
        · rfl
        · exact pa_append r m _
    · rfl
theorem fig_of (d : Nat) (h : d < 10) : isFig (UInt8.ofNat (48 + d)) ∧ (UInt8.ofNat (48 + d)).toNat = 48 + d := by
  have e : (UInt8.ofNat (48 + d)).toNat = 48 + d := by rw [UInt8.toNat_ofNat']; omega
  unfold isFig
  rw [e]
  exact ⟨⟨by omega, by omega⟩, rfl⟩
theorem dec_facts (u : Nat) : u ≤ 9999999999 → sp 0 (Lib.decDigits u) = some u ∧ Lib.parseUint10 0 (Lib.decDigits u) = .ok u ∧ (∀ c ∈ Lib.decDigits u, isFig c) ∧ Lib.decDigits u ≠ [] ∧ (∀ k, u < 10 ^ (k + 1) → (Lib.decDigits u).length ≤ k + 1) := by
  induction u using Nat.strongRecOn with
  | _ u ih =>
    intro hu
    by_cases h : u < 10
    · rw [Lib.decDigits, dif_pos h]
      obtain ⟨f1, f2⟩ := fig_of u h
      refine ⟨?_, ?_, ?_, by simp, fun k _ => by simp⟩
      · rw [sp, if_pos f1, f2, sp]; congr 1; omega
      · have f3 : 48 ≤ (UInt8.ofNat (48 + u)).toNat ∧ (UInt8.ofNat (48 + u)).toNat ≤ 57 := f1
        simp only [Lib.parseUint10]
        rw [if_pos f3, if_neg (by omega), f2, if_neg (by omega)]
        congr 1; omega
      · intro c hc
        rw [List.mem_singleton.1 hc]
        exact f1
    · rw [Lib.decDigits, dif_neg h]
      obtain ⟨i1, i2, i3, i4, i5⟩ := ih (u / 10) (by omega) (by omega)
      obtain ⟨f1, f2⟩ := fig_of (u % 10) (by omega)
      refine ⟨?_, ?_, ?_, by simp, ?_⟩
      · rw [sp_append, i1, Option.bind_some, sp, if_pos f1, f2, sp]; congr 1; omega
      · have f3 : 48 ≤ (UInt8.ofNat (48 + u % 10)).toNat ∧ (UInt8.ofNat (48 + u % 10)).toNat ≤ 57 := f1
        rw [pa_append, i2]
        simp only [Lib.parseUint10]
        rw [if_pos f3, if_neg (by omega), f2, if_neg (by omega)]
        congr 1; omega
      · intro c hc
        rcases List.mem_append.1 hc with hc | hc
        · exact i3 c hc
        · rw [List.mem_singleton.1 hc]; exact f1
      · intro k hk
        rw [List.length_append, List.length_singleton]
        cases k with
        | zero => simp at hk; omega
        | succ k =>
          have := i5 k (by rw [Nat.pow_succ] at hk; omega)
          omega
theorem atoi_dec (u : Nat) (hu : u ≤ 1000000000) : Lib.atoiAll (Lib.decDigits u) = .ok (u : Int) := by
  obtain ⟨_, h2, h3, h4, _⟩ := dec_facts u (by omega)
  cases hl : Lib.decDigits u with
  | nil => exact absurd hl h4
  | cons c r =>
    have hc := h3 c (by rw [hl]; simp)
    unfold isFig at hc
    rw [hl] at h2
    simp only [Lib.atoiAll]
    rw [if_neg (by omega)]
    unfold Lib.parseMag
    rw [if_neg (by simp), h2]
    show (if ¬ c.toNat = 45 ∧ 9223372036854775808 ≤ u then Lib.NumEnd.range else if c.toNat = 45 ∧ 9223372036854775808 < u then Lib.NumEnd.range else Lib.NumEnd.ok (if c.toNat = 45 then -(u : Int) else u)) = _
    rw [if_neg (by omega), if_neg (by omega), if_neg (by omega)]
theorem itoa_nat (u : Nat) : Lib.itoa (u : Int) = Lib.decDigits u := by unfold Lib.itoa; rw [if_neg (by omega)]; simp
def spV (l : List UInt8) : Int × Bool := if l.length > 10 then (0, false) else match sp 0 l with
  | none => (0, false)
  | some n => if n > 1000000000 then (0, false) else if Lib.itoa (n : Int) = l then ((n : Int), true) else (0, false)
theorem spV_rdV (a : ByteArray) : spV a.data.toList = rdV a := by
  unfold spV rdV
  generalize a.data.toList = l
  by_cases hc : ∃ u : Nat, u ≤ 1000000000 ∧ l = Lib.decDigits u
  · obtain ⟨u, hu, rfl⟩ := hc
    obtain ⟨h1, _, _, _, h5⟩ := dec_facts u (by omega)
    have := h5 9 (by omega)
    rw [if_neg (by omega), h1, atoi_dec u hu]
    show (if u > 1000000000 then ((0 : Int), false) else if Lib.itoa (u : Int) = Lib.decDigits u then ((u : Int), true) else (0, false)) = if (Lib.itoa (u : Int) = Lib.decDigits u ∧ 0 ≤ (u : Int)) ∧ (u : Int) ≤ 1000000000 then ((u : Int), true) else (0, false)
    rw [if_neg (by omega), if_pos (itoa_nat u), if_pos ⟨⟨itoa_nat u, by omega⟩, by omega⟩]
  · have e2 : (match Lib.atoiAll l with | .ok v => if (Lib.itoa v = l ∧ 0 ≤ v) ∧ v ≤ 1000000000 then (v, true) else ((0 : Int), false) | _ => (0, false)) = (0, false) := by
      cases Lib.atoiAll l with
      | ok v =>
        refine if_neg (fun z => hc ⟨v.toNat, by omega, ?_⟩)
        rw [← itoa_nat, Int.toNat_of_nonneg z.1.2]
        exact z.1.1.symm
      | «syntax» => rfl
      | range => rfl
    rw [e2]
    split
    · rfl
    · cases sp 0 l with
      | none => rfl
      | some n =>
        show (if n > 1000000000 then ((0 : Int), false) else if Lib.itoa (n : Int) = l then ((n : Int), true) else (0, false)) = _
        split
        · rfl
        · rename_i hn
          refine if_neg (fun z => hc ⟨n, by omega, ?_⟩)
          rw [← itoa_nat]; exact z.symm
/-! #### the reference -/
theorem rd_wrap {i : Int} (h0 : -9223372036854775808 ≤ i) (h1 : i ≤ 9223372036854775807) : wrap64 i = i := by unfold wrap64; omega
theorem bt_byte (t : ByteArray) (i : Nat) (h : i < t.data.toList.length) : bt t (i : Int) = ((t.data.toList[i]'h).toNat : Int) := by
  have hh : i < t.size := by rw [Array.length_toList] at h; exact h
  unfold bt
  rw [dif_pos (show (i : Int).toNat < t.size by simpa using hh)]
  simp only [Int.toNat_natCast]
  rfl
def endV (a : ByteArray) (o : Option Nat) : Int × Bool := match o with
  | none => (0, false)
  | some n => if n > 1000000000 then (0, false) else if Lib.itoa (n : Int) = a.data.toList then ((n : Int), true) else (0, false)
theorem spec_rd_l (a : ByteArray) (ha : a.data.toList.length ≤ 10) (d : Nat) : ∀ (i acc : Nat), i ≤ a.data.toList.length → a.data.toList.length - i = d → acc < 10 ^ i → Ev (fun k => spec_ReadDecimal.l0 k a acc i) (endV a (sp acc (a.data.toList.drop i))) := by
  have hs : (a.size : Nat) = a.data.toList.length := by rw [Array.length_toList]; rfl
  induction d with
  | zero =>
    intro i acc hi hd hacc
    have hp : 10 ^ i ≤ 10 ^ 10 := Nat.pow_le_pow_right (by decide) (by omega)
    have e10 : (10 : Nat) ^ 10 = 10000000000 := by decide
    rw [List.drop_eq_nil_of_le (by omega), sp]
    refine Ev.step (f := fun k => if (acc : Int) > 1000000000 then some ((0 : Int), false) else (spec_Decimal.f k (acc : Int)).bind fun t => if t.toList = a.toList then some ((acc : Int), true) else some ((0 : Int), false)) (fun k => ?_) ?_
    · simp only [spec_ReadDecimal.l0]
      rw [if_neg (by omega)]
    · unfold endV
      by_cases c : acc > 1000000000
      · simp only [if_pos c]
        exact Ev.pos (by omega) (Ev.now _)
      · simp only [if_neg c]
        refine Ev.neg (by omega) ?_
        refine Ev.bind (f := fun _ t => if t.toList = a.toList then some ((acc : Int), true) else some ((0 : Int), false)) (dec_ev (acc : Int) (by omega) (by omega)) ?_
        rw [ByteArray.toList_eq, ByteArray.toList_eq]
        by_cases q : Lib.itoa (acc : Int) = a.data.toList
        · simp only [if_pos q]
          exact Ev.now _
        · simp only [if_neg q]
          exact Ev.now _
  | succ d ih =>
    intro i acc hi hd hacc
    have hlt : i < a.data.toList.length := by omega
    have hp : 10 ^ i ≤ 10 ^ 9 := Nat.pow_le_pow_right (by decide) (by omega)
    have e9 : (10 : Nat) ^ 9 = 1000000000 := by decide
    rw [List.drop_eq_getElem_cons hlt, sp]
    have hb := bt_byte a i hlt
    generalize hcc : a.data.toList[i] = c at hb
    have hcl : c.toNat < 256 := c.toNat_lt
    refine Ev.step (f := fun k => if bt a (i : Int) < 48 then some ((0 : Int), false) else if bt a (i : Int) > 57 then some ((0 : Int), false) else spec_ReadDecimal.l0 k a (wrap64 (wrap64 (wrap64 (10 * (acc : Int)) + wrap64 (bt a (i : Int))) - 48)) ((i + 1 : Nat) : Int)) (fun k => ?_) ?_
    · simp only [spec_ReadDecimal.l0]
      have e1 : wrap64 ((i : Int) + 1) = ((i + 1 : Nat) : Int) := by rw [rd_wrap (by omega) (by omega)]; omega
      rw [if_pos (by omega), if_pos (by omega), e1]
    · by_cases q1 : c.toNat < 48
      · rw [if_neg (show ¬ isFig c by unfold isFig; omega)]
        exact Ev.pos (by omega) (Ev.now _)
      · refine Ev.neg (by omega) ?_
        by_cases q2 : c.toNat > 57
        · rw [if_neg (show ¬ isFig c by unfold isFig; omega)]
          exact Ev.pos (by omega) (Ev.now _)
        · refine Ev.neg (by omega) ?_
          rw [if_pos (show isFig c by unfold isFig; omega)]
          have e2 : wrap64 (wrap64 (wrap64 (10 * (acc : Int)) + wrap64 (bt a (i : Int))) - 48) = ((10 * acc + (c.toNat - 48) : Nat) : Int) := by
            rw [hb]
            rw [rd_wrap (i := 10 * (acc : Int)) (by omega) (by omega), rd_wrap (i := (c.toNat : Int)) (by omega) (by omega), rd_wrap (i := 10 * (acc : Int) + (c.toNat : Int)) (by omega) (by omega), rd_wrap (by omega) (by omega)]
            omega
          rw [e2]
          exact ih (i + 1) (10 * acc + (c.toNat - 48)) (by omega) (by omega) (by rw [Nat.pow_succ]; omega)
theorem spec_rd (a : ByteArray) : Ev (fun k => spec_ReadDecimal.f k a) (rdV a) := by
  have hs : (a.size : Nat) = a.data.toList.length := by rw [Array.length_toList]; rfl
  rw [← spV_rdV]
  unfold spec_ReadDecimal.f spV
  by_cases c : a.data.toList.length > 10
  · rw [if_pos c]
    exact Ev.pos (by omega) (Ev.now _)
  · rw [if_neg c]
    refine Ev.neg (by omega) ?_
    have := spec_rd_l a (by omega) _ 0 0 (by omega) rfl (by decide)
    rw [List.drop_zero] at this
    exact this
theorem law_rd (a : ByteArray) : Ev (fun k => @laws_FnExactReadDecimal.f i_rd k a) true := by
  unfold laws_FnExactReadDecimal.f
  by_cases c : (a.size : Int) > 1048576
  · exact Ev.pos c (Ev.now _)
  · refine Ev.neg c ?_
    have h2 : Ev (fun k => i_rd.f k a) (rdV a) := Ev.congr (fun k => if_pos (by omega)) (Ev.now _)
    refine Ev.bind (spec_rd a) (Ev.bind h2 ?_)
    exact Ev.pos rfl (Ev.neg (by simp) (Ev.now _))
theorem rd_walk (a : ByteArray) (w : World) (ha : a.size ≤ 140737488351232) (hT : TB w) :
    Calls Tryd.prog 5 #[.string a] w fun e w' => e = .returned (.bool true) ∧ Below w.heap.size w w' := by
  obtain ⟨k, h⟩ := Ev.rounds (law_rd a)
  exact @laws_FnExactReadDecimal.calls i_it i_rd k a true w hT h
end Go.Proofs.YtbkibnjpolnajaaDoor.KRd
