/- Decimal of the program and of the reference tell the same figures. No condition. -/
import Derived.Test.YtbkibnjpolnajaaDoorKDex1
import Derived.Test.YtbkibnjpolnajaaDoorShelf
import Derived.Lib.ItoaNum
import Derived.Lib.AppendIntMem
import Derived.OpenShut
set_option linter.unusedVariables false
set_option linter.unusedSimpArgs false
namespace Go.Proofs.YtbkibnjpolnajaaDoor.KDe
open Go.RowKit Go.Proofs.YtbkibnjpolnajaaDoorW.PrintWords Go.Proofs.YtbkibnjpolnajaaDoorW.PrintLast Go.Proofs.YtbkibnjpolnajaaDoorW.PrintMore
/-! #### strconv.Itoa by the shelf's contract -/
@[reducible] def i_it : fk_strconv_Itoa := ⟨fun _ n => if -9223372036854775808 ≤ n ∧ n ≤ 9223372036854775807 then some ⟨(Lib.itoa n).toArray⟩ else none, fun _ _ => LeO.refl _, fun k n r w hT h => by
  by_cases hn : -9223372036854775808 ≤ n ∧ n ≤ 9223372036854775807
  · rw [if_pos hn] at h
    cases h
    refine (Tryd.strconv_Itoa n hn.1 hn.2 w hT.here).mono ?_
    rintro e w' ⟨rfl, k, os, rfl⟩
    refine ⟨rfl, ?_⟩
    exact Lib.below_grow w.heap.size w (Nat.le_refl _) k os
  · rw [if_neg hn] at h
    cases h⟩
/-! #### the reference's figures -/
theorem Ev.pos {α : Type} {c : Prop} [Decidable c] {g f : Nat → Option α} {r : α} (h : c) (k : Ev g r) : Ev (fun n => if c then g n else f n) r := Ev.congr (fun _ => if_pos h) k
theorem Ev.neg {α : Type} {c : Prop} [Decidable c] {g f : Nat → Option α} {r : α} (h : ¬c) (k : Ev f r) : Ev (fun n => if c then g n else f n) r := Ev.congr (fun _ => if_neg h) k
def dg0 (u : Nat) : List UInt8 := if u = 0 then [] else Lib.decDigits u
theorem dg0_step (u : Nat) (h : 0 < u) : dg0 u = dg0 (u / 10) ++ [UInt8.ofNat (48 + u % 10)] := by
  unfold dg0
  rw [if_neg (by omega), Lib.decDigits]
  by_cases h10 : u < 10
  · rw [dif_pos h10, if_pos (by omega), show u % 10 = u by omega]; rfl
  · rw [dif_neg h10, if_neg (by omega)]
theorem push_fig (d : Nat) (hd : d < 10) (L : List UInt8) : strOfNums [((48 + d : Nat) : Int)] ++ (⟨L.toArray⟩ : ByteArray) = ⟨(UInt8.ofNat (48 + d) :: L).toArray⟩ := by
  apply ByteArray.ext
  rw [ByteArray.data_append]
  apply Array.toList_inj.1
  rw [Array.toList_append]
  have : d = 0 ∨ d = 1 ∨ d = 2 ∨ d = 3 ∨ d = 4 ∨ d = 5 ∨ d = 6 ∨ d = 7 ∨ d = 8 ∨ d = 9 := by omega
  rcases this with rfl | rfl | rfl | rfl | rfl | rfl | rfl | rfl | rfl | rfl <;> rfl
theorem fig_ok (d : Nat) (hd : d < 10) : spec_l01Figure.f (d : Int) = some ((48 + d : Nat) : Int) := by
  unfold spec_l01Figure.f
  rw [if_pos (by omega)]
  congr 1
  unfold wrap64
  omega
theorem dec_loop (b : Bool) (m : Nat) : ∀ (n : Int) (L : List UInt8), -9223372036854775808 ≤ n → n ≤ 9223372036854775807 → n.natAbs < 10 ^ m → L.length + m ≤ 100 →
    Ev (fun k => spec_Decimal.l0 k n b ⟨L.toArray⟩) (⟨((if b then [45] else []) ++ (dg0 n.natAbs ++ L)).toArray⟩ : ByteArray) := by
  induction m with
  | zero =>
    intro n L h0 h1 hm hl
    have hn : n = 0 := by omega
    subst hn
    cases b with
    | false =>
      refine Ev.step (f := fun _ => some (⟨L.toArray⟩ : ByteArray)) (fun k => ?_) (Ev.now _)
      simp only [spec_Decimal.l0, if_true, Bool.false_eq_true, if_false]
    | true =>
      refine Ev.step (f := fun _ => some ((⟨#[45]⟩ : ByteArray) ++ (⟨L.toArray⟩ : ByteArray))) (fun k => ?_) ?_
      · simp only [spec_Decimal.l0, if_true]
        rw [if_pos (by show 1 + L.toArray.size ≤ _; rw [List.size_toArray]; omega)]
      · rw [show ((⟨#[45]⟩ : ByteArray) ++ (⟨L.toArray⟩ : ByteArray)) = (⟨((if true then [45] else []) ++ (dg0 (0 : Int).natAbs ++ L)).toArray⟩ : ByteArray) by
          apply ByteArray.ext; rw [ByteArray.data_append]; apply Array.toList_inj.1; rw [Array.toList_append]; rfl]
        exact Ev.now _
  | succ m ih =>
    intro n L h0 h1 hm hl
    by_cases hn : n = 0
    · subst hn
      cases b with
      | false =>
        refine Ev.step (f := fun _ => some (⟨L.toArray⟩ : ByteArray)) (fun k => ?_) (Ev.now _)
        simp only [spec_Decimal.l0, if_true, Bool.false_eq_true, if_false]
      | true =>
        refine Ev.step (f := fun _ => some ((⟨#[45]⟩ : ByteArray) ++ (⟨L.toArray⟩ : ByteArray))) (fun k => ?_) ?_
        · simp only [spec_Decimal.l0, if_true]
          rw [if_pos (by show 1 + L.toArray.size ≤ _; rw [List.size_toArray]; omega)]
        · rw [show ((⟨#[45]⟩ : ByteArray) ++ (⟨L.toArray⟩ : ByteArray)) = (⟨((if true then [45] else []) ++ (dg0 (0 : Int).natAbs ++ L)).toArray⟩ : ByteArray) by
            apply ByteArray.ext; rw [ByteArray.data_append]; apply Array.toList_inj.1; rw [Array.toList_append]; rfl]
          exact Ev.now _
    · have hqa : (Int.tdiv n 10).natAbs = n.natAbs / 10 := Int.natAbs_tdiv n 10
      have hma : (Int.tmod n 10).natAbs = n.natAbs % 10 := Int.natAbs_tmod n 10
      have hqb : -1000000000000000000 ≤ Int.tdiv n 10 ∧ Int.tdiv n 10 ≤ 1000000000000000000 := by
        generalize Int.tdiv n 10 = q at hqa
        omega
      have hq : wrap64 (Int.tdiv n 10) = Int.tdiv n 10 := by
        generalize Int.tdiv n 10 = q at hqb
        unfold wrap64; omega
      have hlt : n.natAbs / 10 < 10 ^ m := by rw [Nat.pow_succ] at hm; omega
      have hd : n.natAbs % 10 < 10 := Nat.mod_lt _ (by omega)
      have hres : dg0 n.natAbs ++ L = dg0 (Int.tdiv n 10).natAbs ++ (UInt8.ofNat (48 + n.natAbs % 10) :: L) := by
        rw [hqa, dg0_step n.natAbs (by omega), List.append_assoc]; rfl
      have hnext := ih (Int.tdiv n 10) (UInt8.ofNat (48 + n.natAbs % 10) :: L) (by have := hqb.1; omega) (by have := hqb.2; omega) (by rw [hqa]; exact hlt) (by rw [List.length_cons]; omega)
      rw [hres]
      refine Ev.step (fun k => ?_) hnext
      have hsz : (strOfNums [((48 + n.natAbs % 10 : Nat) : Int)]).size + (⟨L.toArray⟩ : ByteArray).size ≤ 9223372036854775807 := by
        show 1 + L.toArray.size ≤ _
        rw [List.size_toArray]; omega
      by_cases hneg : Int.tmod n 10 < 0
      · have e1 : wrap64 (-(Int.tmod n 10)) = ((n.natAbs % 10 : Nat) : Int) := by
          generalize Int.tmod n 10 = q at hma hneg
          unfold wrap64; omega
        simp only [spec_Decimal.l0, Option.bind_some]
        rw [if_neg hn, if_pos hneg, e1, fig_ok _ hd, Option.bind_some, if_pos hsz, push_fig _ hd, hq]
      · have e1 : Int.tmod n 10 = ((n.natAbs % 10 : Nat) : Int) := by
          generalize Int.tmod n 10 = q at hma hneg
          omega
        simp only [spec_Decimal.l0, Option.bind_some]
        rw [if_neg hn, if_neg hneg, e1, fig_ok _ hd, Option.bind_some, if_pos hsz, push_fig _ hd, hq]
theorem dec_ev (n : Int) (h0 : -9223372036854775808 ≤ n) (h1 : n ≤ 9223372036854775807) : Ev (fun k => spec_Decimal.f k n) (⟨(Lib.itoa n).toArray⟩ : ByteArray) := by
  unfold spec_Decimal.f
  by_cases hn : n = 0
  · subst hn
    refine Ev.pos rfl ?_
    rw [show (⟨#[48]⟩ : ByteArray) = (⟨(Lib.itoa 0).toArray⟩ : ByteArray) by unfold Lib.itoa; rw [if_neg (by decide), Lib.decDigits]; rfl]
    exact Ev.now _
  · refine Ev.neg hn ?_
    have := dec_loop (decide (n < 0)) 20 n [] h0 h1 (by omega) (by decide)
    have e : (if decide (n < 0) = true then [45] else []) ++ (dg0 n.natAbs ++ []) = Lib.itoa n := by
      have hd : dg0 n.natAbs = Lib.decDigits n.natAbs := by unfold dg0; rw [if_neg (by omega)]
      unfold Lib.itoa
      rw [List.append_nil, hd]
      by_cases hneg : n < 0
      · rw [if_pos hneg, decide_eq_true hneg]; rfl
      · rw [if_neg hneg, decide_eq_false hneg, show n.toNat = n.natAbs by omega]; rfl
    rw [e] at this
    exact this
theorem impl_dec (k : Nat) (n : Int) (h0 : -9223372036854775808 ≤ n) (h1 : n ≤ 9223372036854775807) : @impl_Decimal.f i_it k n = some (⟨(Lib.itoa n).toArray⟩ : ByteArray) := by
  unfold impl_Decimal.f
  show ((if -9223372036854775808 ≤ n ∧ n ≤ 9223372036854775807 then some (⟨(Lib.itoa n).toArray⟩ : ByteArray) else none) : Option ByteArray).bind _ = _
  rw [if_pos ⟨h0, h1⟩]; rfl
theorem law_dec (n : Int) (h0 : -9223372036854775808 ≤ n) (h1 : n ≤ 9223372036854775807) : Ev (fun k => @laws_FnExactDecimal.f i_it k n) true := by
  letI := i_it
  unfold laws_FnExactDecimal.f
  refine Ev.bind (dec_ev n h0 h1) ?_
  simp only [fun k => impl_dec k n h0 h1, Option.bind_some, if_true]
  exact Ev.now _
theorem dec_walk (n : Int) (w : World) (hw : (Lit.int .i64 n).wf = true) (hT : Lib.TabBelow Tryd.prog w.heap.size w "internal/strconv.uint64pow10" .u64 Lib.pow10Tab) :
    Calls Tryd.prog 3 #[.int .i64 n] w fun e w' => e = .returned (.bool true) ∧ Below w.heap.size w w' := by
  have hb := bounds_i64 hw
  obtain ⟨k, h⟩ := Ev.rounds (law_dec n hb.1 hb.2)
  exact @laws_FnExactDecimal.calls i_it k n true w hT h
end Go.Proofs.YtbkibnjpolnajaaDoor.KDe
