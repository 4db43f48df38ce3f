/- PredOf of the program and of the reference tell the same text for every term. No condition. -/
import Derived.Test.YtojedbogbodkiaaDoorKPrx3
import Derived.Test.YtojedbogbodkiaaDoorKPrx2
import Derived.Test.YtojedbogbodkiaaDoorKPrx1
import Derived.Test.YtojedbogbodkiaaDoorShelf
import Derived.Deep.Slices
import Derived.Lib.ItoaNum
import Derived.Lib.ItoaLen
import Derived.Lib.AppendIntMem
import Derived.OpenShut
set_option linter.unusedVariables false
set_option linter.unusedSimpArgs false
namespace Go.Proofs.YtojedbogbodkiaaDoor.KPr
open Go.RowKit Go.Proofs.YtojedbogbodkiaaDoorW.PrintWords Go.Proofs.YtojedbogbodkiaaDoorW.PrintLast Go.Proofs.YtojedbogbodkiaaDoorW.PrintMore
/-! #### PredOf -/
/- Decimal of the program and of the reference tell the same figures. No condition. -/
/-! #### strconv.Itoa by the shelf's contract -/
@[reducible] def i_it : fk_strconv_Itoa := ⟨fun _ n => if -9223372036854775808 ≤ n ∧ n ≤ 9223372036854775807 then some ⟨(Lib.itoa n).toArray⟩ else none, fun _ _ => LeO.refl _, fun k n r w hT h => by
  by_cases hn : -9223372036854775808 ≤ n ∧ n ≤ 9223372036854775807
  · rw [if_pos hn] at h
    cases h
    refine (Tryd.strconv_Itoa n hn.1 hn.2 w hT.here).mono ?_
    rintro e w' ⟨rfl, k, os, rfl⟩
    refine ⟨rfl, ?_⟩
    exact Lib.below_grow w.heap.size w (Nat.le_refl _) k os
  · rw [if_neg hn] at h
    cases h⟩
/-! #### the pairs of functions that call each other: level by level -/
@[reducible] def d_sz : fk_laws_szTerm := ⟨fun _ _ _ _ _ _ => none, fun _ _ _ _ _ _ => LeO.none _, by intros; contradiction⟩
@[reducible] def d_to : fk_laws_toTerm := ⟨fun _ _ _ _ _ => none, fun _ _ _ _ _ => LeO.none _, by intros; contradiction⟩
@[reducible] def d_eq : fk_laws_eqTerm := ⟨fun _ _ _ _ _ _ _ _ _ => none, fun _ _ _ _ _ _ _ _ _ => LeO.none _, by intros; contradiction⟩
@[reducible] def i_sz : Nat → fk_laws_szTerm
  | 0 => d_sz
  | n + 1 => letI := i_sz n; letI := d_to; letI := d_eq; letI := i_it; ⟨laws_szTerm.f, laws_szTerm.mono, laws_szTerm.calls⟩
@[reducible] def i_to : Nat → fk_laws_toTerm
  | 0 => d_to
  | n + 1 => letI := i_to n; letI := d_sz; letI := d_eq; letI := i_it; ⟨laws_toTerm.f, laws_toTerm.mono, laws_toTerm.calls⟩
@[reducible] def i_eq : Nat → fk_laws_eqTerm
  | 0 => d_eq
  | n + 1 => letI := i_eq n; letI := d_sz; letI := d_to; letI := i_it; ⟨laws_eqTerm.f, laws_eqTerm.mono, laws_eqTerm.calls⟩
/-! #### trees: height, weight, the copy -/
mutual
def ht24 : S24 → Nat
  | ⟨_, _, _, ks⟩ => hts24 ks + 1
def hts24 : List S24 → Nat
  | [] => 0
  | t :: ts => max (ht24 t) (hts24 ts)
end
mutual
def wt24 : S24 → Nat
  | ⟨_, n, _, ks⟩ => n.size + (ks.length + wts24 ks)
def wts24 : List S24 → Nat
  | [] => 0
  | t :: ts => wt24 t + wts24 ts
end
mutual
def ok24 : S24 → Prop
  | ⟨_, n, _, ks⟩ => n.size ≤ 9223372036854775807 ∧ ks.length ≤ 9223372036854775807 ∧ oks24 ks
def oks24 : List S24 → Prop
  | [] => True
  | t :: ts => ok24 t ∧ oks24 ts
end
mutual
def to29 : S24 → S29
  | ⟨a, n, b, ks⟩ => ⟨a, n, b, tos29 ks⟩
def tos29 : List S24 → List S29
  | [] => []
  | t :: ts => to29 t :: tos29 ts
end
mutual
def ht29 : S29 → Nat
  | ⟨_, _, _, ks⟩ => hts29 ks + 1
def hts29 : List S29 → Nat
  | [] => 0
  | t :: ts => max (ht29 t) (hts29 ts)
end
mutual
def cn29 : S29 → Nat
  | ⟨_, _, _, ks⟩ => cns29 ks + 1
def cns29 : List S29 → Nat
  | [] => 0
  | t :: ts => cn29 t + cns29 ts
end
theorem ht24_eq (t : S24) : ht24 t = hts24 t.f3 + 1 := by cases t; rw [ht24]
theorem wt24_eq (t : S24) : wt24 t = t.f1.size + (t.f3.length + wts24 t.f3) := by cases t; rw [wt24]
theorem ok24_eq (t : S24) : ok24 t ↔ t.f1.size ≤ 9223372036854775807 ∧ t.f3.length ≤ 9223372036854775807 ∧ oks24 t.f3 := by cases t; rw [ok24]
theorem to29_eq (t : S24) : to29 t = ⟨t.f0, t.f1, t.f2, tos29 t.f3⟩ := by cases t; rw [to29]
theorem ht29_eq (t : S29) : ht29 t = hts29 t.f3 + 1 := by cases t; rw [ht29]
theorem cn29_eq (t : S29) : cn29 t = cns29 t.f3 + 1 := by cases t; rw [cn29]
theorem hts24_mem {ts : List S24} {t : S24} (h : t ∈ ts) : ht24 t ≤ hts24 ts := by
  induction ts with
  | nil => simp at h
  | cons a l ih =>
    rw [hts24]
    rcases List.mem_cons.1 h with rfl | h
    · omega
    · have := ih h; omega
theorem hts29_mem {ts : List S29} {t : S29} (h : t ∈ ts) : ht29 t ≤ hts29 ts := by
  induction ts with
  | nil => simp at h
  | cons a l ih =>
    rw [hts29]
    rcases List.mem_cons.1 h with rfl | h
    · omega
    · have := ih h; omega
theorem wts24_mem {ts : List S24} {t : S24} (h : t ∈ ts) : wt24 t ≤ wts24 ts := by
  induction ts with
  | nil => simp at h
  | cons a l ih =>
    rw [wts24]
    rcases List.mem_cons.1 h with rfl | h
    · omega
    · have := ih h; omega
theorem oks24_mem {ts : List S24} {t : S24} (h : t ∈ ts) (ho : oks24 ts) : ok24 t := by
  induction ts with
  | nil => simp at h
  | cons a l ih =>
    rw [oks24] at ho
    rcases List.mem_cons.1 h with rfl | h
    · exact ho.1
    · exact ih h ho.2
theorem tos29_map (ts : List S24) : tos29 ts = ts.map to29 := by
  induction ts with
  | nil => rw [tos29]; rfl
  | cons a l ih => rw [tos29, ih]; rfl
theorem tos29_length (ts : List S24) : (tos29 ts).length = ts.length := by rw [tos29_map, List.length_map]
theorem hts_to (n : Nat) : (∀ t : S24, ht24 t ≤ n → ht29 (to29 t) = ht24 t) ∧ (∀ ts : List S24, hts24 ts ≤ n → hts29 (tos29 ts) = hts24 ts) := by
  induction n with
  | zero =>
    have h1 : ∀ t : S24, ht24 t ≤ 0 → ht29 (to29 t) = ht24 t := fun t h => by rw [ht24_eq] at h; omega
    refine ⟨h1, fun ts h => ?_⟩
    cases ts with
    | nil => rw [tos29, hts29, hts24]
    | cons a l => rw [hts24] at h; have := ht24_eq a; omega
  | succ n ih =>
    have h1 : ∀ t : S24, ht24 t ≤ n + 1 → ht29 (to29 t) = ht24 t := fun t h => by
      rw [ht24_eq] at h ⊢
      rw [to29_eq, ht29_eq]
      rw [ih.2 _ (by omega)]
    refine ⟨h1, fun ts => ?_⟩
    induction ts with
    | nil => intro _; rw [tos29, hts29, hts24]
    | cons a l ihl =>
      intro h
      rw [hts24] at h
      rw [tos29, hts29, hts24, h1 a (by omega), ihl (by omega)]
theorem ht_to (t : S24) : ht29 (to29 t) = ht24 t := (hts_to (ht24 t)).1 t (Nat.le_refl _)
theorem cns_wt (n : Nat) : (∀ t : S24, ht24 t ≤ n → cn29 (to29 t) ≤ wt24 t + 1) ∧ (∀ ts : List S24, hts24 ts ≤ n → cns29 (tos29 ts) ≤ wts24 ts + ts.length) := by
  induction n with
  | zero =>
    refine ⟨fun t h => by rw [ht24_eq] at h; omega, fun ts h => ?_⟩
    cases ts with
    | nil => rw [tos29, cns29]; omega
    | cons a l => rw [hts24] at h; have := ht24_eq a; omega
  | succ n ih =>
    have h1 : ∀ t : S24, ht24 t ≤ n + 1 → cn29 (to29 t) ≤ wt24 t + 1 := fun t h => by
      rw [ht24_eq] at h
      rw [to29_eq, cn29_eq, wt24_eq]
      have := ih.2 t.f3 (by omega)
      show cns29 (tos29 t.f3) + 1 ≤ _
      omega
    refine ⟨h1, fun ts => ?_⟩
    induction ts with
    | nil => intro _; rw [tos29, cns29]; omega
    | cons a l ihl =>
      intro h
      rw [hts24] at h
      rw [tos29, cns29, wts24]
      have h2 := h1 a (by omega)
      have h3 := ihl (by omega)
      simp only [List.length_cons]
      omega
theorem cn_wt (t : S24) : cn29 (to29 t) ≤ wt24 t + 1 := (cns_wt (ht24 t)).1 t (Nat.le_refl _)
theorem t_wrap {i : Int} (h0 : -4611686018427387904 ≤ i) (h1 : i ≤ 4611686018427387904) : wrap64 i = i := by
  unfold wrap64; omega
theorem rd24_at (xs : List S24) (i : Nat) (h : i < xs.length) : rd_T24 xs (i : Int) = xs[i] := by
  unfold rd_T24; simp [List.getD, h]
theorem rd29_at (xs : List S29) (i : Nat) (h : i < xs.length) : rd_T29 xs (i : Int) = xs[i] := by
  unfold rd_T29; simp [List.getD, h]
theorem eta29 (t : S29) : (⟨t.f0, t.f1, t.f2, t.f3⟩ : S29) = t := by cases t; rfl
theorem next_i (i n : Nat) (h : i < n) (hn : n ≤ 1048576) : wrap64 ((i : Int) + 1) = ((i + 1 : Nat) : Int) := by
  rw [t_wrap (by omega) (by omega)]; omega
theorem cns29_mem {ts : List S29} {t : S29} (h : t ∈ ts) : cn29 t ≤ cns29 ts := by
  induction ts with
  | nil => simp at h
  | cons a l ih =>
    rw [cns29]
    rcases List.mem_cons.1 h with rfl | h
    · omega
    · have := ih h; omega
theorem cns29_len (ts : List S29) : ts.length ≤ cns29 ts := by
  induction ts with
  | nil => simp
  | cons a l ih => rw [cns29]; have := cn29_eq a; simp only [List.length_cons]; omega
/-! #### a term that came in, read as a tree -/
open Go.ChangeShapes Go.WideShapes
section
variable {H : Type} {enc : TypeId × Value → H} {w : World} {base : Nat} {spare : Nat → Bool} {held : Bool}
theorem list_of {α : Type} {Q : Nat → α → Prop} : ∀ (n : Nat), (∀ i, i < n → ∃ t, Q i t) → ∃ l : List α, l.length = n ∧ ∀ i t, l[i]? = some t → Q i t
  | 0, _ => ⟨[], rfl, fun i t h => by simp at h⟩
  | n + 1, h => by
    obtain ⟨l, hl, hq⟩ := list_of n (fun i hi => h i (by omega))
    obtain ⟨t, ht⟩ := h n (by omega)
    refine ⟨l ++ [t], by simp [hl], fun i t' hi => ?_⟩
    rcases Nat.lt_or_ge i n with h1 | h1
    · rw [List.getElem?_append_left (by omega)] at hi; exact hq i t' hi
    · rw [List.getElem?_append_right (by omega), hl] at hi
      have : i = n := by
        rcases Nat.eq_or_lt_of_le h1 with h2 | h2
        · exact h2.symm
        · rw [List.getElem?_eq_none (by simp; omega)] at hi; simp at hi
      subst this
      simp at hi; rw [← hi]; exact ht
theorem oks24_of {ts : List S24} (h : ∀ t ∈ ts, ok24 t) : oks24 ts := by
  induction ts with
  | nil => rw [oks24]; trivial
  | cons a l ih => rw [oks24]; exact ⟨h a (by simp), ih fun t ht => h t (by simp [ht])⟩
set_option maxRecDepth 100000 in
theorem open_T (fuel : Nat) : ∀ (cs : List Value) (x : DataW H × List MemPlace), DataW.trod enc Tryd.prog w base spare held fuel 24 cs = some x → ∃ t : S24, k24.K w t cs ∧ ok24 t := by
  induction fuel using Nat.strongRecOn with
  | _ fuel IH =>
    intro cs x h
    obtain ⟨xs, n, rfl, rfl, hlen, hxl, hf⟩ := DataW.trod_struct Tryd.underlying24 h
    have hC : Tryd.prog.cellsOf 24 = 4 := by kernel_rfl
    rw [hC] at hlen
    match cs, hlen, xs, hxl with
    | [c0, c1, c2, c3], _, [y0, y1, y2, y3], _ =>
      have C3 : Tryd.prog.cellsOf 3 = 1 := by kernel_rfl
      have C9 : Tryd.prog.cellsOf 9 = 1 := by kernel_rfl
      have C22 : Tryd.prog.cellsOf 22 = 1 := by kernel_rfl
      have g0 : DataW.trod enc Tryd.prog w base spare held n 3 [c0] = some y0 := by
        have g : DataW.trod enc Tryd.prog w base spare held n 3 (([c0, c1, c2, c3].drop 0).take (Tryd.prog.cellsOf 3)) = some y0 := hf 0 _ rfl
        rw [C3] at g
        exact g
      have g1 : DataW.trod enc Tryd.prog w base spare held n 9 [c1] = some y1 := by
        have g : DataW.trod enc Tryd.prog w base spare held n 9 (([c0, c1, c2, c3].drop 1).take (Tryd.prog.cellsOf 9)) = some y1 := hf 1 _ rfl
        rw [C9] at g
        exact g
      have g2 : DataW.trod enc Tryd.prog w base spare held n 3 [c2] = some y2 := by
        have g : DataW.trod enc Tryd.prog w base spare held n 3 (([c0, c1, c2, c3].drop 2).take (Tryd.prog.cellsOf 3)) = some y2 := hf 2 _ rfl
        rw [C3] at g
        exact g
      have g3 : DataW.trod enc Tryd.prog w base spare held n 22 [c3] = some y3 := by
        have g : DataW.trod enc Tryd.prog w base spare held n 22 (([c0, c1, c2, c3].drop 3).take (Tryd.prog.cellsOf 22)) = some y3 := hf 3 _ rfl
        rw [C22] at g
        exact g
      obtain ⟨a, ha, _, _⟩ := DataW.trod_int Tryd.underlying3 g0
      obtain ⟨nm, hn, _, hsz⟩ := DataW.trod_string Tryd.underlying9 g1
      obtain ⟨b, hb, _, _⟩ := DataW.trod_int Tryd.underlying3 g2
      simp only [List.cons.injEq, and_true] at ha hn hb
      subst ha hn hb
      have hm : maxLen = 9223372036854775807 := by decide +kernel
      rcases DataW.trod_slice Tryd.underlying22 g3 with ⟨h3, _⟩ | ⟨ad, len, cap, elems, rest, m, hm1, h3, _, _, hl, hcap, hel, hrd, _, _⟩
      · simp only [List.cons.injEq, and_true] at h3
        subst h3
        refine ⟨⟨a, nm, b, []⟩, k24_mk w ⟨a, nm, b, []⟩ (A3 := none) (c3 := 0) (Nat.le_refl _) ⟨rfl, by simp, fun h => by simp at h⟩, ?_⟩
        rw [ok24]; exact ⟨by omega, by simp, by rw [oks24]; trivial⟩
      · simp only [List.cons.injEq, and_true] at h3
        subst h3
        have hall : ∀ i, i < len → ∃ t : S24, ok24 t ∧ ∃ c : List Value, c.length = 4 ∧ k24.K w t c ∧ ∀ j u, c[j]? = some u → w.cell? (ad.add (i * 4 + j)) = some u := by
          intro i hi
          have h4 := hrd i hi
          rw [hC, List.getElem?_eq_getElem (by omega)] at h4
          obtain ⟨c, hc, ht⟩ := Option.bind_eq_some_iff.1 h4
          obtain ⟨t, hK, hok⟩ := IH m (by omega) c _ ht
          obtain ⟨_, hcl, hat⟩ := World.cells?_some hc
          refine ⟨t, hok, c, hcl, hK, fun j u hj => ?_⟩
          have hj4 : j < 4 := by
            rcases Nat.lt_or_ge j 4 with h | h
            · exact h
            · rw [List.getElem?_eq_none (by omega)] at hj; simp at hj
          rw [← hj, ← hat j hj4, Go.Deep.add_add]
        obtain ⟨l, hll, hq⟩ := list_of len hall
        have hoks : oks24 l := oks24_of fun t ht => by
          obtain ⟨i, hi, rfl⟩ := List.getElem_of_mem ht
          exact (hq i _ (List.getElem?_eq_getElem hi)).1
        have hlc : l.length ≤ cap := by omega
        have hk := k24_mk w ⟨a, nm, b, l⟩ (A3 := some ad) (c3 := cap) hlc ⟨rfl, by show l.length ≤ _; omega, fun _ => ⟨ad, rfl, fun j p hj => by
          obtain ⟨_, c, h1, h2, h3⟩ := hq j p hj
          exact ⟨c, h1, h2, h3⟩⟩⟩
        refine ⟨⟨a, nm, b, l⟩, ?_, ?_⟩
        · have : (⟨a, nm, b, l⟩ : S24).f3.length = len := hll
          rw [this] at hk; exact hk
        · rw [ok24]; exact ⟨by omega, by omega, hoks⟩
end
/-! #### szTerm tells what is left of the weight -/
def szr (w : Nat) (left : Int) : Int := if (w : Int) ≤ left then left - w else -1
theorem szS_ev (n : Nat) (xs : List S24) (hlen : xs.length ≤ 1048576)
    (IH : ∀ x ∈ xs, ∀ left : Int, 0 ≤ left → left ≤ 1048576 → Ev (fun k => (i_sz n).f k x.f0 x.f1 x.f2 x.f3 left) (szr (wt24 x) left)) (d : Nat) :
    ∀ (i : Nat) (left : Int), i ≤ xs.length → xs.length - i = d → 0 ≤ left → left ≤ 1048576 →
    Ev (fun k => @laws_szTermS.l0 (i_sz n) k xs left i) (szr (wts24 (xs.drop i)) left) := by
  induction d with
  | zero =>
    intro i left hi hd h0 h1
    refine Ev.step (f := fun _ => some left) (fun k => ?_) ?_
    · simp only [laws_szTermS.l0]; rw [if_neg (by omega)]
    · rw [List.drop_eq_nil_of_le (by omega), wts24]
      unfold szr; rw [if_pos (by simpa using h0)]
      simpa using Ev.now left
  | succ d ih =>
    intro i left hi hd h0 h1
    have hlt : i < xs.length := by omega
    refine Ev.step (f := fun k => ((i_sz n).f k xs[i].f0 xs[i].f1 xs[i].f2 xs[i].f3 left).bind fun t => if t < 0 then some (-1) else @laws_szTermS.l0 (i_sz n) k xs t ((i + 1 : Nat) : Int)) (fun k => ?_) ?_
    · simp only [laws_szTermS.l0]
      rw [if_pos (by omega), if_pos (by omega), rd24_at xs i hlt, next_i i _ hlt hlen]
    · refine Ev.bind (f := fun k t => if t < 0 then some (-1) else @laws_szTermS.l0 (i_sz n) k xs t ((i + 1 : Nat) : Int)) (IH xs[i] (List.getElem_mem hlt) left h0 h1) ?_
      rw [List.drop_eq_getElem_cons hlt, wts24]
      unfold szr
      by_cases hc : (wt24 xs[i] : Int) ≤ left
      · rw [if_pos hc]
        have h2 := ih (i + 1) (left - wt24 xs[i]) (by omega) (by omega) (by omega) (by omega)
        unfold szr at h2
        have e : (if ((wt24 xs[i] + wts24 (xs.drop (i + 1)) : Nat) : Int) ≤ left then left - ((wt24 xs[i] + wts24 (xs.drop (i + 1)) : Nat) : Int) else -1) = (if (wts24 (xs.drop (i + 1)) : Int) ≤ left - wt24 xs[i] then left - wt24 xs[i] - (wts24 (xs.drop (i + 1)) : Int) else -1) := by
          by_cases h3 : (wts24 (xs.drop (i + 1)) : Int) ≤ left - wt24 xs[i]
          · rw [if_pos h3, if_pos (by omega)]; omega
          · rw [if_neg h3, if_neg (by omega)]
        rw [e]
        exact Ev.congr (fun k => if_neg (by omega)) h2
      · rw [if_neg hc, if_neg (by omega)]
        exact Ev.congr (fun k => if_pos (by omega)) (Ev.now (-1))
theorem sz_ev (n : Nat) : ∀ (t : S24), ok24 t → ht24 t ≤ n → ∀ left : Int, 0 ≤ left → left ≤ 1048576 → Ev (fun k => (i_sz n).f k t.f0 t.f1 t.f2 t.f3 left) (szr (wt24 t) left) := by
  induction n with
  | zero => intro t _ h; rw [ht24_eq] at h; omega
  | succ n ih =>
    intro t ho h left h0 h1
    rw [ht24_eq] at h
    obtain ⟨o1, o2, o3⟩ := (ok24_eq t).1 ho
    show Ev (fun k => @laws_szTerm.f (i_sz n) k t.f0 t.f1 t.f2 t.f3 left) _
    unfold laws_szTerm.f
    have e1 : wrap64 (left - (t.f1.size : Int)) = left - t.f1.size := by unfold wrap64; omega
    rw [e1, wt24_eq]
    by_cases c1 : left - (t.f1.size : Int) < 0
    · refine Ev.congr (fun k => if_pos c1) ?_
      unfold szr; rw [if_neg (by omega)]; exact Ev.now _
    refine Ev.congr (fun k => if_neg c1) ?_
    have hS : Ev (fun k => @laws_szTermS.f (i_sz n) k t.f3 (left - (t.f1.size : Int))) (szr (t.f3.length + wts24 t.f3) (left - (t.f1.size : Int))) := by
      unfold laws_szTermS.f
      have e2 : wrap64 (left - (t.f1.size : Int) - (t.f3.length : Int)) = left - t.f1.size - t.f3.length := by unfold wrap64; omega
      rw [e2]
      by_cases c2 : left - (t.f1.size : Int) - (t.f3.length : Int) < 0
      · refine Ev.congr (fun k => if_pos c2) ?_
        unfold szr; rw [if_neg (by omega)]; exact Ev.now _
      · refine Ev.congr (fun k => if_neg c2) ?_
        have := szS_ev n t.f3 (by omega) (fun x hx left h0 h1 => ih x (oks24_mem hx o3) (by have := hts24_mem hx; omega) left h0 h1) t.f3.length 0 (left - t.f1.size - t.f3.length) (by omega) (by omega) (by omega) (by omega)
        rw [List.drop_zero] at this
        have e : szr (t.f3.length + wts24 t.f3) (left - (t.f1.size : Int)) = szr (wts24 t.f3) (left - t.f1.size - t.f3.length) := by
          unfold szr
          by_cases h3 : (wts24 t.f3 : Int) ≤ left - t.f1.size - t.f3.length
          · rw [if_pos h3, if_pos (by omega)]; omega
          · rw [if_neg h3, if_neg (by omega)]
        rw [e]; exact this
    refine Ev.bind (f := fun _ t => if t < 0 then some (-1) else some t) hS ?_
    have e : szr (t.f1.size + (t.f3.length + wts24 t.f3)) left = szr (t.f3.length + wts24 t.f3) (left - (t.f1.size : Int)) := by
      unfold szr
      by_cases h3 : ((t.f3.length + wts24 t.f3 : Nat) : Int) ≤ left - t.f1.size
      · rw [if_pos h3, if_pos (by omega)]; omega
      · rw [if_neg h3, if_neg (by omega)]
    rw [e]
    by_cases c3 : szr (t.f3.length + wts24 t.f3) (left - (t.f1.size : Int)) < 0
    · have : szr (t.f3.length + wts24 t.f3) (left - (t.f1.size : Int)) = -1 := by
        unfold szr at c3 ⊢; split at c3 <;> rename_i h
        · omega
        · rw [if_neg h]
      rw [this]; exact Ev.now _
    · exact Ev.congr (fun k => if_neg c3) (Ev.now _)
/-! #### toTerm is the copy -/
theorem toS_ev (n : Nat) (xs : List S24) (hlen : xs.length ≤ 1048576)
    (IH : ∀ x ∈ xs, Ev (fun k => (i_to n).f k x.f0 x.f1 x.f2 x.f3) ((to29 x).f0, (to29 x).f1, (to29 x).f2, (to29 x).f3)) (d : Nat) :
    ∀ (i : Nat) (ys : List S29), i ≤ xs.length → xs.length - i = d → ys.length = xs.length →
    Ev (fun k => @laws_toTermS.l0 (i_to n) k xs ys i) (ys.take i ++ (xs.drop i).map to29) := by
  induction d with
  | zero =>
    intro i ys hi hd hy
    refine Ev.step (f := fun _ => some ys) (fun k => ?_) ?_
    · simp only [laws_toTermS.l0]; rw [if_neg (by omega)]
    · rw [List.drop_eq_nil_of_le (by omega), List.take_of_length_le (by omega)]
      simpa using Ev.now ys
  | succ d ih =>
    intro i ys hi hd hy
    have hlt : i < xs.length := by omega
    refine Ev.step (f := fun k => ((i_to n).f k xs[i].f0 xs[i].f1 xs[i].f2 xs[i].f3).bind fun b => @laws_toTermS.l0 (i_to n) k xs (ys.set i ⟨b.1, b.2.1, b.2.2.1, b.2.2.2⟩) ((i + 1 : Nat) : Int)) (fun k => ?_) ?_
    · simp only [laws_toTermS.l0]
      rw [if_pos (by omega), if_pos (by omega), rd24_at xs i hlt, next_i i _ hlt hlen]
      have : (i : Int) < (ys.length : Int) := by omega
      simp only [if_pos this, Int.toNat_natCast]
    · refine Ev.bind (f := fun k b => @laws_toTermS.l0 (i_to n) k xs (ys.set i ⟨b.1, b.2.1, b.2.2.1, b.2.2.2⟩) ((i + 1 : Nat) : Int)) (IH xs[i] (List.getElem_mem hlt)) ?_
      have h2 := ih (i + 1) (ys.set i (to29 xs[i])) (by omega) (by omega) (by rw [List.length_set]; exact hy)
      have e : ys.take i ++ (xs.drop i).map to29 = (ys.set i (to29 xs[i])).take (i + 1) ++ (xs.drop (i + 1)).map to29 := by
        have hl : i < (ys.set i (to29 xs[i])).length := by rw [List.length_set]; omega
        rw [List.drop_eq_getElem_cons hlt, List.map_cons, List.take_succ_eq_append_getElem hl, List.getElem_set_self, List.take_set_of_le (Nat.le_refl i)]
        simp
      rw [e]
      show Ev (fun k => @laws_toTermS.l0 (i_to n) k xs (ys.set i ⟨(to29 xs[i]).f0, (to29 xs[i]).f1, (to29 xs[i]).f2, (to29 xs[i]).f3⟩) ((i + 1 : Nat) : Int)) _
      rw [eta29]; exact h2
theorem to_ev (n : Nat) : ∀ (t : S24), ht24 t ≤ n → wt24 t ≤ 1048576 → Ev (fun k => (i_to n).f k t.f0 t.f1 t.f2 t.f3) ((to29 t).f0, (to29 t).f1, (to29 t).f2, (to29 t).f3) := by
  induction n with
  | zero => intro t h; rw [ht24_eq] at h; omega
  | succ n ih =>
    intro t h hw
    rw [ht24_eq] at h
    rw [wt24_eq] at hw
    show Ev (fun k => @laws_toTerm.f (i_to n) k t.f0 t.f1 t.f2 t.f3) _
    rw [to29_eq]
    unfold laws_toTerm.f
    refine Ev.bind (f := fun _ t119 => some (t.f0, t.f1, t.f2, t119)) (a := tos29 t.f3) ?_ (Ev.now _)
    unfold laws_toTermS.f
    refine Ev.congr (fun k => by rw [if_pos (by omega), if_pos (by omega)]) ?_
    have := toS_ev n t.f3 (by omega) (fun x hx => ih x (by have := hts24_mem hx; omega) (by have := wts24_mem hx; omega)) t.f3.length 0 (List.replicate t.f3.length z29) (by omega) (by omega) (by simp)
    rw [List.take_zero, List.drop_zero, List.nil_append, ← tos29_map] at this
    exact this
/-! #### eqTerm tells true of what is the same -/
theorem eqS_ev (n : Nat) (xs : List S29) (hlen : xs.length ≤ 1048576)
    (IH : ∀ x ∈ xs, Ev (fun k => (i_eq n).f k x.f0 x.f1 x.f2 x.f3 x.f0 x.f1 x.f2 x.f3) true) (d : Nat) :
    ∀ (i : Nat), i ≤ xs.length → xs.length - i = d → Ev (fun k => @laws_eqTermS.l0 (i_eq n) k xs xs i) true := by
  induction d with
  | zero =>
    intro i hi hd
    refine Ev.step (f := fun _ => some true) (fun k => ?_) (Ev.now _)
    simp only [laws_eqTermS.l0]; rw [if_neg (by omega)]
  | succ d ih =>
    intro i hi hd
    have hlt : i < xs.length := by omega
    refine Ev.step (f := fun k => ((i_eq n).f k xs[i].f0 xs[i].f1 xs[i].f2 xs[i].f3 xs[i].f0 xs[i].f1 xs[i].f2 xs[i].f3).bind fun b => if b = true then @laws_eqTermS.l0 (i_eq n) k xs xs ((i + 1 : Nat) : Int) else some false) (fun k => ?_) ?_
    · simp only [laws_eqTermS.l0]
      rw [if_pos (by omega), if_pos (by omega), if_pos (by omega), rd29_at xs i hlt, next_i i _ hlt hlen]
    · refine Ev.bind (f := fun k b => if b = true then @laws_eqTermS.l0 (i_eq n) k xs xs ((i + 1 : Nat) : Int) else some false) (IH xs[i] (List.getElem_mem hlt)) ?_
      exact Ev.congr (fun k => if_pos rfl) (ih (i + 1) (by omega) (by omega))
theorem eq_ev (n : Nat) : ∀ (t : S29), ht29 t ≤ n → cn29 t ≤ 1048577 → Ev (fun k => (i_eq n).f k t.f0 t.f1 t.f2 t.f3 t.f0 t.f1 t.f2 t.f3) true := by
  induction n with
  | zero => intro t h; rw [ht29_eq] at h; omega
  | succ n ih =>
    intro t h hc
    rw [ht29_eq] at h
    rw [cn29_eq] at hc
    have hcm : ∀ (ts : List S29), (∀ x ∈ ts, cn29 x ≤ cns29 ts) ∧ ts.length ≤ cns29 ts := by
      intro ts
      induction ts with
      | nil => exact ⟨fun x hx => by simp at hx, by simp⟩
      | cons a l ihl =>
        rw [cns29]
        have := cn29_eq a
        refine ⟨fun x hx => ?_, by simp only [List.length_cons]; have := ihl.2; omega⟩
        rcases List.mem_cons.1 hx with rfl | hx
        · omega
        · have := ihl.1 x hx; omega
    show Ev (fun k => @laws_eqTerm.f (i_eq n) k t.f0 t.f1 t.f2 t.f3 t.f0 t.f1 t.f2 t.f3) _
    unfold laws_eqTerm.f
    refine Ev.congr (fun k => by rw [if_pos rfl, if_pos rfl, if_pos rfl]) ?_
    refine Ev.bind (f := fun _ b => if b = true then some true else some false) (a := true) ?_ (Ev.now _)
    unfold laws_eqTermS.f
    refine Ev.congr (fun k => if_pos rfl) ?_
    exact eqS_ev n t.f3 (by have := (hcm t.f3).2; omega) (fun x hx => ih x (by have := hts29_mem hx; omega) (by have := (hcm t.f3).1 x hx; omega)) t.f3.length 0 (by omega) (by omega)
/-! #### the reference's figures -/
theorem Ev.pos {α : Type} {c : Prop} [Decidable c] {g f : Nat → Option α} {r : α} (h : c) (k : Ev g r) : Ev (fun n => if c then g n else f n) r := Ev.congr (fun _ => if_pos h) k
theorem Ev.neg {α : Type} {c : Prop} [Decidable c] {g f : Nat → Option α} {r : α} (h : ¬c) (k : Ev f r) : Ev (fun n => if c then g n else f n) r := Ev.congr (fun _ => if_neg h) k
def dg0 (u : Nat) : List UInt8 := if u = 0 then [] else Lib.decDigits u
theorem dg0_step (u : Nat) (h : 0 < u) : dg0 u = dg0 (u / 10) ++ [UInt8.ofNat (48 + u % 10)] := by
  unfold dg0
  rw [if_neg (by omega), Lib.decDigits]
  by_cases h10 : u < 10
  · rw [dif_pos h10, if_pos (by omega), show u % 10 = u by omega]; rfl
  · rw [dif_neg h10, if_neg (by omega)]
theorem push_fig (d : Nat) (hd : d < 10) (L : List UInt8) : strOfNums [((48 + d : Nat) : Int)] ++ (⟨L.toArray⟩ : ByteArray) = ⟨(UInt8.ofNat (48 + d) :: L).toArray⟩ := by
  apply ByteArray.ext
  rw [ByteArray.data_append]
  apply Array.toList_inj.1
  rw [Array.toList_append]
  have : d = 0 ∨ d = 1 ∨ d = 2 ∨ d = 3 ∨ d = 4 ∨ d = 5 ∨ d = 6 ∨ d = 7 ∨ d = 8 ∨ d = 9 := by omega
  rcases this with rfl | rfl | rfl | rfl | rfl | rfl | rfl | rfl | rfl | rfl <;> rfl
theorem fig_ok (d : Nat) (hd : d < 10) : spec_l01Figure.f (d : Int) = some ((48 + d : Nat) : Int) := by
  unfold spec_l01Figure.f
  rw [if_pos (by omega)]
  congr 1
  unfold wrap64
  omega
theorem dec_loop (b : Bool) (m : Nat) : ∀ (n : Int) (L : List UInt8), -9223372036854775808 ≤ n → n ≤ 9223372036854775807 → n.natAbs < 10 ^ m → L.length + m ≤ 100 →
    Ev (fun k => spec_Decimal.l0 k n b ⟨L.toArray⟩) (⟨((if b then [45] else []) ++ (dg0 n.natAbs ++ L)).toArray⟩ : ByteArray) := by
  induction m with
  | zero =>
    intro n L h0 h1 hm hl
    have hn : n = 0 := by omega
    subst hn
    cases b with
    | false =>
      refine Ev.step (f := fun _ => some (⟨L.toArray⟩ : ByteArray)) (fun k => ?_) (Ev.now _)
      simp only [spec_Decimal.l0, if_true, Bool.false_eq_true, if_false]
    | true =>
      refine Ev.step (f := fun _ => some ((⟨#[45]⟩ : ByteArray) ++ (⟨L.toArray⟩ : ByteArray))) (fun k => ?_) ?_
      · simp only [spec_Decimal.l0, if_true]
        rw [if_pos (by show 1 + L.toArray.size ≤ _; rw [List.size_toArray]; omega)]
      · rw [show ((⟨#[45]⟩ : ByteArray) ++ (⟨L.toArray⟩ : ByteArray)) = (⟨((if true then [45] else []) ++ (dg0 (0 : Int).natAbs ++ L)).toArray⟩ : ByteArray) by
          apply ByteArray.ext; rw [ByteArray.data_append]; apply Array.toList_inj.1; rw [Array.toList_append]; rfl]
        exact Ev.now _
  | succ m ih =>
    intro n L h0 h1 hm hl
    by_cases hn : n = 0
    · subst hn
      cases b with
      | false =>
        refine Ev.step (f := fun _ => some (⟨L.toArray⟩ : ByteArray)) (fun k => ?_) (Ev.now _)
        simp only [spec_Decimal.l0, if_true, Bool.false_eq_true, if_false]
      | true =>
        refine Ev.step (f := fun _ => some ((⟨#[45]⟩ : ByteArray) ++ (⟨L.toArray⟩ : ByteArray))) (fun k => ?_) ?_
        · simp only [spec_Decimal.l0, if_true]
          rw [if_pos (by show 1 + L.toArray.size ≤ _; rw [List.size_toArray]; omega)]
        · rw [show ((⟨#[45]⟩ : ByteArray) ++ (⟨L.toArray⟩ : ByteArray)) = (⟨((if true then [45] else []) ++ (dg0 (0 : Int).natAbs ++ L)).toArray⟩ : ByteArray) by
            apply ByteArray.ext; rw [ByteArray.data_append]; apply Array.toList_inj.1; rw [Array.toList_append]; rfl]
          exact Ev.now _
    · have hqa : (Int.tdiv n 10).natAbs = n.natAbs / 10 := Int.natAbs_tdiv n 10
      have hma : (Int.tmod n 10).natAbs = n.natAbs % 10 := Int.natAbs_tmod n 10
      have hqb : -1000000000000000000 ≤ Int.tdiv n 10 ∧ Int.tdiv n 10 ≤ 1000000000000000000 := by
        generalize Int.tdiv n 10 = q at hqa
        omega
      have hq : wrap64 (Int.tdiv n 10) = Int.tdiv n 10 := by
        generalize Int.tdiv n 10 = q at hqb
        unfold wrap64; omega
      have hlt : n.natAbs / 10 < 10 ^ m := by rw [Nat.pow_succ] at hm; omega
      have hd : n.natAbs % 10 < 10 := Nat.mod_lt _ (by omega)
      have hres : dg0 n.natAbs ++ L = dg0 (Int.tdiv n 10).natAbs ++ (UInt8.ofNat (48 + n.natAbs % 10) :: L) := by
        rw [hqa, dg0_step n.natAbs (by omega), List.append_assoc]; rfl
      have hnext := ih (Int.tdiv n 10) (UInt8.ofNat (48 + n.natAbs % 10) :: L) (by have := hqb.1; omega) (by have := hqb.2; omega) (by rw [hqa]; exact hlt) (by rw [List.length_cons]; omega)
      rw [hres]
      refine Ev.step (fun k => ?_) hnext
      have hsz : (strOfNums [((48 + n.natAbs % 10 : Nat) : Int)]).size + (⟨L.toArray⟩ : ByteArray).size ≤ 9223372036854775807 := by
        show 1 + L.toArray.size ≤ _
        rw [List.size_toArray]; omega
      by_cases hneg : Int.tmod n 10 < 0
      · have e1 : wrap64 (-(Int.tmod n 10)) = ((n.natAbs % 10 : Nat) : Int) := by
          generalize Int.tmod n 10 = q at hma hneg
          unfold wrap64; omega
        simp only [spec_Decimal.l0, Option.bind_some]
        rw [if_neg hn, if_pos hneg, e1, fig_ok _ hd, Option.bind_some, if_pos hsz, push_fig _ hd, hq]
      · have e1 : Int.tmod n 10 = ((n.natAbs % 10 : Nat) : Int) := by
          generalize Int.tmod n 10 = q at hma hneg
          omega
        simp only [spec_Decimal.l0, Option.bind_some]
        rw [if_neg hn, if_neg hneg, e1, fig_ok _ hd, Option.bind_some, if_pos hsz, push_fig _ hd, hq]
theorem dec_ev (n : Int) (h0 : -9223372036854775808 ≤ n) (h1 : n ≤ 9223372036854775807) : Ev (fun k => spec_Decimal.f k n) (⟨(Lib.itoa n).toArray⟩ : ByteArray) := by
  unfold spec_Decimal.f
  by_cases hn : n = 0
  · subst hn
    refine Ev.pos rfl ?_
    rw [show (⟨#[48]⟩ : ByteArray) = (⟨(Lib.itoa 0).toArray⟩ : ByteArray) by unfold Lib.itoa; rw [if_neg (by decide), Lib.decDigits]; rfl]
    exact Ev.now _
  · refine Ev.neg hn ?_
    have := dec_loop (decide (n < 0)) 20 n [] h0 h1 (by omega) (by decide)
    have e : (if decide (n < 0) = true then [45] else []) ++ (dg0 n.natAbs ++ []) = Lib.itoa n := by
      have hd : dg0 n.natAbs = Lib.decDigits n.natAbs := by unfold dg0; rw [if_neg (by omega)]
      unfold Lib.itoa
      rw [List.append_nil, hd]
      by_cases hneg : n < 0
      · rw [if_pos hneg, decide_eq_true hneg]; rfl
      · rw [if_neg hneg, decide_eq_false hneg, show n.toNat = n.natAbs by omega]; rfl
    rw [e] at this
    exact this
theorem impl_dec (k : Nat) (n : Int) (h0 : -9223372036854775808 ≤ n) (h1 : n ≤ 9223372036854775807) : @impl_Decimal.f i_it k n = some (⟨(Lib.itoa n).toArray⟩ : ByteArray) := by
  unfold impl_Decimal.f
  show ((if -9223372036854775808 ≤ n ∧ n ≤ 9223372036854775807 then some (⟨(Lib.itoa n).toArray⟩ : ByteArray) else none) : Option ByteArray).bind _ = _
  rw [if_pos ⟨h0, h1⟩]; rfl
/-! #### PredOf, both ways -/
def dtx (n : Nat) : ByteArray := ⟨(Lib.itoa (n : Int)).toArray⟩
def pv (t : S29) : ByteArray := if t.f0 = 2 ∨ t.f0 = 4 then t.f1 ++ ⟨#[47]⟩ ++ dtx t.f3.length else ⟨#[]⟩
theorem dtx_size (n : Nat) (h : n ≤ 1048576) : (dtx n).size ≤ 21 := by
  have := Lib.itoa_length_le (n : Int) (by omega) (by omega)
  show (Lib.itoa (n : Int)).toArray.size ≤ 21
  rw [List.size_toArray]
  exact this
theorem spec_pred (t : S29) (h1 : t.f1.size ≤ 1048576) (h2 : t.f3.length ≤ 1048576) : Ev (fun k => spec_PredOf.f k t.f0 t.f1 t.f2 t.f3) (pv t) := by
  have hd : Ev (fun k => spec_Decimal.f k (t.f3.length : Int)) (dtx t.f3.length) := dec_ev _ (by omega) (by omega)
  have hz := dtx_size t.f3.length h2
  have hz2 : (t.f1 ++ (⟨#[47]⟩ : ByteArray)).size = t.f1.size + 1 := by rw [ByteArray.size_append]; rfl
  unfold spec_PredOf.f pv
  by_cases c2 : t.f0 = 2
  · rw [if_pos (Or.inl c2)]
    refine Ev.pos c2 (Ev.pos (by omega) ?_)
    exact Ev.bind (f := fun _ t131 => (if (t.f1 ++ (⟨#[47]⟩ : ByteArray)).size + t131.size ≤ 9223372036854775807 then (some ((t.f1 ++ (⟨#[47]⟩ : ByteArray)) ++ t131)) else (none))) hd (Ev.pos (by omega) (Ev.now _))
  · refine Ev.neg c2 ?_
    by_cases c4 : t.f0 = 4
    · rw [if_pos (Or.inr c4)]
      refine Ev.pos c4 (Ev.pos (by omega) ?_)
      exact Ev.bind (f := fun _ t131 => (if (t.f1 ++ (⟨#[47]⟩ : ByteArray)).size + t131.size ≤ 9223372036854775807 then (some ((t.f1 ++ (⟨#[47]⟩ : ByteArray)) ++ t131)) else (none))) hd (Ev.pos (by omega) (Ev.now _))
    · rw [if_neg (fun h => h.elim c2 c4)]
      exact Ev.neg c4 (Ev.now _)
theorem impl_pred (t : S29) (h1 : t.f1.size ≤ 1048576) (h2 : t.f3.length ≤ 1048576) (k : Nat) : @impl_PredOf.f i_it k t.f0 t.f1 t.f2 t.f3 = some (pv t) := by
  have hd : @impl_Decimal.f i_it k (t.f3.length : Int) = some (dtx t.f3.length) := impl_dec k _ (by omega) (by omega)
  have hz := dtx_size t.f3.length h2
  have hz2 : (t.f1 ++ (⟨#[47]⟩ : ByteArray)).size = t.f1.size + 1 := by rw [ByteArray.size_append]; rfl
  unfold impl_PredOf.f pv
  by_cases c2 : t.f0 = 2
  · rw [if_pos (Or.inl c2), if_pos c2, if_pos (by omega), hd, Option.bind_some, if_pos (by omega)]
  · rw [if_neg c2]
    by_cases c4 : t.f0 = 4
    · rw [if_pos (Or.inr c4), if_pos c4, if_pos (by omega), hd, Option.bind_some, if_pos (by omega)]
    · rw [if_neg c4, if_neg (fun h => h.elim c2 c4)]
theorem law_pred (t : S24) (ho : ok24 t) : ∃ (n k : Nat), @laws_FnExactPredOf.f (i_sz n) (i_to n) (i_eq n) i_it k t.f0 t.f1 t.f2 t.f3 = some true := by
  refine ⟨ht24 t + 1, ?_⟩
  refine Ev.rounds (g := fun k => @laws_FnExactPredOf.f (i_sz (ht24 t + 1)) (i_to (ht24 t + 1)) (i_eq (ht24 t + 1)) i_it k t.f0 t.f1 t.f2 t.f3) ?_
  have hsz := sz_ev (ht24 t + 2) t ho (by omega) 1048576 (by omega) (by omega)
  have hto := to_ev (ht24 t + 2) t (by omega)
  have heq := eq_ev (ht24 t + 2) (to29 t) (by rw [ht_to]; omega)
  have hcn := cn_wt t
  unfold laws_FnExactPredOf.f
  refine Ev.bind (g := fun k => @laws_szTerm.f (i_sz (ht24 t + 1)) k t.f0 t.f1 t.f2 t.f3 1048576) hsz ?_
  by_cases hw : wt24 t ≤ 1048576
  · have e : szr (wt24 t) 1048576 = 1048576 - wt24 t := by unfold szr; rw [if_pos (by omega)]
    rw [e]
    refine Ev.congr (fun k => if_neg (by omega)) ?_
    have hto' := hto hw
    have hn1 : (to29 t).f1.size ≤ 1048576 := by rw [to29_eq]; rw [wt24_eq] at hw; show t.f1.size ≤ _; omega
    have hn2 : (to29 t).f3.length ≤ 1048576 := by rw [to29_eq]; rw [wt24_eq] at hw; show (tos29 t.f3).length ≤ _; rw [tos29_map, List.length_map]; omega
    refine Ev.bind hto' ?_
    refine Ev.bind (spec_pred (to29 t) hn1 hn2) ?_
    refine Ev.bind hto' ?_
    refine Ev.bind (Ev.congr (fun k => impl_pred (to29 t) hn1 hn2 k) (Ev.now _)) ?_
    refine Ev.congr (fun k => if_pos rfl) ?_
    refine Ev.bind hto' ?_
    refine Ev.bind (heq (by omega)) ?_
    exact Ev.congr (fun k => if_pos rfl) (Ev.now _)
  · have e : szr (wt24 t) 1048576 = -1 := by unfold szr; rw [if_neg (by omega)]
    rw [e]
    exact Ev.congr (fun k => if_pos (by omega)) (Ev.now _)
theorem pred_walk (t : S24) (A : Option Addr) (c : Nat) (w : World) (hC : Kd.C k24 w A t.f3.length t.f3) (hl : t.f3.length ≤ c) (ho : ok24 t) (hT : Lib.TabBelow Tryd.prog w.heap.size w "internal/strconv.uint64pow10" .u64 Lib.pow10Tab) :
    Calls Tryd.prog 3 #[.agg #[.int .i64 t.f0, .string t.f1, .int .i64 t.f2, .slice A t.f3.length c]] w fun e w' => e = .returned (.bool true) ∧ Below w.heap.size w w' := by
  obtain ⟨n, k, h⟩ := law_pred t ho
  exact @laws_FnExactPredOf.calls (i_sz n) (i_to n) (i_eq n) i_it k t.f0 t.f1 t.f2 A c t.f3 true w hT hC hl h
end Go.Proofs.YtojedbogbodkiaaDoor.KPr
