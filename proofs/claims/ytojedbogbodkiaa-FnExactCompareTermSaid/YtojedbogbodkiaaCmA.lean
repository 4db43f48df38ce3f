/- Parts of a proof about terms. No condition. -/
import Derived.Test.YtojedbogbodkiaaKCmx9
import Derived.Test.YtojedbogbodkiaaKCmx8
import Derived.Test.YtojedbogbodkiaaKCmx7
import Derived.Test.YtojedbogbodkiaaKCmx6
import Derived.Test.YtojedbogbodkiaaKCmx5
import Derived.Test.YtojedbogbodkiaaKCmx4
import Derived.Test.YtojedbogbodkiaaKCmx3
import Derived.Test.YtojedbogbodkiaaKCmx2
import Derived.Test.YtojedbogbodkiaaKCmx1
import Derived.Deep.Slices
namespace Go.Proofs.Ytojedbogbodkiaa.KCm
open Go.RowKit Go.Proofs.YtojedbogbodkiaaW.PrintWords Go.Proofs.YtojedbogbodkiaaW.PrintLast Go.Proofs.YtojedbogbodkiaaW.PrintMore
/-! #### the pairs of functions that call each other: level by level -/
@[reducible] def d_sz : fk_laws_szTerm := ⟨fun _ _ _ _ _ _ => none, fun _ _ _ _ _ _ => LeO.none _, by intros; contradiction⟩
@[reducible] def d_to : fk_laws_toTerm := ⟨fun _ _ _ _ _ => none, fun _ _ _ _ _ => LeO.none _, by intros; contradiction⟩
@[reducible] def d_eq : fk_laws_eqTerm := ⟨fun _ _ _ _ _ _ _ _ _ => none, fun _ _ _ _ _ _ _ _ _ => LeO.none _, by intros; contradiction⟩
@[reducible] def d_cf : fk_slices_CompareFunc := ⟨fun _ _ _ => none, fun _ _ _ => LeO.none _, by intros; contradiction⟩
@[reducible] def i_sz : Nat → fk_laws_szTerm
  | 0 => d_sz
  | n + 1 => letI := i_sz n; letI := d_to; letI := d_eq; letI := d_cf; ⟨laws_szTerm.f, laws_szTerm.mono, laws_szTerm.calls⟩
@[reducible] def i_to : Nat → fk_laws_toTerm
  | 0 => d_to
  | n + 1 => letI := i_to n; letI := d_sz; letI := d_eq; letI := d_cf; ⟨laws_toTerm.f, laws_toTerm.mono, laws_toTerm.calls⟩
@[reducible] def i_eq : Nat → fk_laws_eqTerm
  | 0 => d_eq
  | n + 1 => letI := i_eq n; letI := d_sz; letI := d_to; letI := d_cf; ⟨laws_eqTerm.f, laws_eqTerm.mono, laws_eqTerm.calls⟩
/-! #### trees: height, weight, the copy -/
mutual
def ht24 : S24 → Nat
  | ⟨_, _, _, ks⟩ => hts24 ks + 1
def hts24 : List S24 → Nat
  | [] => 0
  | t :: ts => max (ht24 t) (hts24 ts)
end
mutual
def wt24 : S24 → Nat
  | ⟨_, n, _, ks⟩ => n.size + (ks.length + wts24 ks)
def wts24 : List S24 → Nat
  | [] => 0
  | t :: ts => wt24 t + wts24 ts
end
mutual
def ok24 : S24 → Prop
  | ⟨_, n, _, ks⟩ => n.size ≤ 9223372036854775807 ∧ ks.length ≤ 9223372036854775807 ∧ oks24 ks
def oks24 : List S24 → Prop
  | [] => True
  | t :: ts => ok24 t ∧ oks24 ts
end
mutual
def to29 : S24 → S29
  | ⟨a, n, b, ks⟩ => ⟨a, n, b, tos29 ks⟩
def tos29 : List S24 → List S29
  | [] => []
  | t :: ts => to29 t :: tos29 ts
end
mutual
def ht29 : S29 → Nat
  | ⟨_, _, _, ks⟩ => hts29 ks + 1
def hts29 : List S29 → Nat
  | [] => 0
  | t :: ts => max (ht29 t) (hts29 ts)
end
mutual
def cn29 : S29 → Nat
  | ⟨_, _, _, ks⟩ => cns29 ks + 1
def cns29 : List S29 → Nat
  | [] => 0
  | t :: ts => cn29 t + cns29 ts
end
theorem ht24_eq (t : S24) : ht24 t = hts24 t.f3 + 1 := by cases t; rw [ht24]
theorem wt24_eq (t : S24) : wt24 t = t.f1.size + (t.f3.length + wts24 t.f3) := by cases t; rw [wt24]
theorem ok24_eq (t : S24) : ok24 t ↔ t.f1.size ≤ 9223372036854775807 ∧ t.f3.length ≤ 9223372036854775807 ∧ oks24 t.f3 := by cases t; rw [ok24]
theorem to29_eq (t : S24) : to29 t = ⟨t.f0, t.f1, t.f2, tos29 t.f3⟩ := by cases t; rw [to29]
theorem ht29_eq (t : S29) : ht29 t = hts29 t.f3 + 1 := by cases t; rw [ht29]
theorem cn29_eq (t : S29) : cn29 t = cns29 t.f3 + 1 := by cases t; rw [cn29]
theorem hts24_mem {ts : List S24} {t : S24} (h : t ∈ ts) : ht24 t ≤ hts24 ts := by
  induction ts with
  | nil => simp at h
  | cons a l ih =>
    rw [hts24]
    rcases List.mem_cons.1 h with rfl | h
    · omega
    · have := ih h; omega
theorem hts29_mem {ts : List S29} {t : S29} (h : t ∈ ts) : ht29 t ≤ hts29 ts := by
  induction ts with
  | nil => simp at h
  | cons a l ih =>
    rw [hts29]
    rcases List.mem_cons.1 h with rfl | h
    · omega
    · have := ih h; omega
theorem wts24_mem {ts : List S24} {t : S24} (h : t ∈ ts) : wt24 t ≤ wts24 ts := by
  induction ts with
  | nil => simp at h
  | cons a l ih =>
    rw [wts24]
    rcases List.mem_cons.1 h with rfl | h
    · omega
    · have := ih h; omega
theorem oks24_mem {ts : List S24} {t : S24} (h : t ∈ ts) (ho : oks24 ts) : ok24 t := by
  induction ts with
  | nil => simp at h
  | cons a l ih =>
    rw [oks24] at ho
    rcases List.mem_cons.1 h with rfl | h
    · exact ho.1
    · exact ih h ho.2
theorem tos29_map (ts : List S24) : tos29 ts = ts.map to29 := by
  induction ts with
  | nil => rw [tos29]; rfl
  | cons a l ih => rw [tos29, ih]; rfl
theorem tos29_length (ts : List S24) : (tos29 ts).length = ts.length := by rw [tos29_map, List.length_map]
theorem hts_to (n : Nat) : (∀ t : S24, ht24 t ≤ n → ht29 (to29 t) = ht24 t) ∧ (∀ ts : List S24, hts24 ts ≤ n → hts29 (tos29 ts) = hts24 ts) := by
  induction n with
  | zero =>
    have h1 : ∀ t : S24, ht24 t ≤ 0 → ht29 (to29 t) = ht24 t := fun t h => by rw [ht24_eq] at h; omega
    refine ⟨h1, fun ts h => ?_⟩
    cases ts with
    | nil => rw [tos29, hts29, hts24]
    | cons a l => rw [hts24] at h; have := ht24_eq a; omega
  | succ n ih =>
    have h1 : ∀ t : S24, ht24 t ≤ n + 1 → ht29 (to29 t) = ht24 t := fun t h => by
      rw [ht24_eq] at h ⊢
      rw [to29_eq, ht29_eq]
      rw [ih.2 _ (by omega)]
    refine ⟨h1, fun ts => ?_⟩
    induction ts with
    | nil => intro _; rw [tos29, hts29, hts24]
    | cons a l ihl =>
      intro h
      rw [hts24] at h
      rw [tos29, hts29, hts24, h1 a (by omega), ihl (by omega)]
theorem ht_to (t : S24) : ht29 (to29 t) = ht24 t := (hts_to (ht24 t)).1 t (Nat.le_refl _)
theorem cns_wt (n : Nat) : (∀ t : S24, ht24 t ≤ n → cn29 (to29 t) ≤ wt24 t + 1) ∧ (∀ ts : List S24, hts24 ts ≤ n → cns29 (tos29 ts) ≤ wts24 ts + ts.length) := by
  induction n with
  | zero =>
    refine ⟨fun t h => by rw [ht24_eq] at h; omega, fun ts h => ?_⟩
    cases ts with
    | nil => rw [tos29, cns29]; omega
    | cons a l => rw [hts24] at h; have := ht24_eq a; omega
  | succ n ih =>
    have h1 : ∀ t : S24, ht24 t ≤ n + 1 → cn29 (to29 t) ≤ wt24 t + 1 := fun t h => by
      rw [ht24_eq] at h
      rw [to29_eq, cn29_eq, wt24_eq]
      have := ih.2 t.f3 (by omega)
      show cns29 (tos29 t.f3) + 1 ≤ _
      omega
    refine ⟨h1, fun ts => ?_⟩
    induction ts with
    | nil => intro _; rw [tos29, cns29]; omega
    | cons a l ihl =>
      intro h
      rw [hts24] at h
      rw [tos29, cns29, wts24]
      have h2 := h1 a (by omega)
      have h3 := ihl (by omega)
      simp only [List.length_cons]
      omega
theorem cn_wt (t : S24) : cn29 (to29 t) ≤ wt24 t + 1 := (cns_wt (ht24 t)).1 t (Nat.le_refl _)
theorem t_wrap {i : Int} (h0 : -4611686018427387904 ≤ i) (h1 : i ≤ 4611686018427387904) : wrap64 i = i := by
  unfold wrap64; omega
theorem rd24_at (xs : List S24) (i : Nat) (h : i < xs.length) : rd_T24 xs (i : Int) = xs[i] := by
  unfold rd_T24; simp [List.getD, h]
theorem rd29_at (xs : List S29) (i : Nat) (h : i < xs.length) : rd_T29 xs (i : Int) = xs[i] := by
  unfold rd_T29; simp [List.getD, h]
theorem eta29 (t : S29) : (⟨t.f0, t.f1, t.f2, t.f3⟩ : S29) = t := by cases t; rfl
theorem next_i (i n : Nat) (h : i < n) (hn : n ≤ 1048576) : wrap64 ((i : Int) + 1) = ((i + 1 : Nat) : Int) := by
  rw [t_wrap (by omega) (by omega)]; omega
theorem cns29_mem {ts : List S29} {t : S29} (h : t ∈ ts) : cn29 t ≤ cns29 ts := by
  induction ts with
  | nil => simp at h
  | cons a l ih =>
    rw [cns29]
    rcases List.mem_cons.1 h with rfl | h
    · omega
    · have := ih h; omega
theorem cns29_len (ts : List S29) : ts.length ≤ cns29 ts := by
  induction ts with
  | nil => simp
  | cons a l ih => rw [cns29]; have := cn29_eq a; simp only [List.length_cons]; omega
/-! #### a term that came in, read as a tree -/
open Go.ChangeShapes Go.WideShapes
section
variable {H : Type} {enc : TypeId × Value → H} {w : World} {base : Nat} {spare : Nat → Bool} {held : Bool}
theorem list_of {α : Type} {Q : Nat → α → Prop} : ∀ (n : Nat), (∀ i, i < n → ∃ t, Q i t) → ∃ l : List α, l.length = n ∧ ∀ i t, l[i]? = some t → Q i t
  | 0, _ => ⟨[], rfl, fun i t h => by simp at h⟩
  | n + 1, h => by
    obtain ⟨l, hl, hq⟩ := list_of n (fun i hi => h i (by omega))
    obtain ⟨t, ht⟩ := h n (by omega)
    refine ⟨l ++ [t], by simp [hl], fun i t' hi => ?_⟩
    rcases Nat.lt_or_ge i n with h1 | h1
    · rw [List.getElem?_append_left (by omega)] at hi; exact hq i t' hi
    · rw [List.getElem?_append_right (by omega), hl] at hi
      have : i = n := by
        rcases Nat.eq_or_lt_of_le h1 with h2 | h2
        · exact h2.symm
        · rw [List.getElem?_eq_none (by simp; omega)] at hi; simp at hi
      subst this
      simp at hi; rw [← hi]; exact ht
theorem oks24_of {ts : List S24} (h : ∀ t ∈ ts, ok24 t) : oks24 ts := by
  induction ts with
  | nil => rw [oks24]; trivial
  | cons a l ih => rw [oks24]; exact ⟨h a (by simp), ih fun t ht => h t (by simp [ht])⟩
set_option maxRecDepth 100000 in
theorem open_T (fuel : Nat) : ∀ (cs : List Value) (x : DataW H × List MemPlace), DataW.trod enc Try.prog w base spare held fuel 24 cs = some x → ∃ t : S24, k24.K w t cs ∧ ok24 t := by
  induction fuel using Nat.strongRecOn with
  | _ fuel IH =>
    intro cs x h
    obtain ⟨xs, n, rfl, rfl, hlen, hxl, hf⟩ := DataW.trod_struct Try.underlying24 h
    have hC : Try.prog.cellsOf 24 = 4 := by kernel_rfl
    rw [hC] at hlen
    match cs, hlen, xs, hxl with
    | [c0, c1, c2, c3], _, [y0, y1, y2, y3], _ =>
      have C3 : Try.prog.cellsOf 3 = 1 := by kernel_rfl
      have C9 : Try.prog.cellsOf 9 = 1 := by kernel_rfl
      have C22 : Try.prog.cellsOf 22 = 1 := by kernel_rfl
      have g0 : DataW.trod enc Try.prog w base spare held n 3 [c0] = some y0 := by
        have g : DataW.trod enc Try.prog w base spare held n 3 (([c0, c1, c2, c3].drop 0).take (Try.prog.cellsOf 3)) = some y0 := hf 0 _ rfl
        rw [C3] at g
        exact g
      have g1 : DataW.trod enc Try.prog w base spare held n 9 [c1] = some y1 := by
        have g : DataW.trod enc Try.prog w base spare held n 9 (([c0, c1, c2, c3].drop 1).take (Try.prog.cellsOf 9)) = some y1 := hf 1 _ rfl
        rw [C9] at g
        exact g
      have g2 : DataW.trod enc Try.prog w base spare held n 3 [c2] = some y2 := by
        have g : DataW.trod enc Try.prog w base spare held n 3 (([c0, c1, c2, c3].drop 2).take (Try.prog.cellsOf 3)) = some y2 := hf 2 _ rfl
        rw [C3] at g
        exact g
      have g3 : DataW.trod enc Try.prog w base spare held n 22 [c3] = some y3 := by
        have g : DataW.trod enc Try.prog w base spare held n 22 (([c0, c1, c2, c3].drop 3).take (Try.prog.cellsOf 22)) = some y3 := hf 3 _ rfl
        rw [C22] at g
        exact g
      obtain ⟨a, ha, _, _⟩ := DataW.trod_int Try.underlying3 g0
      obtain ⟨nm, hn, _, hsz⟩ := DataW.trod_string Try.underlying9 g1
      obtain ⟨b, hb, _, _⟩ := DataW.trod_int Try.underlying3 g2
      simp only [List.cons.injEq, and_true] at ha hn hb
      subst ha hn hb
      have hm : maxLen = 9223372036854775807 := by decide +kernel
      rcases DataW.trod_slice Try.underlying22 g3 with ⟨h3, _⟩ | ⟨ad, len, cap, elems, rest, m, hm1, h3, _, _, hl, hcap, hel, hrd, _, _⟩
      · simp only [List.cons.injEq, and_true] at h3
        subst h3
        refine ⟨⟨a, nm, b, []⟩, k24_mk w ⟨a, nm, b, []⟩ (A3 := none) (c3 := 0) (Nat.le_refl _) ⟨rfl, by simp, fun h => by simp at h⟩, ?_⟩
        rw [ok24]; exact ⟨by omega, by simp, by rw [oks24]; trivial⟩
      · simp only [List.cons.injEq, and_true] at h3
        subst h3
        have hall : ∀ i, i < len → ∃ t : S24, ok24 t ∧ ∃ c : List Value, c.length = 4 ∧ k24.K w t c ∧ ∀ j u, c[j]? = some u → w.cell? (ad.add (i * 4 + j)) = some u := by
          intro i hi
          have h4 := hrd i hi
          rw [hC, List.getElem?_eq_getElem (by omega)] at h4
          obtain ⟨c, hc, ht⟩ := Option.bind_eq_some_iff.1 h4
          obtain ⟨t, hK, hok⟩ := IH m (by omega) c _ ht
          obtain ⟨_, hcl, hat⟩ := World.cells?_some hc
          refine ⟨t, hok, c, hcl, hK, fun j u hj => ?_⟩
          have hj4 : j < 4 := by
            rcases Nat.lt_or_ge j 4 with h | h
            · exact h
            · rw [List.getElem?_eq_none (by omega)] at hj; simp at hj
          rw [← hj, ← hat j hj4, Go.Deep.add_add]
        obtain ⟨l, hll, hq⟩ := list_of len hall
        have hoks : oks24 l := oks24_of fun t ht => by
          obtain ⟨i, hi, rfl⟩ := List.getElem_of_mem ht
          exact (hq i _ (List.getElem?_eq_getElem hi)).1
        have hlc : l.length ≤ cap := by omega
        have hk := k24_mk w ⟨a, nm, b, l⟩ (A3 := some ad) (c3 := cap) hlc ⟨rfl, by show l.length ≤ _; omega, fun _ => ⟨ad, rfl, fun j p hj => by
          obtain ⟨_, c, h1, h2, h3⟩ := hq j p hj
          exact ⟨c, h1, h2, h3⟩⟩⟩
        refine ⟨⟨a, nm, b, l⟩, ?_, ?_⟩
        · have : (⟨a, nm, b, l⟩ : S24).f3.length = len := hll
          rw [this] at hk; exact hk
        · rw [ok24]; exact ⟨by omega, by omega, hoks⟩
end
/-! #### szTerm tells what is left of the weight -/
def szr (w : Nat) (left : Int) : Int := if (w : Int) ≤ left then left - w else -1
theorem szS_ev (n : Nat) (xs : List S24) (hlen : xs.length ≤ 1048576)
    (IH : ∀ x ∈ xs, ∀ left : Int, 0 ≤ left → left ≤ 1048576 → Ev (fun k => (i_sz n).f k x.f0 x.f1 x.f2 x.f3 left) (szr (wt24 x) left)) (d : Nat) :
    ∀ (i : Nat) (left : Int), i ≤ xs.length → xs.length - i = d → 0 ≤ left → left ≤ 1048576 →
    Ev (fun k => @laws_szTermS.l0 (i_sz n) k xs left i) (szr (wts24 (xs.drop i)) left) := by
  induction d with
  | zero =>
    intro i left hi hd h0 h1
    refine Ev.step (f := fun _ => some left) (fun k => ?_) ?_
    · simp only [laws_szTermS.l0]; rw [if_neg (by omega)]
    · rw [List.drop_eq_nil_of_le (by omega), wts24]
      unfold szr; rw [if_pos (by simpa using h0)]
      simpa using Ev.now left
  | succ d ih =>
    intro i left hi hd h0 h1
    have hlt : i < xs.length := by omega
    refine Ev.step (f := fun k => ((i_sz n).f k xs[i].f0 xs[i].f1 xs[i].f2 xs[i].f3 left).bind fun t => if t < 0 then some (-1) else @laws_szTermS.l0 (i_sz n) k xs t ((i + 1 : Nat) : Int)) (fun k => ?_) ?_
    · simp only [laws_szTermS.l0]
      rw [if_pos (by omega), if_pos (by omega), rd24_at xs i hlt, next_i i _ hlt hlen]
    · refine Ev.bind (f := fun k t => if t < 0 then some (-1) else @laws_szTermS.l0 (i_sz n) k xs t ((i + 1 : Nat) : Int)) (IH xs[i] (List.getElem_mem hlt) left h0 h1) ?_
      rw [List.drop_eq_getElem_cons hlt, wts24]
      unfold szr
      by_cases hc : (wt24 xs[i] : Int) ≤ left
      · rw [if_pos hc]
        have h2 := ih (i + 1) (left - wt24 xs[i]) (by omega) (by omega) (by omega) (by omega)
        unfold szr at h2
        have e : (if ((wt24 xs[i] + wts24 (xs.drop (i + 1)) : Nat) : Int) ≤ left then left - ((wt24 xs[i] + wts24 (xs.drop (i + 1)) : Nat) : Int) else -1) = (if (wts24 (xs.drop (i + 1)) : Int) ≤ left - wt24 xs[i] then left - wt24 xs[i] - (wts24 (xs.drop (i + 1)) : Int) else -1) := by
          by_cases h3 : (wts24 (xs.drop (i + 1)) : Int) ≤ left - wt24 xs[i]
          · rw [if_pos h3, if_pos (by omega)]; omega
          · rw [if_neg h3, if_neg (by omega)]
        rw [e]
        exact Ev.congr (fun k => if_neg (by omega)) h2
      · rw [if_neg hc, if_neg (by omega)]
        exact Ev.congr (fun k => if_pos (by omega)) (Ev.now (-1))
theorem sz_ev (n : Nat) : ∀ (t : S24), ok24 t → ht24 t ≤ n → ∀ left : Int, 0 ≤ left → left ≤ 1048576 → Ev (fun k => (i_sz n).f k t.f0 t.f1 t.f2 t.f3 left) (szr (wt24 t) left) := by
  induction n with
  | zero => intro t _ h; rw [ht24_eq] at h; omega
  | succ n ih =>
    intro t ho h left h0 h1
    rw [ht24_eq] at h
    obtain ⟨o1, o2, o3⟩ := (ok24_eq t).1 ho
    show Ev (fun k => @laws_szTerm.f (i_sz n) k t.f0 t.f1 t.f2 t.f3 left) _
    unfold laws_szTerm.f
    have e1 : wrap64 (left - (t.f1.size : Int)) = left - t.f1.size := by unfold wrap64; omega
    rw [e1, wt24_eq]
    by_cases c1 : left - (t.f1.size : Int) < 0
    · refine Ev.congr (fun k => if_pos c1) ?_
      unfold szr; rw [if_neg (by omega)]; exact Ev.now _
    refine Ev.congr (fun k => if_neg c1) ?_
    have hS : Ev (fun k => @laws_szTermS.f (i_sz n) k t.f3 (left - (t.f1.size : Int))) (szr (t.f3.length + wts24 t.f3) (left - (t.f1.size : Int))) := by
      unfold laws_szTermS.f
      have e2 : wrap64 (left - (t.f1.size : Int) - (t.f3.length : Int)) = left - t.f1.size - t.f3.length := by unfold wrap64; omega
      rw [e2]
      by_cases c2 : left - (t.f1.size : Int) - (t.f3.length : Int) < 0
      · refine Ev.congr (fun k => if_pos c2) ?_
        unfold szr; rw [if_neg (by omega)]; exact Ev.now _
      · refine Ev.congr (fun k => if_neg c2) ?_
        have := szS_ev n t.f3 (by omega) (fun x hx left h0 h1 => ih x (oks24_mem hx o3) (by have := hts24_mem hx; omega) left h0 h1) t.f3.length 0 (left - t.f1.size - t.f3.length) (by omega) (by omega) (by omega) (by omega)
        rw [List.drop_zero] at this
        have e : szr (t.f3.length + wts24 t.f3) (left - (t.f1.size : Int)) = szr (wts24 t.f3) (left - t.f1.size - t.f3.length) := by
          unfold szr
          by_cases h3 : (wts24 t.f3 : Int) ≤ left - t.f1.size - t.f3.length
          · rw [if_pos h3, if_pos (by omega)]; omega
          · rw [if_neg h3, if_neg (by omega)]
        rw [e]; exact this
    refine Ev.bind (f := fun _ t => if t < 0 then some (-1) else some t) hS ?_
    have e : szr (t.f1.size + (t.f3.length + wts24 t.f3)) left = szr (t.f3.length + wts24 t.f3) (left - (t.f1.size : Int)) := by
      unfold szr
      by_cases h3 : ((t.f3.length + wts24 t.f3 : Nat) : Int) ≤ left - t.f1.size
      · rw [if_pos h3, if_pos (by omega)]; omega
      · rw [if_neg h3, if_neg (by omega)]
    rw [e]
    by_cases c3 : szr (t.f3.length + wts24 t.f3) (left - (t.f1.size : Int)) < 0
    · have : szr (t.f3.length + wts24 t.f3) (left - (t.f1.size : Int)) = -1 := by
        unfold szr at c3 ⊢; split at c3 <;> rename_i h
        · omega
        · rw [if_neg h]
      rw [this]; exact Ev.now _
    · exact Ev.congr (fun k => if_neg c3) (Ev.now _)
/-! #### toTerm is the copy -/
theorem toS_ev (n : Nat) (xs : List S24) (hlen : xs.length ≤ 1048576)
    (IH : ∀ x ∈ xs, Ev (fun k => (i_to n).f k x.f0 x.f1 x.f2 x.f3) ((to29 x).f0, (to29 x).f1, (to29 x).f2, (to29 x).f3)) (d : Nat) :
    ∀ (i : Nat) (ys : List S29), i ≤ xs.length → xs.length - i = d → ys.length = xs.length →
    Ev (fun k => @laws_toTermS.l0 (i_to n) k xs ys i) (ys.take i ++ (xs.drop i).map to29) := by
  induction d with
  | zero =>
    intro i ys hi hd hy
    refine Ev.step (f := fun _ => some ys) (fun k => ?_) ?_
    · simp only [laws_toTermS.l0]; rw [if_neg (by omega)]
    · rw [List.drop_eq_nil_of_le (by omega), List.take_of_length_le (by omega)]
      simpa using Ev.now ys
  | succ d ih =>
    intro i ys hi hd hy
    have hlt : i < xs.length := by omega
    refine Ev.step (f := fun k => ((i_to n).f k xs[i].f0 xs[i].f1 xs[i].f2 xs[i].f3).bind fun b => @laws_toTermS.l0 (i_to n) k xs (ys.set i ⟨b.1, b.2.1, b.2.2.1, b.2.2.2⟩) ((i + 1 : Nat) : Int)) (fun k => ?_) ?_
    · simp only [laws_toTermS.l0]
      rw [if_pos (by omega), if_pos (by omega), rd24_at xs i hlt, next_i i _ hlt hlen]
      have : (i : Int) < (ys.length : Int) := by omega
      simp only [if_pos this, Int.toNat_natCast]
    · refine Ev.bind (f := fun k b => @laws_toTermS.l0 (i_to n) k xs (ys.set i ⟨b.1, b.2.1, b.2.2.1, b.2.2.2⟩) ((i + 1 : Nat) : Int)) (IH xs[i] (List.getElem_mem hlt)) ?_
      have h2 := ih (i + 1) (ys.set i (to29 xs[i])) (by omega) (by omega) (by rw [List.length_set]; exact hy)
      have e : ys.take i ++ (xs.drop i).map to29 = (ys.set i (to29 xs[i])).take (i + 1) ++ (xs.drop (i + 1)).map to29 := by
        have hl : i < (ys.set i (to29 xs[i])).length := by rw [List.length_set]; omega
        rw [List.drop_eq_getElem_cons hlt, List.map_cons, List.take_succ_eq_append_getElem hl, List.getElem_set_self, List.take_set_of_le (Nat.le_refl i)]
        simp
      rw [e]
      show Ev (fun k => @laws_toTermS.l0 (i_to n) k xs (ys.set i ⟨(to29 xs[i]).f0, (to29 xs[i]).f1, (to29 xs[i]).f2, (to29 xs[i]).f3⟩) ((i + 1 : Nat) : Int)) _
      rw [eta29]; exact h2
theorem to_ev (n : Nat) : ∀ (t : S24), ht24 t ≤ n → wt24 t ≤ 1048576 → Ev (fun k => (i_to n).f k t.f0 t.f1 t.f2 t.f3) ((to29 t).f0, (to29 t).f1, (to29 t).f2, (to29 t).f3) := by
  induction n with
  | zero => intro t h; rw [ht24_eq] at h; omega
  | succ n ih =>
    intro t h hw
    rw [ht24_eq] at h
    rw [wt24_eq] at hw
    show Ev (fun k => @laws_toTerm.f (i_to n) k t.f0 t.f1 t.f2 t.f3) _
    rw [to29_eq]
    unfold laws_toTerm.f
    refine Ev.bind (f := fun _ t119 => some (t.f0, t.f1, t.f2, t119)) (a := tos29 t.f3) ?_ (Ev.now _)
    unfold laws_toTermS.f
    refine Ev.congr (fun k => by rw [if_pos (by omega), if_pos (by omega)]) ?_
    have := toS_ev n t.f3 (by omega) (fun x hx => ih x (by have := hts24_mem hx; omega) (by have := wts24_mem hx; omega)) t.f3.length 0 (List.replicate t.f3.length z29) (by omega) (by omega) (by simp)
    rw [List.take_zero, List.drop_zero, List.nil_append, ← tos29_map] at this
    exact this
/-! #### eqTerm tells true of what is the same -/
theorem eqS_ev (n : Nat) (xs : List S29) (hlen : xs.length ≤ 1048576)
    (IH : ∀ x ∈ xs, Ev (fun k => (i_eq n).f k x.f0 x.f1 x.f2 x.f3 x.f0 x.f1 x.f2 x.f3) true) (d : Nat) :
    ∀ (i : Nat), i ≤ xs.length → xs.length - i = d → Ev (fun k => @laws_eqTermS.l0 (i_eq n) k xs xs i) true := by
  induction d with
  | zero =>
    intro i hi hd
    refine Ev.step (f := fun _ => some true) (fun k => ?_) (Ev.now _)
    simp only [laws_eqTermS.l0]; rw [if_neg (by omega)]
  | succ d ih =>
    intro i hi hd
    have hlt : i < xs.length := by omega
    refine Ev.step (f := fun k => ((i_eq n).f k xs[i].f0 xs[i].f1 xs[i].f2 xs[i].f3 xs[i].f0 xs[i].f1 xs[i].f2 xs[i].f3).bind fun b => if b = true then @laws_eqTermS.l0 (i_eq n) k xs xs ((i + 1 : Nat) : Int) else some false) (fun k => ?_) ?_
    · simp only [laws_eqTermS.l0]
      rw [if_pos (by omega), if_pos (by omega), if_pos (by omega), rd29_at xs i hlt, next_i i _ hlt hlen]
    · refine Ev.bind (f := fun k b => if b = true then @laws_eqTermS.l0 (i_eq n) k xs xs ((i + 1 : Nat) : Int) else some false) (IH xs[i] (List.getElem_mem hlt)) ?_
      exact Ev.congr (fun k => if_pos rfl) (ih (i + 1) (by omega) (by omega))
theorem eq_ev (n : Nat) : ∀ (t : S29), ht29 t ≤ n → cn29 t ≤ 1048577 → Ev (fun k => (i_eq n).f k t.f0 t.f1 t.f2 t.f3 t.f0 t.f1 t.f2 t.f3) true := by
  induction n with
  | zero => intro t h; rw [ht29_eq] at h; omega
  | succ n ih =>
    intro t h hc
    rw [ht29_eq] at h
    rw [cn29_eq] at hc
    have hcm : ∀ (ts : List S29), (∀ x ∈ ts, cn29 x ≤ cns29 ts) ∧ ts.length ≤ cns29 ts := by
      intro ts
      induction ts with
      | nil => exact ⟨fun x hx => by simp at hx, by simp⟩
      | cons a l ihl =>
        rw [cns29]
        have := cn29_eq a
        refine ⟨fun x hx => ?_, by simp only [List.length_cons]; have := ihl.2; omega⟩
        rcases List.mem_cons.1 hx with rfl | hx
        · omega
        · have := ihl.1 x hx; omega
    show Ev (fun k => @laws_eqTerm.f (i_eq n) k t.f0 t.f1 t.f2 t.f3 t.f0 t.f1 t.f2 t.f3) _
    unfold laws_eqTerm.f
    refine Ev.congr (fun k => by rw [if_pos rfl, if_pos rfl, if_pos rfl]) ?_
    refine Ev.bind (f := fun _ b => if b = true then some true else some false) (a := true) ?_ (Ev.now _)
    unfold laws_eqTermS.f
    refine Ev.congr (fun k => if_pos rfl) ?_
    exact eqS_ev n t.f3 (by have := (hcm t.f3).2; omega) (fun x hx => ih x (by have := hts29_mem hx; omega) (by have := (hcm t.f3).1 x hx; omega)) t.f3.length 0 (by omega) (by omega)
def roomr (c : Nat) (room : Int) : Int := if (c : Int) ≤ room then room - c else -1
theorem specS_ev (q0 : Int) (q1 : ByteArray) (q2 : Int) (xs : List S29) (hlen : xs.length ≤ 1048576) (IH : ∀ x ∈ xs, ∀ room : Int, 0 ≤ room → room ≤ 1000 → Ev (fun k => spec_l03Count.f k x.f0 x.f1 x.f2 x.f3 room) (roomr (cn29 x) room)) (d : Nat) :
    ∀ (i : Nat) (room : Int), i ≤ xs.length → xs.length - i = d → -1 ≤ room → room ≤ 1000 → Ev (fun k => spec_l03Count.l0 k room i q0 q1 q2 xs) (if 0 ≤ room then roomr (cns29 (xs.drop i)) room else room) := by
  induction d with
  | zero =>
    intro i room hi hd h0 h1
    refine Ev.step (f := fun _ => some room) (fun k => ?_) ?_
    · simp only [spec_l03Count.l0]; rw [if_neg (by omega)]
    · rw [List.drop_eq_nil_of_le (by omega), cns29]
      have : (if 0 ≤ room then roomr 0 room else room) = room := by
        split
        · unfold roomr; rw [if_pos (by omega)]; omega
        · rfl
      rw [this]; exact Ev.now _
  | succ d ih =>
    intro i room hi hd h0 h1
    have hlt : i < xs.length := by omega
    by_cases hr : 0 ≤ room
    · refine Ev.step (f := fun k => (spec_l03Count.f k xs[i].f0 xs[i].f1 xs[i].f2 xs[i].f3 room).bind fun t => spec_l03Count.l0 k t ((i + 1 : Nat) : Int) q0 q1 q2 xs) (fun k => ?_) ?_
      · simp only [spec_l03Count.l0]
        rw [if_pos (by omega), if_pos (by omega), if_pos (by omega), rd29_at xs i hlt, next_i i _ hlt hlen]
      · refine Ev.bind (f := fun k t => spec_l03Count.l0 k t ((i + 1 : Nat) : Int) q0 q1 q2 xs) (IH xs[i] (List.getElem_mem hlt) room hr h1) ?_
        have hb : -1 ≤ roomr (cn29 xs[i]) room ∧ roomr (cn29 xs[i]) room ≤ 1000 := by unfold roomr; split <;> omega
        have := ih (i + 1) (roomr (cn29 xs[i]) room) (by omega) (by omega) hb.1 hb.2
        rw [if_pos hr, List.drop_eq_getElem_cons hlt, cns29]
        have e : roomr (cn29 xs[i] + cns29 (xs.drop (i + 1))) room = (if 0 ≤ roomr (cn29 xs[i]) room then roomr (cns29 (xs.drop (i + 1))) (roomr (cn29 xs[i]) room) else roomr (cn29 xs[i]) room) := by
          unfold roomr
          repeat' split
          all_goals omega
        rw [e]; exact this
    · refine Ev.step (f := fun _ => some room) (fun k => ?_) ?_
      · simp only [spec_l03Count.l0]; rw [if_pos (by omega), if_neg (by omega)]
      · rw [if_neg hr]; exact Ev.now _
theorem count_ev (n : Nat) : ∀ (t : S29), ht29 t ≤ n → cn29 t ≤ 1048577 → ∀ room : Int, 0 ≤ room → room ≤ 1000 → Ev (fun k => spec_l03Count.f k t.f0 t.f1 t.f2 t.f3 room) (roomr (cn29 t) room) := by
  induction n with
  | zero => intro t h; rw [ht29_eq] at h; omega
  | succ n ih =>
    intro t h hc room h0 h1
    rw [ht29_eq] at h
    rw [cn29_eq] at hc ⊢
    have e : wrap64 (room - 1) = room - 1 := t_wrap (by omega) (by omega)
    refine Ev.step (f := fun k => spec_l03Count.l0 k (room - 1) 0 t.f0 t.f1 t.f2 t.f3) (fun k => by simp only [spec_l03Count.f, e]) ?_
    have := specS_ev t.f0 t.f1 t.f2 t.f3 (by have := cns29_len t.f3; omega) (fun x hx => ih x (by have := hts29_mem hx; omega) (by have := cns29_mem hx; omega)) t.f3.length 0 (room - 1) (by omega) (by omega) (by omega) (by omega)
    rw [List.drop_zero] at this
    have e2 : roomr (cns29 t.f3 + 1) room = (if 0 ≤ room - 1 then roomr (cns29 t.f3) (room - 1) else room - 1) := by
      unfold roomr
      by_cases c1 : ((cns29 t.f3 + 1 : Nat) : Int) ≤ room
      · rw [if_pos c1, if_pos (by omega), if_pos (by omega)]; omega
      · rw [if_neg c1]
        by_cases c2 : 0 ≤ room - 1
        · rw [if_pos c2, if_neg (by omega)]
        · rw [if_neg c2]; omega
    rw [e2]; exact this
/-! #### TermOk, both ways -/
def okByte (c : Int) : Bool := decide (33 ≤ c ∧ c ≤ 126 ∧ c ≠ 39 ∧ c ≠ 34)
def nameB (s : ByteArray) : Bool := ((bytesOf s).all okByte) && decide (1 ≤ (s.size : Int) ∧ (s.size : Int) ≤ 20)
theorem drop_bytes (s : ByteArray) (i : Nat) (h : i < s.size) : (bytesOf s).drop i = bt s i :: (bytesOf s).drop (i + 1) := by
  have hl : i < (bytesOf s).length := by rw [bytesOf_length]; exact h
  rw [List.drop_eq_getElem_cons hl]
  congr 1
  have := rd_bytesOf s i
  unfold rd at this
  rw [← this]
  simp [List.getD, hl]
theorem in_spec (a b c : Int) : spec_l01In.f a b c = some (decide (b ≤ a ∧ a ≤ c)) := by
  unfold spec_l01In.f
  by_cases h : a ≥ b
  · rw [if_pos h]; congr 1; rw [decide_eq_decide]; omega
  · rw [if_neg h]; congr 1; symm; rw [decide_eq_false_iff_not]; omega
theorem in_impl (a b c : Int) : impl_within.f a b c = some (decide (b ≤ a ∧ a ≤ c)) := by
  unfold impl_within.f
  by_cases h : a ≥ b
  · rw [if_pos h]; congr 1; rw [decide_eq_decide]; omega
  · rw [if_neg h]; congr 1; symm; rw [decide_eq_false_iff_not]; omega
theorem name_spec_l (s : ByteArray) (hs : s.size ≤ 1048576) (d : Nat) : ∀ i : Nat, i ≤ s.size → s.size - i = d →
    Ev (fun k => spec_l03Name.l0 k s i) (((bytesOf s).drop i).all okByte && decide (1 ≤ (s.size : Int) ∧ (s.size : Int) ≤ 20)) := by
  induction d with
  | zero =>
    intro i hi hd
    refine Ev.step (f := fun _ => some (decide (1 ≤ (s.size : Int) ∧ (s.size : Int) ≤ 20))) (fun k => ?_) ?_
    · simp only [spec_l03Name.l0]; rw [if_neg (by omega), in_spec]; rfl
    · rw [List.drop_eq_nil_of_le (by rw [bytesOf_length]; omega)]; exact Ev.now _
  | succ d ih =>
    intro i hi hd
    have hlt : i < s.size := by omega
    rw [drop_bytes s i hlt, List.all_cons]
    have hstep : ∀ k, spec_l03Name.l0 (k + 1) s i = if okByte (bt s i) = true then spec_l03Name.l0 k s ((i + 1 : Nat) : Int) else some false := by
      intro k
      simp only [spec_l03Name.l0]
      rw [if_pos (by omega), if_pos (by omega), next_i i _ hlt hs]
      unfold okByte
      simp only [decide_eq_true_eq]
      by_cases c1 : bt s i < 33
      · rw [if_pos c1, if_neg (by omega)]
      · by_cases c2 : bt s i > 126
        · rw [if_neg c1, if_pos c2, if_neg (by omega)]
        · by_cases c3 : bt s i = 39
          · rw [if_neg c1, if_neg c2, if_pos c3, if_neg (by omega)]
          · by_cases c4 : bt s i = 34
            · rw [if_neg c1, if_neg c2, if_neg c3, if_pos c4, if_neg (by omega)]
            · rw [if_neg c1, if_neg c2, if_neg c3, if_neg c4, if_pos (by omega)]
    refine Ev.step hstep ?_
    cases hb : okByte (bt s i) with
    | true =>
      refine Ev.congr (fun k => if_pos rfl) ?_
      rw [Bool.true_and]
      exact ih (i + 1) (by omega) (by omega)
    | false =>
      refine Ev.congr (fun k => if_neg (by simp)) ?_
      rw [Bool.false_and, Bool.false_and]; exact Ev.now _
theorem name_spec (s : ByteArray) (hs : s.size ≤ 1048576) : Ev (fun k => spec_l03Name.f k s) (nameB s) := by
  have := name_spec_l s hs s.size 0 (by omega) (by omega)
  rw [List.drop_zero] at this; exact this
theorem name_impl_l (s : ByteArray) (hs : s.size ≤ 1048576) (d : Nat) : ∀ i : Nat, i ≤ s.size → s.size - i = d →
    Ev (fun k => impl_nameOk.l0 k s i) (((bytesOf s).drop i).all okByte && decide (1 ≤ (s.size : Int) ∧ (s.size : Int) ≤ 20)) := by
  induction d with
  | zero =>
    intro i hi hd
    refine Ev.step (f := fun _ => some (decide (1 ≤ (s.size : Int) ∧ (s.size : Int) ≤ 20))) (fun k => ?_) ?_
    · simp only [impl_nameOk.l0]; rw [if_neg (by omega), in_impl]; rfl
    · rw [List.drop_eq_nil_of_le (by rw [bytesOf_length]; omega)]; exact Ev.now _
  | succ d ih =>
    intro i hi hd
    have hlt : i < s.size := by omega
    rw [drop_bytes s i hlt, List.all_cons]
    have hstep : ∀ k, impl_nameOk.l0 (k + 1) s i = if okByte (bt s i) = true then impl_nameOk.l0 k s ((i + 1 : Nat) : Int) else some false := by
      intro k
      have hbr := bt_range s i
      have hwb : wrap64 (bt s i) = bt s i := t_wrap (by omega) (by omega)
      simp only [impl_nameOk.l0]
      rw [if_pos (by omega), if_pos (by omega), next_i i _ hlt hs, hwb, in_impl]
      clear hwb
      unfold okByte
      simp only [decide_eq_true_eq, Option.bind_some]
      by_cases c1 : 33 ≤ bt s i ∧ bt s i ≤ 126
      · by_cases c3 : bt s i = 39
        · rw [if_pos c1, if_pos c3, if_neg (by omega)]
        · by_cases c4 : bt s i = 34
          · rw [if_pos c1, if_neg c3, if_pos c4, if_neg (by omega)]
          · rw [if_pos c1, if_neg c3, if_neg c4, if_pos (by omega)]
      · rw [if_neg c1, if_neg (by omega)]
    refine Ev.step hstep ?_
    cases hb : okByte (bt s i) with
    | true =>
      refine Ev.congr (fun k => if_pos rfl) ?_
      rw [Bool.true_and]
      exact ih (i + 1) (by omega) (by omega)
    | false =>
      refine Ev.congr (fun k => if_neg (by simp)) ?_
      rw [Bool.false_and, Bool.false_and]; exact Ev.now _
theorem name_impl (s : ByteArray) (hs : s.size ≤ 1048576) : Ev (fun k => impl_nameOk.f k s) (nameB s) := by
  have := name_impl_l s hs s.size 0 (by omega) (by omega)
  rw [List.drop_zero] at this; exact this
/-- Is a term right, but for its kids? -/
def oneB (t : S29) : Bool :=
  if t.f0 = 1 then decide (0 ≤ t.f2 ∧ t.f2 ≤ 99999) && decide (t.f1.toList = []) && decide (t.f3.length = 0)
  else if t.f0 = 2 then nameB t.f1 && decide (t.f2 = 0) && decide (t.f3.length = 0)
  else if t.f0 = 3 then decide (-999999999 ≤ t.f2 ∧ t.f2 ≤ 999999999) && decide (t.f1.toList = []) && decide (t.f3.length = 0)
  else if t.f0 = 4 then nameB t.f1 && decide (t.f2 = 0) && decide (1 ≤ (t.f3.length : Int) ∧ (t.f3.length : Int) ≤ 5)
  else false
theorem len0 (n : Nat) : ((n : Int) == 0) = decide (n = 0) := by
  by_cases h : n = 0
  · subst h; rfl
  · have : ¬ (n : Int) = 0 := by omega
    simp [h]
theorem one_spec (t : S29) (hs : t.f1.size ≤ 1048576) : Ev (fun k => spec_l03One.f k t.f0 t.f1 t.f2 t.f3) (oneB t) := by
  unfold spec_l03One.f oneB
  have hn := name_spec t.f1 hs
  simp only [in_spec, Option.bind_some, len0]
  by_cases c1 : t.f0 = 1
  · simp only [if_pos c1]
    by_cases a1 : 0 ≤ t.f2 ∧ t.f2 ≤ 99999
    · by_cases a2 : t.f1.toList = []
      · simp only [decide_eq_true a1, if_true, a2, Bool.true_and]; exact Ev.now _
      · simp only [decide_eq_true a1, decide_eq_false a2, if_true, if_neg a2, Bool.true_and, Bool.false_and]; exact Ev.now _
    · simp only [decide_eq_false a1, Bool.false_and, Bool.false_eq_true, if_false]; exact Ev.now _
  · simp only [if_neg c1]
    by_cases c2 : t.f0 = 2
    · simp only [if_pos c2]
      refine Ev.bind hn ?_
      cases nameB t.f1
      · simp only [Bool.false_and, Bool.false_eq_true, if_false]; exact Ev.now _
      · by_cases a2 : t.f2 = 0
        · simp only [if_true, a2, Bool.true_and]; exact Ev.now _
        · simp only [decide_eq_false a2, if_true, if_neg a2, Bool.true_and, Bool.false_and]; exact Ev.now _
    · simp only [if_neg c2]
      by_cases c3 : t.f0 = 3
      · simp only [if_pos c3]
        by_cases a1 : -999999999 ≤ t.f2 ∧ t.f2 ≤ 999999999
        · by_cases a2 : t.f1.toList = []
          · simp only [decide_eq_true a1, if_true, a2, Bool.true_and]; exact Ev.now _
          · simp only [decide_eq_true a1, decide_eq_false a2, if_true, if_neg a2, Bool.true_and, Bool.false_and]; exact Ev.now _
        · simp only [decide_eq_false a1, Bool.false_and, Bool.false_eq_true, if_false]; exact Ev.now _
      · simp only [if_neg c3]
        by_cases c4 : t.f0 = 4
        · simp only [if_pos c4]
          refine Ev.bind hn ?_
          cases nameB t.f1
          · simp only [Bool.false_and, Bool.false_eq_true, if_false]; exact Ev.now _
          · by_cases a2 : t.f2 = 0
            · simp only [if_true, a2, Bool.true_and]; exact Ev.now _
            · simp only [decide_eq_false a2, if_true, if_neg a2, Bool.true_and, Bool.false_and]; exact Ev.now _
        · simp only [if_neg c4]; exact Ev.now _
mutual
def nm29 : S29 → Prop
  | ⟨_, n, _, ks⟩ => n.size ≤ 1048576 ∧ nms29 ks
def nms29 : List S29 → Prop
  | [] => True
  | t :: ts => nm29 t ∧ nms29 ts
end
theorem nm29_eq (t : S29) : nm29 t ↔ t.f1.size ≤ 1048576 ∧ nms29 t.f3 := by cases t; rw [nm29]
theorem nms29_mem {ts : List S29} {t : S29} (h : t ∈ ts) (ho : nms29 ts) : nm29 t := by
  induction ts with
  | nil => simp at h
  | cons a l ih =>
    rw [nms29] at ho
    rcases List.mem_cons.1 h with rfl | h
    · exact ho.1
    · exact ih h ho.2
mutual
def rt29 : S29 → Int → Bool
  | ⟨a, n, b, ks⟩, deep => decide (deep ≤ 40) && (oneB ⟨a, n, b, ks⟩ && rts29 ks (deep + 1))
def rts29 : List S29 → Int → Bool
  | [], _ => true
  | t :: ts, deep => rt29 t deep && rts29 ts deep
end
theorem rt29_eq (t : S29) (d : Int) : rt29 t d = (decide (d ≤ 40) && (oneB t && rts29 t.f3 (d + 1))) := by cases t; rw [rt29]
theorem rightS_ev (q0 : Int) (q1 : ByteArray) (q2 : Int) (deep : Int) (hdp : 0 ≤ deep ∧ deep ≤ 40) (xs : List S29) (hlen : xs.length ≤ 1048576)
    (IH : ∀ x ∈ xs, Ev (fun k => spec_l03Right.f k x.f0 x.f1 x.f2 x.f3 (deep + 1)) (rt29 x (deep + 1))) (d : Nat) :
    ∀ i : Nat, i ≤ xs.length → xs.length - i = d → Ev (fun k => spec_l03Right.l0 k deep i q0 q1 q2 xs) (rts29 (xs.drop i) (deep + 1)) := by
  induction d with
  | zero =>
    intro i hi hd
    refine Ev.step (f := fun _ => some true) (fun k => ?_) ?_
    · simp only [spec_l03Right.l0]; rw [if_neg (by omega)]
    · rw [List.drop_eq_nil_of_le (by omega), rts29]; exact Ev.now _
  | succ d ih =>
    intro i hi hd
    have hlt : i < xs.length := by omega
    refine Ev.step (f := fun k => (spec_l03Right.f k xs[i].f0 xs[i].f1 xs[i].f2 xs[i].f3 (deep + 1)).bind fun t => if t = true then spec_l03Right.l0 k deep ((i + 1 : Nat) : Int) q0 q1 q2 xs else some false) (fun k => ?_) ?_
    · simp only [spec_l03Right.l0]
      rw [if_pos (by omega), if_pos (by omega), rd29_at xs i hlt, next_i i _ hlt hlen, t_wrap (i := deep + 1) (by omega) (by omega)]
    · refine Ev.bind (IH xs[i] (List.getElem_mem hlt)) ?_
      rw [List.drop_eq_getElem_cons hlt, rts29]
      cases rt29 xs[i] (deep + 1)
      · rw [Bool.false_and]; exact Ev.congr (fun k => if_neg (by simp)) (Ev.now _)
      · rw [Bool.true_and]; exact Ev.congr (fun k => if_pos rfl) (ih (i + 1) (by omega) (by omega))
theorem right_ev (n : Nat) : ∀ (t : S29), ht29 t ≤ n → cn29 t ≤ 1048577 → nm29 t → ∀ deep : Int, 0 ≤ deep → deep ≤ 100 → Ev (fun k => spec_l03Right.f k t.f0 t.f1 t.f2 t.f3 deep) (rt29 t deep) := by
  induction n with
  | zero => intro t h; rw [ht29_eq] at h; omega
  | succ n ih =>
    intro t h hc hnm deep h0 h1
    rw [ht29_eq] at h
    rw [cn29_eq] at hc
    obtain ⟨n1, n2⟩ := (nm29_eq t).1 hnm
    rw [rt29_eq]
    by_cases cd : deep > 40
    · refine Ev.step (f := fun k => spec_l03Right.j0 k deep true t.f0 t.f1 t.f2 t.f3) (fun k => by simp only [spec_l03Right.f, if_pos cd]) ?_
      refine Ev.step (f := fun _ => some false) (fun k => by simp only [spec_l03Right.j0, if_true]) ?_
      rw [decide_eq_false (by omega), Bool.false_and]; exact Ev.now _
    · rw [decide_eq_true (by omega), Bool.true_and]
      refine Ev.step (f := fun k => (spec_l03One.f k t.f0 t.f1 t.f2 t.f3).bind fun t169 => spec_l03Right.j0 k deep (!t169) t.f0 t.f1 t.f2 t.f3) (fun k => by simp only [spec_l03Right.f, if_neg cd]) ?_
      refine Ev.bind (f := fun k t169 => spec_l03Right.j0 k deep (!t169) t.f0 t.f1 t.f2 t.f3) (one_spec t n1) ?_
      cases oneB t
      · refine Ev.step (f := fun _ => some false) (fun k => by simp only [spec_l03Right.j0, Bool.not_false, if_true]) ?_
        rw [Bool.false_and]; exact Ev.now _
      · refine Ev.step (f := fun k => spec_l03Right.l0 k deep 0 t.f0 t.f1 t.f2 t.f3) (fun k => by simp only [spec_l03Right.j0, Bool.not_true, Bool.false_eq_true, if_false]) ?_
        rw [Bool.true_and]
        have := rightS_ev t.f0 t.f1 t.f2 deep ⟨h0, by omega⟩ t.f3 (by have := cns29_len t.f3; omega) (fun x hx => ih x (by have := hts29_mem hx; omega) (by have := cns29_mem hx; omega) (nms29_mem hx n2) (deep + 1) (by omega) (by omega)) t.f3.length 0 (by omega) (by omega)
        rw [List.drop_zero] at this; exact this
theorem spec_ok_ev (t : S29) (hc : cn29 t ≤ 1048577) (hnm : nm29 t) : Ev (fun k => spec_TermOk.f k t.f0 t.f1 t.f2 t.f3) (decide (cn29 t ≤ 400) && rt29 t 1) := by
  unfold spec_TermOk.f
  refine Ev.bind (f := fun k t173 => if t173 ≥ 0 then ((spec_l03Right.f k t.f0 t.f1 t.f2 t.f3 1).bind fun t174 => some t174) else some false) (count_ev (ht29 t) t (Nat.le_refl _) hc 400 (by omega) (by omega)) ?_
  unfold roomr
  by_cases c1 : cn29 t ≤ 400
  · rw [if_pos (by omega), decide_eq_true c1, Bool.true_and]
    refine Ev.congr (fun k => if_pos (by omega)) ?_
    exact Ev.bind (f := fun _ t174 => some t174) (right_ev (ht29 t) t (Nat.le_refl _) hc hnm 1 (by omega) (by omega)) (Ev.now _)
  · rw [if_neg (by omega), decide_eq_false c1, Bool.false_and]
    exact Ev.congr (fun k => if_neg (by omega)) (Ev.now _)
def szd (b : Bool) (c : Nat) : Int := if b = true ∧ c ≤ 400 then (c : Int) else 401
theorem szd_range (b : Bool) (c : Nat) : 0 ≤ szd b c ∧ szd b c ≤ 401 := by unfold szd; split <;> omega
theorem sizedS_ev (deep : Int) (hdp : 0 ≤ deep ∧ deep ≤ 40) (xs : List S29) (hlen : xs.length ≤ 1048576)
    (IH : ∀ x ∈ xs, Ev (fun k => impl_sized.f k x.f0 x.f1 x.f2 x.f3 (deep + 1)) (szd (rt29 x (deep + 1)) (cn29 x))) (d : Nat) :
    ∀ i a : Nat, i ≤ xs.length → xs.length - i = d → a ≤ 400 → Ev (fun k => impl_sized.l0 k deep (a : Int) xs (xs.length : Int) i) (szd (rts29 (xs.drop i) (deep + 1)) (a + cns29 (xs.drop i))) := by
  induction d with
  | zero =>
    intro i a hi hd ha
    refine Ev.step (f := fun _ => some (a : Int)) (fun k => ?_) ?_
    · simp only [impl_sized.l0]; rw [if_neg (by omega)]
    · rw [List.drop_eq_nil_of_le (by omega), rts29, cns29]
      unfold szd; rw [if_pos ⟨rfl, by omega⟩]; exact Ev.now _
  | succ d ih =>
    intro i a hi hd ha
    have hlt : i < xs.length := by omega
    refine Ev.step (f := fun k => (impl_sized.f k xs[i].f0 xs[i].f1 xs[i].f2 xs[i].f3 (deep + 1)).bind fun t => if wrap64 ((a : Int) + t) > 400 then some 401 else impl_sized.l0 k deep (wrap64 ((a : Int) + t)) xs (xs.length : Int) ((i + 1 : Nat) : Int)) (fun k => ?_) ?_
    · simp only [impl_sized.l0]
      rw [if_pos (by omega), if_pos (by omega), if_pos (by omega), rd29_at xs i hlt, next_i i _ hlt hlen, t_wrap (i := deep + 1) (by omega) (by omega)]
    · refine Ev.bind (f := fun k t => if wrap64 ((a : Int) + t) > 400 then some 401 else impl_sized.l0 k deep (wrap64 ((a : Int) + t)) xs (xs.length : Int) ((i + 1 : Nat) : Int)) (IH xs[i] (List.getElem_mem hlt)) ?_
      rw [List.drop_eq_getElem_cons hlt, cns29, rts29]
      by_cases h1 : rt29 xs[i] (deep + 1) = true ∧ cn29 xs[i] ≤ 400
      · have e0 : szd (rt29 xs[i] (deep + 1)) (cn29 xs[i]) = cn29 xs[i] := by unfold szd; rw [if_pos h1]
        have e : wrap64 ((a : Int) + (cn29 xs[i] : Int)) = ((a + cn29 xs[i] : Nat) : Int) := by rw [t_wrap (by omega) (by omega)]; omega
        rw [e0, e, h1.1, Bool.true_and]
        clear e e0
        by_cases h2 : a + cn29 xs[i] ≤ 400
        · have := ih (i + 1) (a + cn29 xs[i]) (by omega) (by omega) h2
          rw [show a + (cn29 xs[i] + cns29 (xs.drop (i + 1))) = a + cn29 xs[i] + cns29 (xs.drop (i + 1)) by omega]
          exact Ev.congr (fun k => if_neg (by omega)) this
        · unfold szd
          rw [if_neg (by intro h; omega)]
          exact Ev.congr (fun k => if_pos (by omega)) (Ev.now _)
      · have e0 : szd (rt29 xs[i] (deep + 1)) (cn29 xs[i]) = 401 := by unfold szd; rw [if_neg h1]
        have e2 : szd (rt29 xs[i] (deep + 1) && rts29 (xs.drop (i + 1)) (deep + 1)) (a + (cn29 xs[i] + cns29 (xs.drop (i + 1)))) = 401 := by
          unfold szd
          rw [if_neg]
          intro h
          rw [Bool.and_eq_true] at h
          exact h1 ⟨h.1.1, by omega⟩
        rw [e0, e2]
        exact Ev.congr (fun k => if_pos (by rw [t_wrap (by omega) (by omega)]; omega)) (Ev.now _)
theorem sized_ev (n : Nat) : ∀ (t : S29), ht29 t ≤ n → cn29 t ≤ 1048577 → nm29 t → ∀ deep : Int, 0 ≤ deep → deep ≤ 100 → Ev (fun k => impl_sized.f k t.f0 t.f1 t.f2 t.f3 deep) (szd (rt29 t deep) (cn29 t)) := by
  induction n with
  | zero => intro t h; rw [ht29_eq] at h; omega
  | succ n ih =>
    intro t h hc hnm deep h0 h1
    rw [ht29_eq] at h
    rw [cn29_eq] at hc
    obtain ⟨n1, n2⟩ := (nm29_eq t).1 hnm
    have hname := name_impl t.f1 n1
    rw [rt29_eq]
    by_cases cd : deep > 40
    · refine Ev.step (f := fun _ => some 401) (fun k => by simp only [impl_sized.f, if_pos cd]) ?_
      rw [decide_eq_false (by omega), Bool.false_and]; exact Ev.now _
    · rw [decide_eq_true (by omega), Bool.true_and]
      have hkids : oneB t = true → Ev (fun k => impl_sized.j0 k deep t.f0 t.f1 t.f2 t.f3) (szd (oneB t && rts29 t.f3 (deep + 1)) (cn29 t)) := by
        intro hone
        refine Ev.step (f := fun k => impl_sized.l0 k deep 1 t.f3 (t.f3.length : Int) 0) (fun k => by simp only [impl_sized.j0]) ?_
        have := sizedS_ev deep ⟨h0, by omega⟩ t.f3 (by have := cns29_len t.f3; omega) (fun x hx => ih x (by have := hts29_mem hx; omega) (by have := cns29_mem hx; omega) (nms29_mem hx n2) (deep + 1) (by omega) (by omega)) t.f3.length 0 1 (by omega) (by omega) (by omega)
        rw [List.drop_zero] at this
        rw [hone, Bool.true_and, cn29_eq, Nat.add_comm]; exact this
      have hbad : oneB t = false → szd (oneB t && rts29 t.f3 (deep + 1)) (cn29 t) = 401 := by
        intro hone; rw [hone, Bool.false_and]; unfold szd; rw [if_neg (by simp)]
      by_cases c1 : t.f0 = 1
      · have hone : oneB t = (decide (0 ≤ t.f2 ∧ t.f2 ≤ 99999) && decide (t.f1.toList = []) && decide (t.f3.length = 0)) := by unfold oneB; rw [if_pos c1]
        refine Ev.step (f := fun k => if t.f1.toList = ([] : List UInt8) then (if decide (0 ≤ t.f2 ∧ t.f2 ≤ 99999) = true then (if (t.f3.length : Int) > 0 then some 401 else impl_sized.j0 k deep t.f0 t.f1 t.f2 t.f3) else some 401) else some 401) (fun k => by simp only [impl_sized.f, if_neg cd, if_pos c1, in_impl, Option.bind_some]) ?_
        by_cases a1 : t.f1.toList = []
        · by_cases a2 : 0 ≤ t.f2 ∧ t.f2 ≤ 99999
          · by_cases a3 : (t.f3.length : Int) > 0
            · rw [hbad (by rw [hone, decide_eq_false (show ¬ t.f3.length = 0 by omega), Bool.and_false])]
              simp only [if_pos a1, decide_eq_true a2, if_true, if_pos a3]; exact Ev.now _
            · have := hkids (by rw [hone, decide_eq_true a1, decide_eq_true a2, decide_eq_true (show t.f3.length = 0 by omega)]; rfl)
              simp only [if_pos a1, decide_eq_true a2, if_true, if_neg a3]; exact this
          · rw [hbad (by rw [hone, decide_eq_false a2]; rfl)]
            simp only [if_pos a1, decide_eq_false a2, Bool.false_eq_true, if_false]; exact Ev.now _
        · rw [hbad (by rw [hone, decide_eq_false a1, Bool.and_false]; rfl)]
          simp only [if_neg a1]; exact Ev.now _
      by_cases c2 : t.f0 = 2
      · have hone : oneB t = (nameB t.f1 && decide (t.f2 = 0) && decide (t.f3.length = 0)) := by unfold oneB; rw [if_neg c1, if_pos c2]
        refine Ev.step (f := fun k => (impl_nameOk.f k t.f1).bind fun t179 => if t179 = true then (if t.f2 = 0 then (if (t.f3.length : Int) > 0 then some 401 else impl_sized.j0 k deep t.f0 t.f1 t.f2 t.f3) else some 401) else some 401) (fun k => by simp only [impl_sized.f, if_neg cd, if_neg c1, if_pos c2]) ?_
        refine Ev.bind (f := fun k t179 => if t179 = true then (if t.f2 = 0 then (if (t.f3.length : Int) > 0 then some 401 else impl_sized.j0 k deep t.f0 t.f1 t.f2 t.f3) else some 401) else some 401) hname ?_
        cases a1 : nameB t.f1 with
        | false =>
          rw [hbad (by rw [hone, a1]; rfl)]
          simp only [Bool.false_eq_true, if_false]; exact Ev.now _
        | true =>
          by_cases a2 : t.f2 = 0
          · by_cases a3 : (t.f3.length : Int) > 0
            · rw [hbad (by rw [hone, decide_eq_false (show ¬ t.f3.length = 0 by omega), Bool.and_false])]
              simp only [if_true, if_pos a2, if_pos a3]; exact Ev.now _
            · have := hkids (by rw [hone, a1, decide_eq_true a2, decide_eq_true (show t.f3.length = 0 by omega)]; rfl)
              simp only [if_true, if_pos a2, if_neg a3]; exact this
          · rw [hbad (by rw [hone, decide_eq_false a2, Bool.and_false]; rfl)]
            simp only [if_true, if_neg a2]; exact Ev.now _
      by_cases c3 : t.f0 = 3
      · have hone : oneB t = (decide (-999999999 ≤ t.f2 ∧ t.f2 ≤ 999999999) && decide (t.f1.toList = []) && decide (t.f3.length = 0)) := by unfold oneB; rw [if_neg c1, if_neg c2, if_pos c3]
        refine Ev.step (f := fun k => if t.f1.toList = ([] : List UInt8) then (if decide (-999999999 ≤ t.f2 ∧ t.f2 ≤ 999999999) = true then (if (t.f3.length : Int) > 0 then some 401 else impl_sized.j0 k deep t.f0 t.f1 t.f2 t.f3) else some 401) else some 401) (fun k => by simp only [impl_sized.f, if_neg cd, if_neg c1, if_neg c2, if_pos c3, in_impl, Option.bind_some]) ?_
        by_cases a1 : t.f1.toList = []
        · by_cases a2 : -999999999 ≤ t.f2 ∧ t.f2 ≤ 999999999
          · by_cases a3 : (t.f3.length : Int) > 0
            · rw [hbad (by rw [hone, decide_eq_false (show ¬ t.f3.length = 0 by omega), Bool.and_false])]
              simp only [if_pos a1, decide_eq_true a2, if_true, if_pos a3]; exact Ev.now _
            · have := hkids (by rw [hone, decide_eq_true a1, decide_eq_true a2, decide_eq_true (show t.f3.length = 0 by omega)]; rfl)
              simp only [if_pos a1, decide_eq_true a2, if_true, if_neg a3]; exact this
          · rw [hbad (by rw [hone, decide_eq_false a2]; rfl)]
            simp only [if_pos a1, decide_eq_false a2, Bool.false_eq_true, if_false]; exact Ev.now _
        · rw [hbad (by rw [hone, decide_eq_false a1, Bool.and_false]; rfl)]
          simp only [if_neg a1]; exact Ev.now _
      by_cases c4 : t.f0 = 4
      · have hone : oneB t = (nameB t.f1 && decide (t.f2 = 0) && decide (1 ≤ (t.f3.length : Int) ∧ (t.f3.length : Int) ≤ 5)) := by unfold oneB; rw [if_neg c1, if_neg c2, if_neg c3, if_pos c4]
        refine Ev.step (f := fun k => (impl_nameOk.f k t.f1).bind fun t181 => if t181 = true then (if t.f2 = 0 then (if decide (1 ≤ (t.f3.length : Int) ∧ (t.f3.length : Int) ≤ 5) = true then impl_sized.j0 k deep t.f0 t.f1 t.f2 t.f3 else some 401) else some 401) else some 401) (fun k => by simp only [impl_sized.f, if_neg cd, if_neg c1, if_neg c2, if_neg c3, if_pos c4, in_impl, Option.bind_some]) ?_
        refine Ev.bind (f := fun k t181 => if t181 = true then (if t.f2 = 0 then (if decide (1 ≤ (t.f3.length : Int) ∧ (t.f3.length : Int) ≤ 5) = true then impl_sized.j0 k deep t.f0 t.f1 t.f2 t.f3 else some 401) else some 401) else some 401) hname ?_
        cases a1 : nameB t.f1 with
        | false =>
          rw [hbad (by rw [hone, a1]; rfl)]
          simp only [Bool.false_eq_true, if_false]; exact Ev.now _
        | true =>
          by_cases a2 : t.f2 = 0
          · by_cases a3 : 1 ≤ (t.f3.length : Int) ∧ (t.f3.length : Int) ≤ 5
            · have := hkids (by rw [hone, a1, decide_eq_true a2, decide_eq_true a3]; rfl)
              simp only [if_true, if_pos a2, decide_eq_true a3]; exact this
            · rw [hbad (by rw [hone, decide_eq_false a3, Bool.and_false])]
              simp only [if_true, if_pos a2, decide_eq_false a3, Bool.false_eq_true, if_false]; exact Ev.now _
          · rw [hbad (by rw [hone, decide_eq_false a2, Bool.and_false]; rfl)]
            simp only [if_true, if_neg a2]; exact Ev.now _
      · refine Ev.step (f := fun _ => some 401) (fun k => by simp only [impl_sized.f, if_neg cd, if_neg c1, if_neg c2, if_neg c3, if_neg c4]) ?_
        rw [hbad (by unfold oneB; rw [if_neg c1, if_neg c2, if_neg c3, if_neg c4])]
        exact Ev.now _
theorem impl_ok_ev (t : S29) (hc : cn29 t ≤ 1048577) (hnm : nm29 t) : Ev (fun k => impl_TermOk.f k t.f0 t.f1 t.f2 t.f3) (decide (cn29 t ≤ 400) && rt29 t 1) := by
  unfold impl_TermOk.f
  refine Ev.bind (f := fun _ t187 => some (decide (t187 ≤ 400))) (sized_ev (ht29 t) t (Nat.le_refl _) hc hnm 1 (by omega) (by omega)) ?_
  have : decide (szd (rt29 t 1) (cn29 t) ≤ 400) = (decide (cn29 t ≤ 400) && rt29 t 1) := by
    unfold szd
    by_cases h1 : rt29 t 1 = true
    · by_cases h2 : cn29 t ≤ 400
      · rw [if_pos ⟨h1, h2⟩, h1, decide_eq_true h2, decide_eq_true (by omega)]; rfl
      · rw [if_neg (fun h => h2 h.2), decide_eq_false h2]; rfl
    · have h3 : rt29 t 1 = false := by simpa using h1
      rw [if_neg (fun h => h1 h.1), h3, Bool.and_false]; rfl
  rw [this]; exact Ev.now _
theorem nm_to (n : Nat) : (∀ t : S24, ht24 t ≤ n → wt24 t ≤ 1048576 → nm29 (to29 t)) := by
  induction n with
  | zero => intro t h; rw [ht24_eq] at h; omega
  | succ n ih =>
    intro t h hw
    rw [ht24_eq] at h
    rw [wt24_eq] at hw
    rw [to29_eq, nm29]
    refine ⟨by omega, ?_⟩
    have : ∀ ts : List S24, hts24 ts ≤ n → wts24 ts ≤ 1048576 → nms29 (tos29 ts) := by
      intro ts
      induction ts with
      | nil => intros; rw [tos29, nms29]; trivial
      | cons a l ihl => intro h1 h2; rw [hts24] at h1; rw [wts24] at h2; rw [tos29, nms29]; exact ⟨ih a (by omega) (by omega), ihl (by omega) (by omega)⟩
    exact this _ (by omega) (by omega)
set_option linter.unusedVariables false
class fk_impl_compare where
  f : ∀ (k : Nat) (a0_0 : Int) (a0_1 : ByteArray) (a0_2 : Int) (l0_3 : List S29) (a1_0 : Int) (a1_1 : ByteArray) (a1_2 : Int) (l1_3 : List S29), Option Int
  mono : ∀ a0 a1 a2 a3 a4 a5 a6 a7 k, LeO (f k a0 a1 a2 a3 a4 a5 a6 a7) (f (k + 1) a0 a1 a2 a3 a4 a5 a6 a7)
  calls : ∀ (k : Nat) (a0_0 : Int) (a0_1 : ByteArray) (a0_2 : Int) (A0_3 : Option Addr) (c0_3 : Nat) (l0_3 : List S29) (a1_0 : Int) (a1_1 : ByteArray) (a1_2 : Int) (A1_3 : Option Addr) (c1_3 : Nat) (l1_3 : List S29) (r : Int) (w : World) (hr0_3 : Kd.C k29 w A0_3 l0_3.length l0_3) (hc0_3 : l0_3.length ≤ c0_3) (hr1_3 : Kd.C k29 w A1_3 l1_3.length l1_3) (hc1_3 : l1_3.length ≤ c1_3) (h : f k a0_0 a0_1 a0_2 l0_3 a1_0 a1_1 a1_2 l1_3 = some r), Calls Try.prog 85 #[.agg #[.int .i64 a0_0, .string a0_1, .int .i64 a0_2, .slice A0_3 l0_3.length c0_3], .agg #[.int .i64 a1_0, .string a1_1, .int .i64 a1_2, .slice A1_3 l1_3.length c1_3]] w fun e w' => e = .returned (.int .i64 r) ∧ Below w.heap.size w w'
section
variable [T : fk_impl_compare]
def cmpS : Nat → List S29 → List S29 → Int → Option Int
  | 0, _, _, _ => none
  | k + 1, xs, ys, i => if i < (xs.length : Int) then (if i < (ys.length : Int) then ((fk_impl_compare.f k (rd_T29 xs i).f0 (rd_T29 xs i).f1 (rd_T29 xs i).f2 (rd_T29 xs i).f3 (rd_T29 ys i).f0 (rd_T29 ys i).f1 (rd_T29 ys i).f2 (rd_T29 ys i).f3).bind fun b => if b = 0 then cmpS k xs ys (i + 1) else some b) else some 1) else (if (xs.length : Int) < (ys.length : Int) then some (-1) else some 0)
theorem cmpS_mono : ∀ (k : Nat) (xs ys : List S29) (i : Int), LeO (cmpS k xs ys i) (cmpS (k + 1) xs ys i)
  | 0, _, _, _ => LeO.none _
  | k + 1, xs, ys, i => by
    rw [cmpS, cmpS]
    refine LeO.ite (LeO.ite ?_ (LeO.refl _)) (LeO.refl _)
    refine LeO.bind (fk_impl_compare.mono _ _ _ _ _ _ _ _ k) fun b => ?_
    exact LeO.ite (cmpS_mono k xs ys (i + 1)) (LeO.refl _)
def cmpF (k : Nat) (xs ys : List S29) : Option Int := cmpS k xs ys 0
theorem cmpF_mono (xs ys : List S29) (k : Nat) : LeO (cmpF k xs ys) (cmpF (k + 1) xs ys) := cmpS_mono k xs ys 0
set_option maxHeartbeats 8000000 in
set_option maxRecDepth 100000 in
theorem cmpf_calls (k : Nat) (A : Option Addr) (c : Nat) (xs : List S29) (B : Option Addr) (d : Nat) (ys : List S29) (r : Int) (w : World) (hx : Kd.C k29 w A xs.length xs) (hxc : xs.length ≤ c) (hy : Kd.C k29 w B ys.length ys) (hyc : ys.length ≤ d) (h : cmpF k xs ys = some r) :
    Calls Try.prog 119 #[.slice A xs.length c, .slice B ys.length d, .func (.func 85) #[] #[]] w fun e w' => e = .returned (.int .i64 r) ∧ Below w.heap.size w w' := by
  have HX := Aside0.mk hx
  have HY := Aside0.mk hy
  have HH : Aside0 (cmpS k xs ys 0 = some r) := ⟨h⟩
  have hm := hx.2.1
  have hm2 := hy.2.1
  clear hx hy hxc hyc h
  go_enter Try.func119, Try.ntmps119
  go_wp2
  go_loopg [13] k (fun kq v13 w' => ∃ i : Nat, v13 = .int .i64 i ∧ Aside0 (i ≤ xs.length) ∧ Aside0 (cmpS kq xs ys i = some r) ∧ Aside0 (Below w.heap.size w w'))
  case atStart => exact ⟨0, rfl, ⟨by omega⟩, HH, ⟨Below.refl _ _⟩⟩
  case round =>
    clear HH
    obtain ⟨i, rfl, hi, HA, HB⟩ := hrel
    cases gk with
    | zero => exact absurd HA.out (by simp [cmpS])
    | succ k1 =>
      have H := HA.out
      clear HA
      simp only [cmpS] at H
      by_cases hlt : (i : Int) < (xs.length : Int)
      · rw [if_pos hlt] at H
        have c3b0 : decide ((i : Int) < (xs.length : Int)) = true := decide_eq_true hlt
        have c3b1 : decide (i < xs.length) = true := decide_eq_true (by omega)
        have p1 : (0 : Int) ≤ (i : Int) := by omega
        obtain ⟨ad, A3, c3, e1, hx0, hx1, hx2, hx3, hl3, hi3⟩ := at_T29 HX.out (i : Int) p1 hlt
        cases e1
        have HX3 := Aside0.mk (Kd.C_below hi3 HB.out)
        have HXl := Aside0.mk hl3
        clear hi3 hl3
        replace hx0 := (HB.out.cell (World.block_lt_of_cell? w _ hx0)).trans hx0
        replace hx1 := (HB.out.cell (World.block_lt_of_cell? w _ hx1)).trans hx1
        replace hx2 := (HB.out.cell (World.block_lt_of_cell? w _ hx2)).trans hx2
        replace hx3 := (HB.out.cell (World.block_lt_of_cell? w _ hx3)).trans hx3
        simp only [Int.toNat_natCast] at hx0 hx1 hx2 hx3
        by_cases hlt2 : (i : Int) < (ys.length : Int)
        · rw [if_pos hlt2] at H
          have c4b0 : decide ((ys.length : Int) ≤ (i : Int)) = false := decide_eq_false (by omega)
          have c4b1 : decide (ys.length ≤ i) = false := decide_eq_false (by omega)
          have c4b2 : decide ((i : Int) < (ys.length : Int)) = true := decide_eq_true hlt2
          obtain ⟨b, hb, H⟩ := Option.bind_eq_some_iff.1 H
          have Hb := Aside0.mk hb
          have H' : Aside0 ((if b = 0 then cmpS k1 xs ys ((i : Int) + 1) else some b) = some r) := ⟨H⟩
          clear hb H
          obtain ⟨bd, B3, d3, e2, hy0, hy1, hy2, hy3, hm3, hj3⟩ := at_T29 HY.out (i : Int) p1 hlt2
          cases e2
          have HY3 := Aside0.mk (Kd.C_below hj3 HB.out)
          have HYl := Aside0.mk hm3
          clear hj3 hm3
          replace hy0 := (HB.out.cell (World.block_lt_of_cell? w _ hy0)).trans hy0
          replace hy1 := (HB.out.cell (World.block_lt_of_cell? w _ hy1)).trans hy1
          replace hy2 := (HB.out.cell (World.block_lt_of_cell? w _ hy2)).trans hy2
          replace hy3 := (HB.out.cell (World.block_lt_of_cell? w _ hy3)).trans hy3
          simp only [Int.toNat_natCast] at hy0 hy1 hy2 hy3
          have hz0 := fun o => (World.cell?_alloc_lt wr o _ (World.block_lt_of_cell? wr _ hy0)).trans hy0
          have hz1 := fun o => (World.cell?_alloc_lt wr o _ (World.block_lt_of_cell? wr _ hy1)).trans hy1
          have hz2 := fun o => (World.cell?_alloc_lt wr o _ (World.block_lt_of_cell? wr _ hy2)).trans hy2
          have hz3 := fun o => (World.cell?_alloc_lt wr o _ (World.block_lt_of_cell? wr _ hy3)).trans hy3
          have HW := fun o1 o2 w2 (hb2 : Below ((wr.alloc o1).alloc o2).heap.size ((wr.alloc o1).alloc o2) w2) => below_then HB.out HB.out.size (below_then (below_alloc (below_alloc (Below.refl wr.heap.size wr) o1) o2) (by simp; omega) hb2)
          by_cases cb : b = 0
          · subst cb
            go_wp2_with (go_at_call 85; refine (fk_impl_compare.calls k1 _ _ _ _ _ _ _ _ _ _ _ _ 0 _ ?s1 HXl.out ?s2 HYl.out Hb.out).mono ?_; (case s1 => exact Kd.C_alloc (Kd.C_alloc HX3.out _) _); (case s2 => exact Kd.C_alloc (Kd.C_alloc HY3.out _) _); rintro e w2 ⟨rfl, hb2⟩)
            go_roundg k1
            case measure => omega
            case rel => exact ⟨i + 1, by go_num, ⟨by omega⟩, ⟨by have h := H'.out; simp only [if_true] at h; rw [show ((i + 1 : Nat) : Int) = (i : Int) + 1 by omega]; exact h⟩, ⟨HW _ _ _ hb2⟩⟩
          · have cb0 : (b == 0) = false := by simpa using cb
            have cb1 : (b != 0) = true := by simpa using cb
            have H2 : Aside0 (b = r) := ⟨by have h := H'.out; rw [if_neg cb] at h; exact Option.some.inj h⟩
            go_wp2_with (go_at_call 85; refine (fk_impl_compare.calls k1 _ _ _ _ _ _ _ _ _ _ _ _ b _ ?s1 HXl.out ?s2 HYl.out Hb.out).mono ?_; (case s1 => exact Kd.C_alloc (Kd.C_alloc HX3.out _) _); (case s2 => exact Kd.C_alloc (Kd.C_alloc HY3.out _) _); rintro e w2 ⟨rfl, hb2⟩)
            go_ret
            exact ⟨by rw [H2.out]; rfl, HW _ _ _ hb2⟩
        · have c4b0 : decide ((ys.length : Int) ≤ (i : Int)) = true := decide_eq_true (by omega)
          have c4b1 : decide (ys.length ≤ i) = true := decide_eq_true (by omega)
          rw [if_neg hlt2] at H
          have H2 := Aside0.mk (Option.some.inj H)
          clear H
          go_wp2
          go_ret
          exact ⟨by rw [← H2.out]; rfl, below_alloc HB.out _⟩
      · have c3b0 : decide ((i : Int) < (xs.length : Int)) = false := decide_eq_false hlt
        have c3b1 : decide (i < xs.length) = false := decide_eq_false (by omega)
        rw [if_neg hlt] at H
        by_cases hll : (xs.length : Int) < (ys.length : Int)
        · have c5b0 : decide ((xs.length : Int) < (ys.length : Int)) = true := decide_eq_true hll
          have c5b1 : decide (xs.length < ys.length) = true := decide_eq_true (by omega)
          rw [if_pos hll] at H
          have H2 := Aside0.mk (Option.some.inj H)
          clear H
          go_wp2
          go_ret
          exact ⟨by rw [← H2.out]; rfl, HB.out⟩
        · have c5b0 : decide ((xs.length : Int) < (ys.length : Int)) = false := decide_eq_false hll
          have c5b1 : decide (xs.length < ys.length) = false := decide_eq_false (by omega)
          rw [if_neg hll] at H
          have H2 := Aside0.mk (Option.some.inj H)
          clear H
          go_wp2
          go_ret
          exact ⟨by rw [← H2.out]; rfl, HB.out⟩
end
@[reducible] def d_cmp : fk_impl_compare := ⟨fun _ _ _ _ _ _ _ _ _ => none, fun _ _ _ _ _ _ _ _ _ => LeO.none _, by intros; contradiction⟩
@[reducible] def cfOf (T : fk_impl_compare) : fk_slices_CompareFunc := ⟨@cmpF T, @cmpF_mono T, @cmpf_calls T⟩
@[reducible] def i_cmp : Nat → fk_impl_compare
  | 0 => d_cmp
  | n + 1 => letI := cfOf (i_cmp n); letI := d_sz; letI := d_to; letI := d_eq; ⟨impl_compare.f, impl_compare.mono, impl_compare.calls⟩
def cmpI (a b : Int) : Int := if a < b then -1 else if a > b then 1 else 0
def cmpT (a b : ByteArray) : Int := if Op.bytesLess a.toList b.toList = true then -1 else if Op.bytesLess b.toList a.toList = true then 1 else 0
def rank (k : Int) : Int := if k = 1 then 0 else if k = 3 then 1 else if k = 2 then 2 else 3
theorem ci_spec (a b : Int) : spec_l03Int.f a b = some (cmpI a b) := by
  unfold spec_l03Int.f cmpI
  by_cases h : a < b
  · rw [if_pos h, if_pos h]
  · rw [if_neg h, if_neg h]
    by_cases h2 : a > b
    · rw [if_pos h2, if_pos h2]
    · rw [if_neg h2, if_neg h2]
theorem ct_spec (a b : ByteArray) : spec_l03Text.f a b = some (cmpT a b) := by
  unfold spec_l03Text.f cmpT
  by_cases h : Op.bytesLess a.toList b.toList = true
  · rw [if_pos h, if_pos h]
  · rw [if_neg h, if_neg h]
    by_cases h2 : Op.bytesLess b.toList a.toList = true
    · rw [if_pos h2, if_pos h2]
    · rw [if_neg h2, if_neg h2]
theorem ci_impl (a b : Int) : cmp_Compare_int.f a b = some (cmpI a b) := by
  rw [← ci_spec]
  unfold cmp_Compare_int.f cmp_isNaN_int.f spec_l03Int.f
  simp
theorem ct_impl (a b : ByteArray) : cmp_Compare_string.f a b = some (cmpT a b) := by
  rw [← ct_spec]
  unfold cmp_Compare_string.f cmp_isNaN_string.f spec_l03Text.f
  simp
theorem kr_impl (a : Int) (n : ByteArray) (b : Int) (ks : List S29) : impl_kindRank.f a n b ks = some (rank a) := by
  unfold impl_kindRank.f rank
  by_cases h1 : a = 1
  · rw [if_pos h1, if_pos h1]
  · rw [if_neg h1, if_neg h1]
    by_cases h2 : a = 3
    · rw [if_pos h2, if_pos h2]
    · rw [if_neg h2, if_neg h2]
      by_cases h3 : a = 2
      · rw [if_pos h3, if_pos h3]
      · rw [if_neg h3, if_neg h3]
theorem kr_spec (a : Int) (h : a = 1 ∨ a = 2 ∨ a = 3 ∨ a = 4) : spec_l03Rank.f a = some (rank a + 1) := by
  rcases h with rfl | rfl | rfl | rfl <;> decide +kernel
theorem cmpI_succ (a b : Int) : cmpI (a + 1) (b + 1) = cmpI a b := by
  unfold cmpI
  by_cases h : a < b
  · rw [if_pos h, if_pos (by omega)]
  · rw [if_neg h, if_neg (show ¬ a + 1 < b + 1 by omega)]
    by_cases h2 : a > b
    · rw [if_pos h2, if_pos (by omega)]
    · rw [if_neg h2, if_neg (by omega)]
theorem cmpI_self (a : Int) : cmpI a a = 0 := by unfold cmpI; rw [if_neg (by omega), if_neg (by omega)]
theorem cmpI_zero {a b : Int} (h : cmpI a b = 0) : a = b := by
  unfold cmpI at h
  by_cases h1 : a < b
  · rw [if_pos h1] at h; omega
  · rw [if_neg h1] at h
    by_cases h2 : a > b
    · rw [if_pos h2] at h; omega
    · omega
theorem cmpT_nil {a b : ByteArray} (h1 : a.toList = []) (h2 : b.toList = []) : cmpT a b = 0 := by
  unfold cmpT; rw [h1, h2]; rfl
theorem rank_inj {a b : Int} (ha : a = 1 ∨ a = 2 ∨ a = 3 ∨ a = 4) (hb : b = 1 ∨ b = 2 ∨ b = 3 ∨ b = 4) (h : rank a = rank b) : a = b := by
  rcases ha with rfl | rfl | rfl | rfl <;> rcases hb with rfl | rfl | rfl | rfl <;> first | rfl | (exact absurd h (by decide))
mutual
def cm29 : S29 → S29 → Int
  | ⟨a, n, b, ks⟩, ⟨a', n', b', ks'⟩ => if cmpI (rank a) (rank a') = 0 then (if cmpI (ks.length : Int) (ks'.length : Int) = 0 then (if cmpI b b' = 0 then (if cmpT n n' = 0 then cms29 ks ks' else cmpT n n') else cmpI b b') else cmpI (ks.length : Int) (ks'.length : Int)) else cmpI (rank a) (rank a')
def cms29 : List S29 → List S29 → Int
  | [], _ => 0
  | _ :: _, [] => 0
  | t :: ts, u :: us => if cm29 t u = 0 then cms29 ts us else cm29 t u
end
theorem cm29_eq (t u : S29) : cm29 t u = if cmpI (rank t.f0) (rank u.f0) = 0 then (if cmpI (t.f3.length : Int) (u.f3.length : Int) = 0 then (if cmpI t.f2 u.f2 = 0 then (if cmpT t.f1 u.f1 = 0 then cms29 t.f3 u.f3 else cmpT t.f1 u.f1) else cmpI t.f2 u.f2) else cmpI (t.f3.length : Int) (u.f3.length : Int)) else cmpI (rank t.f0) (rank u.f0) := by
  cases t; cases u; rw [cm29]
theorem one_kind {t : S29} (h : oneB t = true) : t.f0 = 1 ∨ t.f0 = 2 ∨ t.f0 = 3 ∨ t.f0 = 4 := by
  unfold oneB at h
  by_cases c1 : t.f0 = 1
  · exact .inl c1
  · by_cases c2 : t.f0 = 2
    · exact .inr (.inl c2)
    · by_cases c3 : t.f0 = 3
      · exact .inr (.inr (.inl c3))
      · by_cases c4 : t.f0 = 4
        · exact .inr (.inr (.inr c4))
        · rw [if_neg c1, if_neg c2, if_neg c3, if_neg c4] at h; simp at h
theorem one_var {t : S29} (h : oneB t = true) (c : t.f0 = 1 ∨ t.f0 = 3) : t.f1.toList = [] ∧ t.f3 = [] := by
  unfold oneB at h
  rcases c with c | c
  · rw [if_pos c] at h
    simp only [Bool.and_eq_true, decide_eq_true_eq] at h
    exact ⟨h.1.2, List.eq_nil_of_length_eq_zero h.2⟩
  · rw [if_neg (by omega), if_neg (by omega), if_pos c] at h
    simp only [Bool.and_eq_true, decide_eq_true_eq] at h
    exact ⟨h.1.2, List.eq_nil_of_length_eq_zero h.2⟩
theorem one_atom {t : S29} (h : oneB t = true) (c : t.f0 = 2) : t.f2 = 0 ∧ t.f3 = [] := by
  unfold oneB at h
  rw [if_neg (by omega), if_pos c] at h
  simp only [Bool.and_eq_true, decide_eq_true_eq] at h
  exact ⟨h.1.2, List.eq_nil_of_length_eq_zero h.2⟩
theorem one_struct {t : S29} (h : oneB t = true) (c : t.f0 = 4) : t.f2 = 0 := by
  unfold oneB at h
  rw [if_neg (by omega), if_neg (by omega), if_neg (by omega), if_pos c] at h
  simp only [Bool.and_eq_true, decide_eq_true_eq] at h
  exact h.1.2
theorem rts29_mem {ts : List S29} {d : Int} {t : S29} (h : t ∈ ts) (hr : rts29 ts d = true) : rt29 t d = true := by
  induction ts with
  | nil => simp at h
  | cons a l ih =>
    rw [rts29, Bool.and_eq_true] at hr
    rcases List.mem_cons.1 h with rfl | h
    · exact hr.1
    · exact ih h hr.2
theorem cmpS_ev (n : Nat) (xs ys : List S29) (hl : xs.length = ys.length)
    (IH : ∀ (i : Nat) (h : i < xs.length), Ev (fun k => (i_cmp n).f k xs[i].f0 xs[i].f1 xs[i].f2 xs[i].f3 (ys[i]'(by omega)).f0 (ys[i]'(by omega)).f1 (ys[i]'(by omega)).f2 (ys[i]'(by omega)).f3) (cm29 xs[i] (ys[i]'(by omega)))) (d : Nat) :
    ∀ i : Nat, i ≤ xs.length → xs.length - i = d → Ev (fun k => @cmpS (i_cmp n) k xs ys i) (cms29 (xs.drop i) (ys.drop i)) := by
  induction d with
  | zero =>
    intro i hi hd
    refine Ev.step (f := fun _ => some 0) (fun k => ?_) ?_
    · simp only [cmpS]; rw [if_neg (by omega), if_neg (by omega)]
    · rw [List.drop_eq_nil_of_le (by omega), cms29]; exact Ev.now _
  | succ d ih =>
    intro i hi hd
    have hlt : i < xs.length := by omega
    have hlt2 : i < ys.length := by omega
    refine Ev.step (f := fun k => ((i_cmp n).f k xs[i].f0 xs[i].f1 xs[i].f2 xs[i].f3 ys[i].f0 ys[i].f1 ys[i].f2 ys[i].f3).bind fun b => if b = 0 then @cmpS (i_cmp n) k xs ys ((i + 1 : Nat) : Int) else some b) (fun k => ?_) ?_
    · simp only [cmpS]
      rw [if_pos (by omega), if_pos (by omega), rd29_at xs i hlt, rd29_at ys i hlt2, show (i : Int) + 1 = ((i + 1 : Nat) : Int) by omega]
    · refine Ev.bind (f := fun k b => if b = 0 then @cmpS (i_cmp n) k xs ys ((i + 1 : Nat) : Int) else some b) (IH i hlt) ?_
      rw [List.drop_eq_getElem_cons hlt, List.drop_eq_getElem_cons hlt2, cms29]
      by_cases c : cm29 xs[i] ys[i] = 0
      · rw [if_pos c]; exact Ev.congr (fun k => if_pos c) (ih (i + 1) (by omega) (by omega))
      · rw [if_neg c]; exact Ev.congr (fun k => if_neg c) (Ev.now _)
theorem cmp_ev (n : Nat) : ∀ (t u : S29), ht29 t ≤ n → ∀ d : Int, rt29 t d = true → rt29 u d = true → Ev (fun k => (i_cmp n).f k t.f0 t.f1 t.f2 t.f3 u.f0 u.f1 u.f2 u.f3) (cm29 t u) := by
  induction n with
  | zero => intro t u h; rw [ht29_eq] at h; omega
  | succ n ih =>
    intro t u h d hr hs
    rw [ht29_eq] at h
    rw [rt29_eq, Bool.and_eq_true, Bool.and_eq_true] at hr hs
    obtain ⟨_, ot, kt⟩ := hr
    obtain ⟨_, ou, ku⟩ := hs
    have kt1 := one_kind ot
    have ku1 := one_kind ou
    show Ev (fun k => @impl_compare.f (cfOf (i_cmp n)) k t.f0 t.f1 t.f2 t.f3 u.f0 u.f1 u.f2 u.f3) _
    rw [cm29_eq]
    by_cases c0 : cmpI (rank t.f0) (rank u.f0) = 0
    · rw [if_pos c0]
      have he : t.f0 = u.f0 := rank_inj kt1 ku1 (cmpI_zero c0)
      by_cases c1 : t.f0 = 1 ∨ t.f0 = 3
      · obtain ⟨v1, v2⟩ := one_var ot c1
        obtain ⟨v3, v4⟩ := one_var ou (by rw [← he]; exact c1)
        rw [v2, v4]
        rw [if_pos (cmpI_self _)]
        have hv : (if cmpI t.f2 u.f2 = 0 then (if cmpT t.f1 u.f1 = 0 then cms29 [] [] else cmpT t.f1 u.f1) else cmpI t.f2 u.f2) = cmpI t.f2 u.f2 := by
          by_cases c2 : cmpI t.f2 u.f2 = 0
          · rw [if_pos c2, if_pos (cmpT_nil v1 v3), cms29, c2]
          · rw [if_neg c2]
        rw [hv]
        refine Ev.step (f := fun k => @impl_compare.j0 (cfOf (i_cmp n)) k t.f0 true t.f0 t.f1 t.f2 [] u.f0 u.f1 u.f2 []) (fun k => ?_) ?_
        · simp only [impl_compare.f, kr_impl, ci_impl, Option.bind_some, if_pos c0]
          rcases c1 with c1 | c1
          · simp [c1]
          · simp [c1]
        · refine Ev.step (f := fun _ => some (cmpI t.f2 u.f2)) (fun k => ?_) (Ev.now _)
          simp only [impl_compare.j0, if_true, ci_impl, Option.bind_some]
      · have hfalse : (if t.f0 = 1 then (t.f0 == 1) else (t.f0 == 3)) = false := by
          rw [if_neg (fun h => c1 (.inl h))]; simpa using fun h => c1 (.inr h)
        have hf0 : ∀ k, @impl_compare.f (cfOf (i_cmp n)) (k + 1) t.f0 t.f1 t.f2 t.f3 u.f0 u.f1 u.f2 u.f3 = @impl_compare.j0 (cfOf (i_cmp n)) k t.f0 false t.f0 t.f1 t.f2 t.f3 u.f0 u.f1 u.f2 u.f3 := by
          intro k
          simp only [impl_compare.f, kr_impl, ci_impl, Option.bind_some, if_pos c0]
          rw [if_neg (fun h => c1 (.inl h))]
          have : (t.f0 == 3) = false := by simpa using fun h => c1 (.inr h)
          rw [this]
        refine Ev.step hf0 ?_
        by_cases c2 : t.f0 = 2
        · obtain ⟨v1, v2⟩ := one_atom ot c2
          obtain ⟨v3, v4⟩ := one_atom ou (by rw [← he]; exact c2)
          rw [v2, v4, if_pos (cmpI_self _), v1, v3, if_pos (cmpI_self _)]
          have hv : (if cmpT t.f1 u.f1 = 0 then cms29 [] [] else cmpT t.f1 u.f1) = cmpT t.f1 u.f1 := by
            by_cases c3 : cmpT t.f1 u.f1 = 0
            · rw [if_pos c3, cms29, c3]
            · rw [if_neg c3]
          rw [hv]
          refine Ev.step (f := fun _ => some (cmpT t.f1 u.f1)) (fun k => ?_) (Ev.now _)
          simp only [impl_compare.j0, Bool.false_eq_true, if_false, if_pos c2, ct_impl, Option.bind_some]
        · have c4 : t.f0 = 4 := by omega
          have v1 := one_struct ot c4
          have v3 := one_struct ou (by rw [← he]; exact c4)
          rw [v1, v3, if_pos (cmpI_self 0)]
          refine Ev.step (f := fun k => if cmpI (t.f3.length : Int) (u.f3.length : Int) = 0 then (if cmpT t.f1 u.f1 = 0 then ((@cmpF (i_cmp n) k t.f3 u.f3).bind fun x => some x) else some (cmpT t.f1 u.f1)) else some (cmpI (t.f3.length : Int) (u.f3.length : Int))) (fun k => ?_) ?_
          · simp only [impl_compare.j0, Bool.false_eq_true, if_false, if_neg c2, ci_impl, ct_impl, Option.bind_some]
            rfl
          · by_cases c5 : cmpI (t.f3.length : Int) (u.f3.length : Int) = 0
            · rw [if_pos c5]
              refine Ev.congr (fun k => if_pos c5) ?_
              by_cases c6 : cmpT t.f1 u.f1 = 0
              · rw [if_pos c6]
                refine Ev.congr (fun k => if_pos c6) ?_
                have hl : t.f3.length = u.f3.length := by have := cmpI_zero c5; omega
                have := cmpS_ev n t.f3 u.f3 hl (fun i hi => ih _ _ (by have := hts29_mem (List.getElem_mem hi); omega) (d + 1) (rts29_mem (List.getElem_mem hi) kt) (rts29_mem (List.getElem_mem _) ku)) t.f3.length 0 (by omega) (by omega)
                rw [List.drop_zero, List.drop_zero] at this
                exact Ev.bind (f := fun _ x => some x) this (Ev.now _)
              · rw [if_neg c6]; exact Ev.congr (fun k => if_neg c6) (Ev.now _)
            · rw [if_neg c5]; exact Ev.congr (fun k => if_neg c5) (Ev.now _)
    · rw [if_neg c0]
      refine Ev.step (f := fun _ => some (cmpI (rank t.f0) (rank u.f0))) (fun k => ?_) (Ev.now _)
      simp only [impl_compare.f, kr_impl, ci_impl, Option.bind_some, if_neg c0]
theorem specC_stop (q0 : Int) (q1 : ByteArray) (q2 : Int) (p0 : Int) (p1 : ByteArray) (p2 : Int) (xs ys : List S29) (c : Int) (hc : c ≠ 0) : Ev (fun k => spec_l03Compare.l0 k c 0 q0 q1 q2 xs p0 p1 p2 ys) c := by
  refine Ev.step (f := fun _ => some c) (fun k => ?_) (Ev.now _)
  simp only [spec_l03Compare.l0, if_neg hc]
  split <;> rfl
theorem specC_l (q0 : Int) (q1 : ByteArray) (q2 : Int) (p0 : Int) (p1 : ByteArray) (p2 : Int) (xs ys : List S29) (hlen : xs.length ≤ 1048576) (hl : xs.length = ys.length)
    (IH : ∀ (i : Nat) (h : i < xs.length), Ev (fun k => spec_l03Compare.f k xs[i].f0 xs[i].f1 xs[i].f2 xs[i].f3 (ys[i]'(by omega)).f0 (ys[i]'(by omega)).f1 (ys[i]'(by omega)).f2 (ys[i]'(by omega)).f3) (cm29 xs[i] (ys[i]'(by omega)))) (d : Nat) :
    ∀ i : Nat, i ≤ xs.length → xs.length - i = d → Ev (fun k => spec_l03Compare.l0 k 0 i q0 q1 q2 xs p0 p1 p2 ys) (cms29 (xs.drop i) (ys.drop i)) := by
  induction d with
  | zero =>
    intro i hi hd
    refine Ev.step (f := fun _ => some 0) (fun k => ?_) ?_
    · simp only [spec_l03Compare.l0]; rw [if_neg (by omega)]
    · rw [List.drop_eq_nil_of_le (by omega), cms29]; exact Ev.now _
  | succ d ih =>
    intro i hi hd
    have hlt : i < xs.length := by omega
    have hlt2 : i < ys.length := by omega
    refine Ev.step (f := fun k => (spec_l03Compare.f k xs[i].f0 xs[i].f1 xs[i].f2 xs[i].f3 ys[i].f0 ys[i].f1 ys[i].f2 ys[i].f3).bind fun b => spec_l03Compare.l0 k b ((i + 1 : Nat) : Int) q0 q1 q2 xs p0 p1 p2 ys) (fun k => ?_) ?_
    · simp only [spec_l03Compare.l0]
      rw [if_pos (by omega), if_pos (by trivial), if_pos (by omega), if_pos (by omega), rd29_at xs i hlt, rd29_at ys i hlt2, next_i i _ hlt hlen]
    · refine Ev.bind (f := fun k b => spec_l03Compare.l0 k b ((i + 1 : Nat) : Int) q0 q1 q2 xs p0 p1 p2 ys) (IH i hlt) ?_
      rw [List.drop_eq_getElem_cons hlt, List.drop_eq_getElem_cons hlt2, cms29]
      by_cases c : cm29 xs[i] ys[i] = 0
      · rw [if_pos c, c]; exact ih (i + 1) (by omega) (by omega)
      · rw [if_neg c]
        refine Ev.step (f := fun _ => some (cm29 xs[i] ys[i])) (fun k => ?_) (Ev.now _)
        simp only [spec_l03Compare.l0, if_neg c]
        split <;> rfl
theorem specC_ev (n : Nat) : ∀ (t u : S29), ht29 t ≤ n → cn29 t ≤ 1048577 → ∀ d : Int, rt29 t d = true → rt29 u d = true → Ev (fun k => spec_l03Compare.f k t.f0 t.f1 t.f2 t.f3 u.f0 u.f1 u.f2 u.f3) (cm29 t u) := by
  induction n with
  | zero => intro t u h; rw [ht29_eq] at h; omega
  | succ n ih =>
    intro t u h hc d hr hs
    rw [ht29_eq] at h
    rw [cn29_eq] at hc
    rw [rt29_eq, Bool.and_eq_true, Bool.and_eq_true] at hr hs
    obtain ⟨_, ot, kt⟩ := hr
    obtain ⟨_, ou, ku⟩ := hs
    have e1 := kr_spec _ (one_kind ot)
    have e2 := kr_spec _ (one_kind ou)
    rw [cm29_eq]
    by_cases c0 : cmpI (rank t.f0) (rank u.f0) = 0
    · rw [if_pos c0]
      have hj1 : ∀ c : Int, c ≠ 0 → Ev (fun k => spec_l03Compare.j0 k c t.f0 t.f1 t.f2 t.f3 u.f0 u.f1 u.f2 u.f3) c := by
        intro c hcn
        refine Ev.step (f := fun k => spec_l03Compare.j1 k c t.f0 t.f1 t.f2 t.f3 u.f0 u.f1 u.f2 u.f3) (fun k => by simp only [spec_l03Compare.j0, if_neg hcn]) ?_
        refine Ev.step (f := fun k => spec_l03Compare.l0 k c 0 t.f0 t.f1 t.f2 t.f3 u.f0 u.f1 u.f2 u.f3) (fun k => by simp only [spec_l03Compare.j1]) ?_
        exact specC_stop _ _ _ _ _ _ _ _ c hcn
      by_cases c5 : cmpI (t.f3.length : Int) (u.f3.length : Int) = 0
      · rw [if_pos c5]
        refine Ev.step (f := fun k => spec_l03Compare.j0 k (cmpI t.f2 u.f2) t.f0 t.f1 t.f2 t.f3 u.f0 u.f1 u.f2 u.f3) (fun k => by simp only [spec_l03Compare.f, e1, e2, ci_spec, cmpI_succ, Option.bind_some, if_pos c0, if_pos c5]) ?_
        by_cases c6 : cmpI t.f2 u.f2 = 0
        · rw [if_pos c6]
          refine Ev.step (f := fun k => spec_l03Compare.j1 k (cmpT t.f1 u.f1) t.f0 t.f1 t.f2 t.f3 u.f0 u.f1 u.f2 u.f3) (fun k => by simp only [spec_l03Compare.j0, if_pos c6, ct_spec, Option.bind_some]) ?_
          refine Ev.step (f := fun k => spec_l03Compare.l0 k (cmpT t.f1 u.f1) 0 t.f0 t.f1 t.f2 t.f3 u.f0 u.f1 u.f2 u.f3) (fun k => by simp only [spec_l03Compare.j1]) ?_
          by_cases c7 : cmpT t.f1 u.f1 = 0
          · rw [if_pos c7, c7]
            have hl : t.f3.length = u.f3.length := by have := cmpI_zero c5; omega
            have := specC_l t.f0 t.f1 t.f2 u.f0 u.f1 u.f2 t.f3 u.f3 (by have := cns29_len t.f3; omega) hl (fun i hi => ih _ _ (by have := hts29_mem (List.getElem_mem hi); omega) (by have := cns29_mem (List.getElem_mem hi); omega) (d + 1) (rts29_mem (List.getElem_mem hi) kt) (rts29_mem (List.getElem_mem _) ku)) t.f3.length 0 (by omega) (by omega)
            rw [List.drop_zero, List.drop_zero] at this
            exact this
          · rw [if_neg c7]; exact specC_stop _ _ _ _ _ _ _ _ _ c7
        · rw [if_neg c6]; exact hj1 _ c6
      · rw [if_neg c5]
        exact Ev.step (fun k => by simp only [spec_l03Compare.f, e1, e2, ci_spec, cmpI_succ, Option.bind_some, if_pos c0, if_neg c5]) (hj1 _ c5)
    · rw [if_neg c0]
      refine Ev.step (f := fun _ => some (cmpI (rank t.f0) (rank u.f0))) (fun k => ?_) (Ev.now _)
      simp only [spec_l03Compare.f, e1, e2, ci_spec, cmpI_succ, Option.bind_some, if_neg c0]
def cmpR (t u : S29) : Int := if (decide (cn29 t ≤ 400) && rt29 t 1) = true then (if (decide (cn29 u ≤ 400) && rt29 u 1) = true then cm29 t u else 0) else 0
theorem specCT_ev (t u : S29) (hc : cn29 t ≤ 1048577) (hn : nm29 t) (hc2 : cn29 u ≤ 1048577) (hn2 : nm29 u) : Ev (fun k => spec_CompareTerm.f k t.f0 t.f1 t.f2 t.f3 u.f0 u.f1 u.f2 u.f3) (cmpR t u) := by
  unfold spec_CompareTerm.f cmpR
  refine Ev.bind (f := fun k t692 => if t692 = true then ((spec_TermOk.f k u.f0 u.f1 u.f2 u.f3).bind fun t693 => if t693 = true then ((spec_l03Compare.f k t.f0 t.f1 t.f2 t.f3 u.f0 u.f1 u.f2 u.f3).bind fun t694 => some t694) else some 0) else some 0) (spec_ok_ev t hc hn) ?_
  by_cases c1 : (decide (cn29 t ≤ 400) && rt29 t 1) = true
  · rw [if_pos c1]
    refine Ev.congr (fun k => if_pos c1) ?_
    refine Ev.bind (f := fun k t693 => if t693 = true then ((spec_l03Compare.f k t.f0 t.f1 t.f2 t.f3 u.f0 u.f1 u.f2 u.f3).bind fun t694 => some t694) else some 0) (spec_ok_ev u hc2 hn2) ?_
    by_cases c2 : (decide (cn29 u ≤ 400) && rt29 u 1) = true
    · rw [if_pos c2]
      refine Ev.congr (fun k => if_pos c2) ?_
      rw [Bool.and_eq_true] at c1 c2
      exact Ev.bind (f := fun _ t694 => some t694) (specC_ev (ht29 t) t u (Nat.le_refl _) hc 1 c1.2 c2.2) (Ev.now _)
    · rw [if_neg c2]; exact Ev.congr (fun k => if_neg c2) (Ev.now _)
  · rw [if_neg c1]; exact Ev.congr (fun k => if_neg c1) (Ev.now _)
theorem implCT_ev (n : Nat) (t u : S29) (ht : ht29 t ≤ n + 1) (hc : cn29 t ≤ 1048577) (hn : nm29 t) (hc2 : cn29 u ≤ 1048577) (hn2 : nm29 u) : Ev (fun k => @impl_CompareTerm.f (cfOf (i_cmp n)) k t.f0 t.f1 t.f2 t.f3 u.f0 u.f1 u.f2 u.f3) (cmpR t u) := by
  unfold impl_CompareTerm.f cmpR
  refine Ev.bind (f := fun k t199 => if t199 = true then ((impl_TermOk.f k u.f0 u.f1 u.f2 u.f3).bind fun t200 => if t200 = true then ((@impl_compare.f (cfOf (i_cmp n)) k t.f0 t.f1 t.f2 t.f3 u.f0 u.f1 u.f2 u.f3).bind fun t201 => some t201) else some 0) else some 0) (impl_ok_ev t hc hn) ?_
  by_cases c1 : (decide (cn29 t ≤ 400) && rt29 t 1) = true
  · rw [if_pos c1]
    refine Ev.congr (fun k => if_pos c1) ?_
    refine Ev.bind (f := fun k t200 => if t200 = true then ((@impl_compare.f (cfOf (i_cmp n)) k t.f0 t.f1 t.f2 t.f3 u.f0 u.f1 u.f2 u.f3).bind fun t201 => some t201) else some 0) (impl_ok_ev u hc2 hn2) ?_
    by_cases c2 : (decide (cn29 u ≤ 400) && rt29 u 1) = true
    · rw [if_pos c2]
      refine Ev.congr (fun k => if_pos c2) ?_
      rw [Bool.and_eq_true] at c1 c2
      exact Ev.bind (g := fun k => @impl_compare.f (cfOf (i_cmp n)) k t.f0 t.f1 t.f2 t.f3 u.f0 u.f1 u.f2 u.f3) (f := fun _ t201 => some t201) (cmp_ev (n + 1) t u ht 1 c1.2 c2.2) (Ev.now _)
    · rw [if_neg c2]; exact Ev.congr (fun k => if_neg c2) (Ev.now _)
  · rw [if_neg c1]; exact Ev.congr (fun k => if_neg c1) (Ev.now _)
theorem law_cmp (t u : S24) (ho : ok24 t) (ho2 : ok24 u) : ∃ (n k : Nat), @laws_FnExactCompareTerm.f (i_sz n) (i_to n) (i_eq n) (cfOf (i_cmp n)) k t.f0 t.f1 t.f2 t.f3 u.f0 u.f1 u.f2 u.f3 = some true := by
  obtain ⟨n, hn⟩ : ∃ n, n = max (ht24 t) (ht24 u) := ⟨_, rfl⟩
  refine ⟨n, ?_⟩
  refine Ev.rounds (g := fun k => @laws_FnExactCompareTerm.f (i_sz n) (i_to n) (i_eq n) (cfOf (i_cmp n)) k t.f0 t.f1 t.f2 t.f3 u.f0 u.f1 u.f2 u.f3) ?_
  have hsz := sz_ev (n + 1) t ho (by omega) 1048576 (by omega) (by omega)
  have hto := to_ev (n + 1) t (by omega)
  have htu := to_ev (n + 1) u (by omega)
  have heq := eq_ev (n + 1) (to29 t) (by rw [ht_to]; omega)
  have hequ := eq_ev (n + 1) (to29 u) (by rw [ht_to]; omega)
  have hcn := cn_wt t
  have hcu := cn_wt u
  unfold laws_FnExactCompareTerm.f
  refine Ev.bind (g := fun k => @laws_szTerm.f (i_sz n) k t.f0 t.f1 t.f2 t.f3 1048576) hsz ?_
  by_cases hw : wt24 t ≤ 1048576
  · have e : szr (wt24 t) 1048576 = 1048576 - wt24 t := by unfold szr; rw [if_pos (by omega)]
    rw [e]
    refine Ev.congr (fun k => if_neg (by omega)) ?_
    have hsu := sz_ev (n + 1) u ho2 (by omega) (1048576 - wt24 t) (by omega) (by omega)
    refine Ev.bind (g := fun k => @laws_szTerm.f (i_sz n) k u.f0 u.f1 u.f2 u.f3 (1048576 - wt24 t)) hsu ?_
    by_cases hw2 : wt24 u ≤ 1048576 - wt24 t
    · have e2 : szr (wt24 u) (1048576 - wt24 t) = 1048576 - wt24 t - wt24 u := by unfold szr; rw [if_pos (by omega)]
      rw [e2]
      refine Ev.congr (fun k => if_neg (by omega)) ?_
      have hto' := hto hw
      have htu' := htu (by omega)
      have n1 := nm_to (ht24 t) t (Nat.le_refl _) hw
      have n2 := nm_to (ht24 u) u (Nat.le_refl _) (by omega)
      refine Ev.bind hto' ?_
      refine Ev.bind htu' ?_
      refine Ev.bind (specCT_ev (to29 t) (to29 u) (by omega) n1 (by omega) n2) ?_
      refine Ev.bind hto' ?_
      refine Ev.bind htu' ?_
      refine Ev.bind (implCT_ev n (to29 t) (to29 u) (by rw [ht_to]; omega) (by omega) n1 (by omega) n2) ?_
      refine Ev.congr (fun k => if_pos rfl) ?_
      refine Ev.bind hto' ?_
      refine Ev.bind (heq (by omega)) ?_
      refine Ev.congr (fun k => if_pos rfl) ?_
      refine Ev.bind htu' ?_
      refine Ev.bind (hequ (by omega)) ?_
      exact Ev.congr (fun k => if_pos rfl) (Ev.now _)
    · have e2 : szr (wt24 u) (1048576 - wt24 t) = -1 := by unfold szr; rw [if_neg (by omega)]
      rw [e2]
      exact Ev.congr (fun k => if_pos (by omega)) (Ev.now _)
  · have e : szr (wt24 t) 1048576 = -1 := by unfold szr; rw [if_neg (by omega)]
    rw [e]
    exact Ev.congr (fun k => if_pos (by omega)) (Ev.now _)
theorem cmp_walk (t : S24) (A : Option Addr) (c : Nat) (u : S24) (B : Option Addr) (d : Nat) (w : World) (hC : Kd.C k24 w A t.f3.length t.f3) (hl : t.f3.length ≤ c) (ho : ok24 t) (hD : Kd.C k24 w B u.f3.length u.f3) (hl2 : u.f3.length ≤ d) (ho2 : ok24 u) :
    Calls Try.prog 11 #[.agg #[.int .i64 t.f0, .string t.f1, .int .i64 t.f2, .slice A t.f3.length c], .agg #[.int .i64 u.f0, .string u.f1, .int .i64 u.f2, .slice B u.f3.length d]] w fun e w' => e = .returned (.bool true) ∧ Below w.heap.size w w' := by
  obtain ⟨n, k, h⟩ := law_cmp t u ho ho2
  exact @laws_FnExactCompareTerm.calls (i_sz n) (i_to n) (i_eq n) (cfOf (i_cmp n)) k t.f0 t.f1 t.f2 A c t.f3 u.f0 u.f1 u.f2 B d u.f3 true w hC hl hD hl2 h
end Go.Proofs.Ytojedbogbodkiaa.KCm
