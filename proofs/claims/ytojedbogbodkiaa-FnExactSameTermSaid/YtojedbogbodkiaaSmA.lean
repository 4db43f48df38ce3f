/- Parts of a proof about terms. No condition. -/
import Derived.Test.YtojedbogbodkiaaKSmx3
import Derived.Test.YtojedbogbodkiaaKSmx2
import Derived.Test.YtojedbogbodkiaaKSmx1
import Derived.Deep.Slices
namespace Go.Proofs.Ytojedbogbodkiaa.KSm
open Go.RowKit Go.Proofs.YtojedbogbodkiaaW.PrintWords Go.Proofs.YtojedbogbodkiaaW.PrintLast Go.Proofs.YtojedbogbodkiaaW.PrintMore
/-! #### the pairs of functions that call each other: level by level -/
@[reducible] def d_sz : fk_laws_szTerm := ⟨fun _ _ _ _ _ _ => none, fun _ _ _ _ _ _ => LeO.none _, by intros; contradiction⟩
@[reducible] def d_to : fk_laws_toTerm := ⟨fun _ _ _ _ _ => none, fun _ _ _ _ _ => LeO.none _, by intros; contradiction⟩
@[reducible] def d_eq : fk_laws_eqTerm := ⟨fun _ _ _ _ _ _ _ _ _ => none, fun _ _ _ _ _ _ _ _ _ => LeO.none _, by intros; contradiction⟩
@[reducible] def d_same : fk_impl_SameTerm := ⟨fun _ _ _ _ _ _ _ _ _ => none, fun _ _ _ _ _ _ _ _ _ => LeO.none _, by intros; contradiction⟩
@[reducible] def i_sz : Nat → fk_laws_szTerm
  | 0 => d_sz
  | n + 1 => letI := i_sz n; letI := d_to; letI := d_eq; letI := d_same; ⟨laws_szTerm.f, laws_szTerm.mono, laws_szTerm.calls⟩
@[reducible] def i_to : Nat → fk_laws_toTerm
  | 0 => d_to
  | n + 1 => letI := i_to n; letI := d_sz; letI := d_eq; letI := d_same; ⟨laws_toTerm.f, laws_toTerm.mono, laws_toTerm.calls⟩
@[reducible] def i_eq : Nat → fk_laws_eqTerm
  | 0 => d_eq
  | n + 1 => letI := i_eq n; letI := d_sz; letI := d_to; letI := d_same; ⟨laws_eqTerm.f, laws_eqTerm.mono, laws_eqTerm.calls⟩
/-! #### trees: height, weight, the copy -/
mutual
def ht24 : S24 → Nat
  | ⟨_, _, _, ks⟩ => hts24 ks + 1
def hts24 : List S24 → Nat
  | [] => 0
  | t :: ts => max (ht24 t) (hts24 ts)
end
mutual
def wt24 : S24 → Nat
  | ⟨_, n, _, ks⟩ => n.size + (ks.length + wts24 ks)
def wts24 : List S24 → Nat
  | [] => 0
  | t :: ts => wt24 t + wts24 ts
end
mutual
def ok24 : S24 → Prop
  | ⟨_, n, _, ks⟩ => n.size ≤ 9223372036854775807 ∧ ks.length ≤ 9223372036854775807 ∧ oks24 ks
def oks24 : List S24 → Prop
  | [] => True
  | t :: ts => ok24 t ∧ oks24 ts
end
mutual
def to29 : S24 → S29
  | ⟨a, n, b, ks⟩ => ⟨a, n, b, tos29 ks⟩
def tos29 : List S24 → List S29
  | [] => []
  | t :: ts => to29 t :: tos29 ts
end
mutual
def ht29 : S29 → Nat
  | ⟨_, _, _, ks⟩ => hts29 ks + 1
def hts29 : List S29 → Nat
  | [] => 0
  | t :: ts => max (ht29 t) (hts29 ts)
end
mutual
def cn29 : S29 → Nat
  | ⟨_, _, _, ks⟩ => cns29 ks + 1
def cns29 : List S29 → Nat
  | [] => 0
  | t :: ts => cn29 t + cns29 ts
end
theorem ht24_eq (t : S24) : ht24 t = hts24 t.f3 + 1 := by cases t; rw [ht24]
theorem wt24_eq (t : S24) : wt24 t = t.f1.size + (t.f3.length + wts24 t.f3) := by cases t; rw [wt24]
theorem ok24_eq (t : S24) : ok24 t ↔ t.f1.size ≤ 9223372036854775807 ∧ t.f3.length ≤ 9223372036854775807 ∧ oks24 t.f3 := by cases t; rw [ok24]
theorem to29_eq (t : S24) : to29 t = ⟨t.f0, t.f1, t.f2, tos29 t.f3⟩ := by cases t; rw [to29]
theorem ht29_eq (t : S29) : ht29 t = hts29 t.f3 + 1 := by cases t; rw [ht29]
theorem cn29_eq (t : S29) : cn29 t = cns29 t.f3 + 1 := by cases t; rw [cn29]
theorem hts24_mem {ts : List S24} {t : S24} (h : t ∈ ts) : ht24 t ≤ hts24 ts := by
  induction ts with
  | nil => simp at h
  | cons a l ih =>
    rw [hts24]
    rcases List.mem_cons.1 h with rfl | h
    · omega
    · have := ih h; omega
theorem hts29_mem {ts : List S29} {t : S29} (h : t ∈ ts) : ht29 t ≤ hts29 ts := by
  induction ts with
  | nil => simp at h
  | cons a l ih =>
    rw [hts29]
    rcases List.mem_cons.1 h with rfl | h
    · omega
    · have := ih h; omega
theorem wts24_mem {ts : List S24} {t : S24} (h : t ∈ ts) : wt24 t ≤ wts24 ts := by
  induction ts with
  | nil => simp at h
  | cons a l ih =>
    rw [wts24]
    rcases List.mem_cons.1 h with rfl | h
    · omega
    · have := ih h; omega
theorem oks24_mem {ts : List S24} {t : S24} (h : t ∈ ts) (ho : oks24 ts) : ok24 t := by
  induction ts with
  | nil => simp at h
  | cons a l ih =>
    rw [oks24] at ho
    rcases List.mem_cons.1 h with rfl | h
    · exact ho.1
    · exact ih h ho.2
theorem tos29_map (ts : List S24) : tos29 ts = ts.map to29 := by
  induction ts with
  | nil => rw [tos29]; rfl
  | cons a l ih => rw [tos29, ih]; rfl
theorem tos29_length (ts : List S24) : (tos29 ts).length = ts.length := by rw [tos29_map, List.length_map]
theorem hts_to (n : Nat) : (∀ t : S24, ht24 t ≤ n → ht29 (to29 t) = ht24 t) ∧ (∀ ts : List S24, hts24 ts ≤ n → hts29 (tos29 ts) = hts24 ts) := by
  induction n with
  | zero =>
    have h1 : ∀ t : S24, ht24 t ≤ 0 → ht29 (to29 t) = ht24 t := fun t h => by rw [ht24_eq] at h; omega
    refine ⟨h1, fun ts h => ?_⟩
    cases ts with
    | nil => rw [tos29, hts29, hts24]
    | cons a l => rw [hts24] at h; have := ht24_eq a; omega
  | succ n ih =>
    have h1 : ∀ t : S24, ht24 t ≤ n + 1 → ht29 (to29 t) = ht24 t := fun t h => by
      rw [ht24_eq] at h ⊢
      rw [to29_eq, ht29_eq]
      rw [ih.2 _ (by omega)]
    refine ⟨h1, fun ts => ?_⟩
    induction ts with
    | nil => intro _; rw [tos29, hts29, hts24]
    | cons a l ihl =>
      intro h
      rw [hts24] at h
      rw [tos29, hts29, hts24, h1 a (by omega), ihl (by omega)]
theorem ht_to (t : S24) : ht29 (to29 t) = ht24 t := (hts_to (ht24 t)).1 t (Nat.le_refl _)
theorem cns_wt (n : Nat) : (∀ t : S24, ht24 t ≤ n → cn29 (to29 t) ≤ wt24 t + 1) ∧ (∀ ts : List S24, hts24 ts ≤ n → cns29 (tos29 ts) ≤ wts24 ts + ts.length) := by
  induction n with
  | zero =>
    refine ⟨fun t h => by rw [ht24_eq] at h; omega, fun ts h => ?_⟩
    cases ts with
    | nil => rw [tos29, cns29]; omega
    | cons a l => rw [hts24] at h; have := ht24_eq a; omega
  | succ n ih =>
    have h1 : ∀ t : S24, ht24 t ≤ n + 1 → cn29 (to29 t) ≤ wt24 t + 1 := fun t h => by
      rw [ht24_eq] at h
      rw [to29_eq, cn29_eq, wt24_eq]
      have := ih.2 t.f3 (by omega)
      show cns29 (tos29 t.f3) + 1 ≤ _
      omega
    refine ⟨h1, fun ts => ?_⟩
    induction ts with
    | nil => intro _; rw [tos29, cns29]; omega
    | cons a l ihl =>
      intro h
      rw [hts24] at h
      rw [tos29, cns29, wts24]
      have h2 := h1 a (by omega)
      have h3 := ihl (by omega)
      simp only [List.length_cons]
      omega
theorem cn_wt (t : S24) : cn29 (to29 t) ≤ wt24 t + 1 := (cns_wt (ht24 t)).1 t (Nat.le_refl _)
theorem t_wrap {i : Int} (h0 : -4611686018427387904 ≤ i) (h1 : i ≤ 4611686018427387904) : wrap64 i = i := by
  unfold wrap64; omega
theorem rd24_at (xs : List S24) (i : Nat) (h : i < xs.length) : rd_T24 xs (i : Int) = xs[i] := by
  unfold rd_T24; simp [List.getD, h]
theorem rd29_at (xs : List S29) (i : Nat) (h : i < xs.length) : rd_T29 xs (i : Int) = xs[i] := by
  unfold rd_T29; simp [List.getD, h]
theorem eta29 (t : S29) : (⟨t.f0, t.f1, t.f2, t.f3⟩ : S29) = t := by cases t; rfl
theorem next_i (i n : Nat) (h : i < n) (hn : n ≤ 1048576) : wrap64 ((i : Int) + 1) = ((i + 1 : Nat) : Int) := by
  rw [t_wrap (by omega) (by omega)]; omega
theorem cns29_mem {ts : List S29} {t : S29} (h : t ∈ ts) : cn29 t ≤ cns29 ts := by
  induction ts with
  | nil => simp at h
  | cons a l ih =>
    rw [cns29]
    rcases List.mem_cons.1 h with rfl | h
    · omega
    · have := ih h; omega
theorem cns29_len (ts : List S29) : ts.length ≤ cns29 ts := by
  induction ts with
  | nil => simp
  | cons a l ih => rw [cns29]; have := cn29_eq a; simp only [List.length_cons]; omega
/-! #### a term that came in, read as a tree -/
open Go.ChangeShapes Go.WideShapes
section
variable {H : Type} {enc : TypeId × Value → H} {w : World} {base : Nat} {spare : Nat → Bool} {held : Bool}
theorem list_of {α : Type} {Q : Nat → α → Prop} : ∀ (n : Nat), (∀ i, i < n → ∃ t, Q i t) → ∃ l : List α, l.length = n ∧ ∀ i t, l[i]? = some t → Q i t
  | 0, _ => ⟨[], rfl, fun i t h => by simp at h⟩
  | n + 1, h => by
    obtain ⟨l, hl, hq⟩ := list_of n (fun i hi => h i (by omega))
    obtain ⟨t, ht⟩ := h n (by omega)
    refine ⟨l ++ [t], by simp [hl], fun i t' hi => ?_⟩
    rcases Nat.lt_or_ge i n with h1 | h1
    · rw [List.getElem?_append_left (by omega)] at hi; exact hq i t' hi
    · rw [List.getElem?_append_right (by omega), hl] at hi
      have : i = n := by
        rcases Nat.eq_or_lt_of_le h1 with h2 | h2
        · exact h2.symm
        · rw [List.getElem?_eq_none (by simp; omega)] at hi; simp at hi
      subst this
      simp at hi; rw [← hi]; exact ht
theorem oks24_of {ts : List S24} (h : ∀ t ∈ ts, ok24 t) : oks24 ts := by
  induction ts with
  | nil => rw [oks24]; trivial
  | cons a l ih => rw [oks24]; exact ⟨h a (by simp), ih fun t ht => h t (by simp [ht])⟩
set_option maxRecDepth 100000 in
theorem open_T (fuel : Nat) : ∀ (cs : List Value) (x : DataW H × List MemPlace), DataW.trod enc Try.prog w base spare held fuel 24 cs = some x → ∃ t : S24, k24.K w t cs ∧ ok24 t := by
  induction fuel using Nat.strongRecOn with
  | _ fuel IH =>
    intro cs x h
    obtain ⟨xs, n, rfl, rfl, hlen, hxl, hf⟩ := DataW.trod_struct Try.underlying24 h
    have hC : Try.prog.cellsOf 24 = 4 := by kernel_rfl
    rw [hC] at hlen
    match cs, hlen, xs, hxl with
    | [c0, c1, c2, c3], _, [y0, y1, y2, y3], _ =>
      have C3 : Try.prog.cellsOf 3 = 1 := by kernel_rfl
      have C9 : Try.prog.cellsOf 9 = 1 := by kernel_rfl
      have C22 : Try.prog.cellsOf 22 = 1 := by kernel_rfl
      have g0 : DataW.trod enc Try.prog w base spare held n 3 [c0] = some y0 := by
        have g : DataW.trod enc Try.prog w base spare held n 3 (([c0, c1, c2, c3].drop 0).take (Try.prog.cellsOf 3)) = some y0 := hf 0 _ rfl
        rw [C3] at g
        exact g
      have g1 : DataW.trod enc Try.prog w base spare held n 9 [c1] = some y1 := by
        have g : DataW.trod enc Try.prog w base spare held n 9 (([c0, c1, c2, c3].drop 1).take (Try.prog.cellsOf 9)) = some y1 := hf 1 _ rfl
        rw [C9] at g
        exact g
      have g2 : DataW.trod enc Try.prog w base spare held n 3 [c2] = some y2 := by
        have g : DataW.trod enc Try.prog w base spare held n 3 (([c0, c1, c2, c3].drop 2).take (Try.prog.cellsOf 3)) = some y2 := hf 2 _ rfl
        rw [C3] at g
        exact g
      have g3 : DataW.trod enc Try.prog w base spare held n 22 [c3] = some y3 := by
        have g : DataW.trod enc Try.prog w base spare held n 22 (([c0, c1, c2, c3].drop 3).take (Try.prog.cellsOf 22)) = some y3 := hf 3 _ rfl
        rw [C22] at g
        exact g
      obtain ⟨a, ha, _, _⟩ := DataW.trod_int Try.underlying3 g0
      obtain ⟨nm, hn, _, hsz⟩ := DataW.trod_string Try.underlying9 g1
      obtain ⟨b, hb, _, _⟩ := DataW.trod_int Try.underlying3 g2
      simp only [List.cons.injEq, and_true] at ha hn hb
      subst ha hn hb
      have hm : maxLen = 9223372036854775807 := by decide +kernel
      rcases DataW.trod_slice Try.underlying22 g3 with ⟨h3, _⟩ | ⟨ad, len, cap, elems, rest, m, hm1, h3, _, _, hl, hcap, hel, hrd, _, _⟩
      · simp only [List.cons.injEq, and_true] at h3
        subst h3
        refine ⟨⟨a, nm, b, []⟩, k24_mk w ⟨a, nm, b, []⟩ (A3 := none) (c3 := 0) (Nat.le_refl _) ⟨rfl, by simp, fun h => by simp at h⟩, ?_⟩
        rw [ok24]; exact ⟨by omega, by simp, by rw [oks24]; trivial⟩
      · simp only [List.cons.injEq, and_true] at h3
        subst h3
        have hall : ∀ i, i < len → ∃ t : S24, ok24 t ∧ ∃ c : List Value, c.length = 4 ∧ k24.K w t c ∧ ∀ j u, c[j]? = some u → w.cell? (ad.add (i * 4 + j)) = some u := by
          intro i hi
          have h4 := hrd i hi
          rw [hC, List.getElem?_eq_getElem (by omega)] at h4
          obtain ⟨c, hc, ht⟩ := Option.bind_eq_some_iff.1 h4
          obtain ⟨t, hK, hok⟩ := IH m (by omega) c _ ht
          obtain ⟨_, hcl, hat⟩ := World.cells?_some hc
          refine ⟨t, hok, c, hcl, hK, fun j u hj => ?_⟩
          have hj4 : j < 4 := by
            rcases Nat.lt_or_ge j 4 with h | h
            · exact h
            · rw [List.getElem?_eq_none (by omega)] at hj; simp at hj
          rw [← hj, ← hat j hj4, Go.Deep.add_add]
        obtain ⟨l, hll, hq⟩ := list_of len hall
        have hoks : oks24 l := oks24_of fun t ht => by
          obtain ⟨i, hi, rfl⟩ := List.getElem_of_mem ht
          exact (hq i _ (List.getElem?_eq_getElem hi)).1
        have hlc : l.length ≤ cap := by omega
        have hk := k24_mk w ⟨a, nm, b, l⟩ (A3 := some ad) (c3 := cap) hlc ⟨rfl, by show l.length ≤ _; omega, fun _ => ⟨ad, rfl, fun j p hj => by
          obtain ⟨_, c, h1, h2, h3⟩ := hq j p hj
          exact ⟨c, h1, h2, h3⟩⟩⟩
        refine ⟨⟨a, nm, b, l⟩, ?_, ?_⟩
        · have : (⟨a, nm, b, l⟩ : S24).f3.length = len := hll
          rw [this] at hk; exact hk
        · rw [ok24]; exact ⟨by omega, by omega, hoks⟩
end
/-! #### szTerm tells what is left of the weight -/
def szr (w : Nat) (left : Int) : Int := if (w : Int) ≤ left then left - w else -1
theorem szS_ev (n : Nat) (xs : List S24) (hlen : xs.length ≤ 1048576)
    (IH : ∀ x ∈ xs, ∀ left : Int, 0 ≤ left → left ≤ 1048576 → Ev (fun k => (i_sz n).f k x.f0 x.f1 x.f2 x.f3 left) (szr (wt24 x) left)) (d : Nat) :
    ∀ (i : Nat) (left : Int), i ≤ xs.length → xs.length - i = d → 0 ≤ left → left ≤ 1048576 →
    Ev (fun k => @laws_szTermS.l0 (i_sz n) k xs left i) (szr (wts24 (xs.drop i)) left) := by
  induction d with
  | zero =>
    intro i left hi hd h0 h1
    refine Ev.step (f := fun _ => some left) (fun k => ?_) ?_
    · simp only [laws_szTermS.l0]; rw [if_neg (by omega)]
    · rw [List.drop_eq_nil_of_le (by omega), wts24]
      unfold szr; rw [if_pos (by simpa using h0)]
      simpa using Ev.now left
  | succ d ih =>
    intro i left hi hd h0 h1
    have hlt : i < xs.length := by omega
    refine Ev.step (f := fun k => ((i_sz n).f k xs[i].f0 xs[i].f1 xs[i].f2 xs[i].f3 left).bind fun t => if t < 0 then some (-1) else @laws_szTermS.l0 (i_sz n) k xs t ((i + 1 : Nat) : Int)) (fun k => ?_) ?_
    · simp only [laws_szTermS.l0]
      rw [if_pos (by omega), if_pos (by omega), rd24_at xs i hlt, next_i i _ hlt hlen]
    · refine Ev.bind (f := fun k t => if t < 0 then some (-1) else @laws_szTermS.l0 (i_sz n) k xs t ((i + 1 : Nat) : Int)) (IH xs[i] (List.getElem_mem hlt) left h0 h1) ?_
      rw [List.drop_eq_getElem_cons hlt, wts24]
      unfold szr
      by_cases hc : (wt24 xs[i] : Int) ≤ left
      · rw [if_pos hc]
        have h2 := ih (i + 1) (left - wt24 xs[i]) (by omega) (by omega) (by omega) (by omega)
        unfold szr at h2
        have e : (if ((wt24 xs[i] + wts24 (xs.drop (i + 1)) : Nat) : Int) ≤ left then left - ((wt24 xs[i] + wts24 (xs.drop (i + 1)) : Nat) : Int) else -1) = (if (wts24 (xs.drop (i + 1)) : Int) ≤ left - wt24 xs[i] then left - wt24 xs[i] - (wts24 (xs.drop (i + 1)) : Int) else -1) := by
          by_cases h3 : (wts24 (xs.drop (i + 1)) : Int) ≤ left - wt24 xs[i]
          · rw [if_pos h3, if_pos (by omega)]; omega
          · rw [if_neg h3, if_neg (by omega)]
        rw [e]
        exact Ev.congr (fun k => if_neg (by omega)) h2
      · rw [if_neg hc, if_neg (by omega)]
        exact Ev.congr (fun k => if_pos (by omega)) (Ev.now (-1))
theorem sz_ev (n : Nat) : ∀ (t : S24), ok24 t → ht24 t ≤ n → ∀ left : Int, 0 ≤ left → left ≤ 1048576 → Ev (fun k => (i_sz n).f k t.f0 t.f1 t.f2 t.f3 left) (szr (wt24 t) left) := by
  induction n with
  | zero => intro t _ h; rw [ht24_eq] at h; omega
  | succ n ih =>
    intro t ho h left h0 h1
    rw [ht24_eq] at h
    obtain ⟨o1, o2, o3⟩ := (ok24_eq t).1 ho
    show Ev (fun k => @laws_szTerm.f (i_sz n) k t.f0 t.f1 t.f2 t.f3 left) _
    unfold laws_szTerm.f
    have e1 : wrap64 (left - (t.f1.size : Int)) = left - t.f1.size := by unfold wrap64; omega
    rw [e1, wt24_eq]
    by_cases c1 : left - (t.f1.size : Int) < 0
    · refine Ev.congr (fun k => if_pos c1) ?_
      unfold szr; rw [if_neg (by omega)]; exact Ev.now _
    refine Ev.congr (fun k => if_neg c1) ?_
    have hS : Ev (fun k => @laws_szTermS.f (i_sz n) k t.f3 (left - (t.f1.size : Int))) (szr (t.f3.length + wts24 t.f3) (left - (t.f1.size : Int))) := by
      unfold laws_szTermS.f
      have e2 : wrap64 (left - (t.f1.size : Int) - (t.f3.length : Int)) = left - t.f1.size - t.f3.length := by unfold wrap64; omega
      rw [e2]
      by_cases c2 : left - (t.f1.size : Int) - (t.f3.length : Int) < 0
      · refine Ev.congr (fun k => if_pos c2) ?_
        unfold szr; rw [if_neg (by omega)]; exact Ev.now _
      · refine Ev.congr (fun k => if_neg c2) ?_
        have := szS_ev n t.f3 (by omega) (fun x hx left h0 h1 => ih x (oks24_mem hx o3) (by have := hts24_mem hx; omega) left h0 h1) t.f3.length 0 (left - t.f1.size - t.f3.length) (by omega) (by omega) (by omega) (by omega)
        rw [List.drop_zero] at this
        have e : szr (t.f3.length + wts24 t.f3) (left - (t.f1.size : Int)) = szr (wts24 t.f3) (left - t.f1.size - t.f3.length) := by
          unfold szr
          by_cases h3 : (wts24 t.f3 : Int) ≤ left - t.f1.size - t.f3.length
          · rw [if_pos h3, if_pos (by omega)]; omega
          · rw [if_neg h3, if_neg (by omega)]
        rw [e]; exact this
    refine Ev.bind (f := fun _ t => if t < 0 then some (-1) else some t) hS ?_
    have e : szr (t.f1.size + (t.f3.length + wts24 t.f3)) left = szr (t.f3.length + wts24 t.f3) (left - (t.f1.size : Int)) := by
      unfold szr
      by_cases h3 : ((t.f3.length + wts24 t.f3 : Nat) : Int) ≤ left - t.f1.size
      · rw [if_pos h3, if_pos (by omega)]; omega
      · rw [if_neg h3, if_neg (by omega)]
    rw [e]
    by_cases c3 : szr (t.f3.length + wts24 t.f3) (left - (t.f1.size : Int)) < 0
    · have : szr (t.f3.length + wts24 t.f3) (left - (t.f1.size : Int)) = -1 := by
        unfold szr at c3 ⊢; split at c3 <;> rename_i h
        · omega
        · rw [if_neg h]
      rw [this]; exact Ev.now _
    · exact Ev.congr (fun k => if_neg c3) (Ev.now _)
/-! #### toTerm is the copy -/
theorem toS_ev (n : Nat) (xs : List S24) (hlen : xs.length ≤ 1048576)
    (IH : ∀ x ∈ xs, Ev (fun k => (i_to n).f k x.f0 x.f1 x.f2 x.f3) ((to29 x).f0, (to29 x).f1, (to29 x).f2, (to29 x).f3)) (d : Nat) :
    ∀ (i : Nat) (ys : List S29), i ≤ xs.length → xs.length - i = d → ys.length = xs.length →
    Ev (fun k => @laws_toTermS.l0 (i_to n) k xs ys i) (ys.take i ++ (xs.drop i).map to29) := by
  induction d with
  | zero =>
    intro i ys hi hd hy
    refine Ev.step (f := fun _ => some ys) (fun k => ?_) ?_
    · simp only [laws_toTermS.l0]; rw [if_neg (by omega)]
    · rw [List.drop_eq_nil_of_le (by omega), List.take_of_length_le (by omega)]
      simpa using Ev.now ys
  | succ d ih =>
    intro i ys hi hd hy
    have hlt : i < xs.length := by omega
    refine Ev.step (f := fun k => ((i_to n).f k xs[i].f0 xs[i].f1 xs[i].f2 xs[i].f3).bind fun b => @laws_toTermS.l0 (i_to n) k xs (ys.set i ⟨b.1, b.2.1, b.2.2.1, b.2.2.2⟩) ((i + 1 : Nat) : Int)) (fun k => ?_) ?_
    · simp only [laws_toTermS.l0]
      rw [if_pos (by omega), if_pos (by omega), rd24_at xs i hlt, next_i i _ hlt hlen]
      have : (i : Int) < (ys.length : Int) := by omega
      simp only [if_pos this, Int.toNat_natCast]
    · refine Ev.bind (f := fun k b => @laws_toTermS.l0 (i_to n) k xs (ys.set i ⟨b.1, b.2.1, b.2.2.1, b.2.2.2⟩) ((i + 1 : Nat) : Int)) (IH xs[i] (List.getElem_mem hlt)) ?_
      have h2 := ih (i + 1) (ys.set i (to29 xs[i])) (by omega) (by omega) (by rw [List.length_set]; exact hy)
      have e : ys.take i ++ (xs.drop i).map to29 = (ys.set i (to29 xs[i])).take (i + 1) ++ (xs.drop (i + 1)).map to29 := by
        have hl : i < (ys.set i (to29 xs[i])).length := by rw [List.length_set]; omega
        rw [List.drop_eq_getElem_cons hlt, List.map_cons, List.take_succ_eq_append_getElem hl, List.getElem_set_self, List.take_set_of_le (Nat.le_refl i)]
        simp
      rw [e]
      show Ev (fun k => @laws_toTermS.l0 (i_to n) k xs (ys.set i ⟨(to29 xs[i]).f0, (to29 xs[i]).f1, (to29 xs[i]).f2, (to29 xs[i]).f3⟩) ((i + 1 : Nat) : Int)) _
      rw [eta29]; exact h2
theorem to_ev (n : Nat) : ∀ (t : S24), ht24 t ≤ n → wt24 t ≤ 1048576 → Ev (fun k => (i_to n).f k t.f0 t.f1 t.f2 t.f3) ((to29 t).f0, (to29 t).f1, (to29 t).f2, (to29 t).f3) := by
  induction n with
  | zero => intro t h; rw [ht24_eq] at h; omega
  | succ n ih =>
    intro t h hw
    rw [ht24_eq] at h
    rw [wt24_eq] at hw
    show Ev (fun k => @laws_toTerm.f (i_to n) k t.f0 t.f1 t.f2 t.f3) _
    rw [to29_eq]
    unfold laws_toTerm.f
    refine Ev.bind (f := fun _ t119 => some (t.f0, t.f1, t.f2, t119)) (a := tos29 t.f3) ?_ (Ev.now _)
    unfold laws_toTermS.f
    refine Ev.congr (fun k => by rw [if_pos (by omega), if_pos (by omega)]) ?_
    have := toS_ev n t.f3 (by omega) (fun x hx => ih x (by have := hts24_mem hx; omega) (by have := wts24_mem hx; omega)) t.f3.length 0 (List.replicate t.f3.length z29) (by omega) (by omega) (by simp)
    rw [List.take_zero, List.drop_zero, List.nil_append, ← tos29_map] at this
    exact this
/-! #### eqTerm tells true of what is the same -/
theorem eqS_ev (n : Nat) (xs : List S29) (hlen : xs.length ≤ 1048576)
    (IH : ∀ x ∈ xs, Ev (fun k => (i_eq n).f k x.f0 x.f1 x.f2 x.f3 x.f0 x.f1 x.f2 x.f3) true) (d : Nat) :
    ∀ (i : Nat), i ≤ xs.length → xs.length - i = d → Ev (fun k => @laws_eqTermS.l0 (i_eq n) k xs xs i) true := by
  induction d with
  | zero =>
    intro i hi hd
    refine Ev.step (f := fun _ => some true) (fun k => ?_) (Ev.now _)
    simp only [laws_eqTermS.l0]; rw [if_neg (by omega)]
  | succ d ih =>
    intro i hi hd
    have hlt : i < xs.length := by omega
    refine Ev.step (f := fun k => ((i_eq n).f k xs[i].f0 xs[i].f1 xs[i].f2 xs[i].f3 xs[i].f0 xs[i].f1 xs[i].f2 xs[i].f3).bind fun b => if b = true then @laws_eqTermS.l0 (i_eq n) k xs xs ((i + 1 : Nat) : Int) else some false) (fun k => ?_) ?_
    · simp only [laws_eqTermS.l0]
      rw [if_pos (by omega), if_pos (by omega), if_pos (by omega), rd29_at xs i hlt, next_i i _ hlt hlen]
    · refine Ev.bind (f := fun k b => if b = true then @laws_eqTermS.l0 (i_eq n) k xs xs ((i + 1 : Nat) : Int) else some false) (IH xs[i] (List.getElem_mem hlt)) ?_
      exact Ev.congr (fun k => if_pos rfl) (ih (i + 1) (by omega) (by omega))
theorem eq_ev (n : Nat) : ∀ (t : S29), ht29 t ≤ n → cn29 t ≤ 1048577 → Ev (fun k => (i_eq n).f k t.f0 t.f1 t.f2 t.f3 t.f0 t.f1 t.f2 t.f3) true := by
  induction n with
  | zero => intro t h; rw [ht29_eq] at h; omega
  | succ n ih =>
    intro t h hc
    rw [ht29_eq] at h
    rw [cn29_eq] at hc
    have hcm : ∀ (ts : List S29), (∀ x ∈ ts, cn29 x ≤ cns29 ts) ∧ ts.length ≤ cns29 ts := by
      intro ts
      induction ts with
      | nil => exact ⟨fun x hx => by simp at hx, by simp⟩
      | cons a l ihl =>
        rw [cns29]
        have := cn29_eq a
        refine ⟨fun x hx => ?_, by simp only [List.length_cons]; have := ihl.2; omega⟩
        rcases List.mem_cons.1 hx with rfl | hx
        · omega
        · have := ihl.1 x hx; omega
    show Ev (fun k => @laws_eqTerm.f (i_eq n) k t.f0 t.f1 t.f2 t.f3 t.f0 t.f1 t.f2 t.f3) _
    unfold laws_eqTerm.f
    refine Ev.congr (fun k => by rw [if_pos rfl, if_pos rfl, if_pos rfl]) ?_
    refine Ev.bind (f := fun _ b => if b = true then some true else some false) (a := true) ?_ (Ev.now _)
    unfold laws_eqTermS.f
    refine Ev.congr (fun k => if_pos rfl) ?_
    exact eqS_ev n t.f3 (by have := (hcm t.f3).2; omega) (fun x hx => ih x (by have := hts29_mem hx; omega) (by have := (hcm t.f3).1 x hx; omega)) t.f3.length 0 (by omega) (by omega)
section
variable [fk_laws_szTerm] [fk_laws_toTerm] [fk_laws_eqTerm] [T : fk_impl_SameTerm]
set_option linter.unusedSectionVars false
def eqfS : Nat → List S29 → List S29 → Int → Option Bool
  | 0, _, _, _ => none
  | k + 1, xs, ys, i => if i < (xs.length : Int) then ((fk_impl_SameTerm.f k (rd_T29 xs i).f0 (rd_T29 xs i).f1 (rd_T29 xs i).f2 (rd_T29 xs i).f3 (rd_T29 ys i).f0 (rd_T29 ys i).f1 (rd_T29 ys i).f2 (rd_T29 ys i).f3).bind fun b => if b = true then eqfS k xs ys (i + 1) else some false) else some true
set_option maxHeartbeats 8000000 in
set_option maxRecDepth 100000 in
theorem eqf_calls (k : Nat) (A : Option Addr) (c : Nat) (xs : List S29) (B : Option Addr) (d : Nat) (ys : List S29) (r : Bool) (w : World) (hx : Kd.C k29 w A xs.length xs) (hxc : xs.length ≤ c) (hy : Kd.C k29 w B ys.length ys) (hyc : ys.length ≤ d) (hlen : xs.length = ys.length) (h : eqfS k xs ys 0 = some r) :
    Calls Try.prog 65 #[.slice A xs.length c, .slice B ys.length d, .func (.func 21) #[] #[]] w fun e w' => e = .returned (.bool r) ∧ Below w.heap.size w w' := by
  have HX := Aside0.mk hx
  have HY := Aside0.mk hy
  have HXC := Aside0.mk hxc
  have HYC := Aside0.mk hyc
  have HL := Aside0.mk hlen
  have HH := Aside0.mk h
  have hm := hx.2.1
  have c2b0 : decide ((xs.length : Int) = (ys.length : Int)) = true := decide_eq_true (by omega)
  have c2b1 : ((xs.length : Int) == (ys.length : Int)) = true := by simp [hlen]
  have c2b2 : ((xs.length : Int) != (ys.length : Int)) = false := by simp [hlen]
  clear hx hy hxc hyc h hlen
  go_enter Try.func65, Try.ntmps65
  go_wp2
  go_loopg [17] k (fun kq v17 w' => ∃ i : Nat, v17 = .int .i64 i ∧ Aside0 (i ≤ xs.length) ∧ Aside0 (eqfS kq xs ys i = some r) ∧ Aside0 (Below w.heap.size w w'))
  case atStart => exact ⟨0, rfl, ⟨by omega⟩, HH, ⟨Below.refl _ _⟩⟩
  case round =>
    clear HH
    obtain ⟨i, rfl, hi, HA, HB⟩ := hrel
    cases gk with
    | zero => exact absurd HA.out (by simp [eqfS])
    | succ k1 =>
      have H := HA.out
      clear HA
      simp only [eqfS] at H
      by_cases hlt : (i : Int) < (xs.length : Int)
      · rw [if_pos hlt] at H
        have c3b0 : decide ((i : Int) < (xs.length : Int)) = true := decide_eq_true hlt
        have c3b1 : decide (i < xs.length) = true := decide_eq_true (by omega)
        have c3b2 : decide ((i : Int) < (ys.length : Int)) = true := decide_eq_true (by have := HL.out; omega)
        obtain ⟨b, hb, H⟩ := Option.bind_eq_some_iff.1 H
        have Hb := Aside0.mk hb
        have H' : Aside0 ((if b = true then eqfS k1 xs ys ((i : Int) + 1) else some false) = some r) := ⟨H⟩
        clear hb H
        have p1 : (0 : Int) ≤ (i : Int) := by omega
        have q1 : (i : Int) < (xs.length : Int) := hlt
        have q2 : (i : Int) < (ys.length : Int) := by have := HL.out; omega
        obtain ⟨ad, A3, c3, e1, hx0, hx1, hx2, hx3, hl3, hi3⟩ := at_T29 HX.out (i : Int) p1 q1
        obtain ⟨bd, B3, d3, e2, hy0, hy1, hy2, hy3, hm3, hj3⟩ := at_T29 HY.out (i : Int) p1 q2
        cases e1
        cases e2
        have HX3 := Aside0.mk (Kd.C_below hi3 HB.out)
        have HY3 := Aside0.mk (Kd.C_below hj3 HB.out)
        have HXl := Aside0.mk hl3
        have HYl := Aside0.mk hm3
        clear hi3 hj3 hl3 hm3
        replace hx0 := (HB.out.cell (World.block_lt_of_cell? w _ hx0)).trans hx0
        replace hx1 := (HB.out.cell (World.block_lt_of_cell? w _ hx1)).trans hx1
        replace hx2 := (HB.out.cell (World.block_lt_of_cell? w _ hx2)).trans hx2
        replace hx3 := (HB.out.cell (World.block_lt_of_cell? w _ hx3)).trans hx3
        replace hy0 := (HB.out.cell (World.block_lt_of_cell? w _ hy0)).trans hy0
        replace hy1 := (HB.out.cell (World.block_lt_of_cell? w _ hy1)).trans hy1
        replace hy2 := (HB.out.cell (World.block_lt_of_cell? w _ hy2)).trans hy2
        replace hy3 := (HB.out.cell (World.block_lt_of_cell? w _ hy3)).trans hy3
        simp only [Int.toNat_natCast] at hx0 hx1 hx2 hx3 hy0 hy1 hy2 hy3
        have hz0 := fun o => (World.cell?_alloc_lt wr o _ (World.block_lt_of_cell? wr _ hy0)).trans hy0
        have hz1 := fun o => (World.cell?_alloc_lt wr o _ (World.block_lt_of_cell? wr _ hy1)).trans hy1
        have hz2 := fun o => (World.cell?_alloc_lt wr o _ (World.block_lt_of_cell? wr _ hy2)).trans hy2
        have hz3 := fun o => (World.cell?_alloc_lt wr o _ (World.block_lt_of_cell? wr _ hy3)).trans hy3
        have HW := fun o1 o2 w2 (hb2 : Below ((wr.alloc o1).alloc o2).heap.size ((wr.alloc o1).alloc o2) w2) => below_then HB.out HB.out.size (below_then (below_alloc (below_alloc (Below.refl wr.heap.size wr) o1) o2) (by simp; omega) hb2)
        cases b with
        | false =>
          go_wp2_with (go_at_call 21; refine (fk_impl_SameTerm.calls k1 _ _ _ _ _ _ _ _ _ _ _ _ false _ ?s1 HXl.out ?s2 HYl.out Hb.out).mono ?_; (case s1 => exact Kd.C_alloc (Kd.C_alloc HX3.out _) _); (case s2 => exact Kd.C_alloc (Kd.C_alloc HY3.out _) _); rintro e w2 ⟨rfl, hb2⟩)
          obtain rfl := Option.some.inj H'.out
          go_ret
          exact ⟨rfl, HW _ _ _ hb2⟩
        | true =>
          go_wp2_with (go_at_call 21; refine (fk_impl_SameTerm.calls k1 _ _ _ _ _ _ _ _ _ _ _ _ true _ ?s1 HXl.out ?s2 HYl.out Hb.out).mono ?_; (case s1 => exact Kd.C_alloc (Kd.C_alloc HX3.out _) _); (case s2 => exact Kd.C_alloc (Kd.C_alloc HY3.out _) _); rintro e w2 ⟨rfl, hb2⟩)
          go_roundg k1
          case measure => omega
          case rel => exact ⟨i + 1, by go_num, ⟨by omega⟩, ⟨by have h := H'.out; simp only [if_true] at h; rw [show ((i + 1 : Nat) : Int) = (i : Int) + 1 by omega]; exact h⟩, ⟨HW _ _ _ hb2⟩⟩
      · have c3b0 : decide ((i : Int) < (xs.length : Int)) = false := decide_eq_false hlt
        have c3b1 : decide (i < xs.length) = false := decide_eq_false (by omega)
        rw [if_neg hlt] at H
        obtain rfl := Option.some.inj H
        go_wp2
        go_ret
        exact ⟨rfl, HB.out⟩
theorem eqfS_mono : ∀ (k : Nat) (xs ys : List S29) (i : Int), LeO (eqfS k xs ys i) (eqfS (k + 1) xs ys i)
  | 0, _, _, _ => LeO.none _
  | k + 1, xs, ys, i => by
    rw [eqfS, eqfS]
    refine LeO.ite ?_ (LeO.refl _)
    refine LeO.bind (fk_impl_SameTerm.mono _ _ _ _ _ _ _ _ k) fun b => ?_
    exact LeO.ite (eqfS_mono k xs ys (i + 1)) (LeO.refl _)
def sameF (k : Nat) (a0 : Int) (a1 : ByteArray) (a2 : Int) (a3 : List S29) (b0 : Int) (b1 : ByteArray) (b2 : Int) (b3 : List S29) : Option Bool :=
  if a0 = b0 then (if a1.toList = b1.toList then (if a2 = b2 then (if a3.length = b3.length then eqfS k a3 b3 0 else some false) else some false) else some false) else some false
theorem sameF_mono (a0 : Int) (a1 : ByteArray) (a2 : Int) (a3 : List S29) (b0 : Int) (b1 : ByteArray) (b2 : Int) (b3 : List S29) (k : Nat) : LeO (sameF k a0 a1 a2 a3 b0 b1 b2 b3) (sameF (k + 1) a0 a1 a2 a3 b0 b1 b2 b3) := by
  unfold sameF
  exact LeO.ite (LeO.ite (LeO.ite (LeO.ite (eqfS_mono _ _ _ _) (LeO.refl _)) (LeO.refl _)) (LeO.refl _)) (LeO.refl _)
set_option maxHeartbeats 8000000 in
set_option maxRecDepth 100000 in
theorem eqf_ne (A : Option Addr) (c : Nat) (xs : List S29) (B : Option Addr) (d : Nat) (ys : List S29) (w : World) (hlen : xs.length ≠ ys.length) :
    Calls Try.prog 65 #[.slice A xs.length c, .slice B ys.length d, .func (.func 21) #[] #[]] w fun e w' => e = .returned (.bool false) ∧ Below w.heap.size w w' := by
  have c2b0 : decide ((xs.length : Int) = (ys.length : Int)) = false := decide_eq_false (by omega)
  have c2b1 : ((xs.length : Int) == (ys.length : Int)) = false := by
    have : ¬ (xs.length : Int) = (ys.length : Int) := by omega
    simpa using this
  have c2b2 : ((xs.length : Int) != (ys.length : Int)) = true := by
    have : ¬ (xs.length : Int) = (ys.length : Int) := by omega
    simpa using this
  go_enter Try.func65, Try.ntmps65
  go_wp2
  go_ret
  exact ⟨rfl, Below.refl _ _⟩
set_option maxHeartbeats 8000000 in
set_option maxRecDepth 100000 in
theorem same_calls (k : Nat) (a0_0 : Int) (a0_1 : ByteArray) (a0_2 : Int) (A0_3 : Option Addr) (c0_3 : Nat) (l0_3 : List S29) (a1_0 : Int) (a1_1 : ByteArray) (a1_2 : Int) (A1_3 : Option Addr) (c1_3 : Nat) (l1_3 : List S29) (r : Bool) (w : World) (hr0_3 : Kd.C k29 w A0_3 l0_3.length l0_3) (hc0_3 : l0_3.length ≤ c0_3) (hr1_3 : Kd.C k29 w A1_3 l1_3.length l1_3) (hc1_3 : l1_3.length ≤ c1_3) (h : sameF k a0_0 a0_1 a0_2 l0_3 a1_0 a1_1 a1_2 l1_3 = some r) :
    Calls Try.prog 21 #[.agg #[.int .i64 a0_0, .string a0_1, .int .i64 a0_2, .slice A0_3 l0_3.length c0_3], .agg #[.int .i64 a1_0, .string a1_1, .int .i64 a1_2, .slice A1_3 l1_3.length c1_3]] w fun e w' => e = .returned (.bool r) ∧ Below w.heap.size w w' := by
  have hm := hr0_3.2.1
  have hm2 := hr1_3.2.1
  have HX := Aside0.mk hr0_3
  have HY := Aside0.mk hr1_3
  clear hr0_3 hr1_3
  unfold sameF at h
  have HB := fun (o1 o2 : Obj) => below_alloc (below_alloc (Below.refl w.heap.size w) o1) o2
  by_cases c1 : a0_0 = a1_0
  · have d1 : (a0_0 == a1_0) = true := by simpa using c1
    rw [if_pos c1] at h
    by_cases c2 : a0_1.toList = a1_1.toList
    · have d2 : (a0_1.toList == a1_1.toList) = true := by simpa using c2
      rw [if_pos c2] at h
      by_cases c3 : a0_2 = a1_2
      · have d3 : (a0_2 == a1_2) = true := by simpa using c3
        rw [if_pos c3] at h
        clear c1 c2 c3
        by_cases c4 : l0_3.length = l1_3.length
        · rw [if_pos c4] at h
          have HH := Aside0.mk h
          have C4 := Aside0.mk c4
          clear h c4
          go_enter Try.func21, Try.ntmps21
          go_wp2_with (go_at_call 65; refine (eqf_calls k _ _ l0_3 _ _ l1_3 r _ ?s1 hc0_3 ?s2 hc1_3 C4.out HH.out).mono ?_; (case s1 => exact Kd.C_alloc (Kd.C_alloc HX.out _) _); (case s2 => exact Kd.C_alloc (Kd.C_alloc HY.out _) _); rintro e w2 ⟨rfl, hb2⟩)
          go_ret
          exact ⟨rfl, below_then (HB _ _) (by simp; omega) hb2⟩
        · rw [if_neg c4] at h
          obtain rfl := Option.some.inj h
          go_enter Try.func21, Try.ntmps21
          go_wp2_with (go_at_call 65; refine (eqf_ne _ _ l0_3 _ _ l1_3 _ c4).mono ?_; rintro e w2 ⟨rfl, hb2⟩)
          go_ret
          exact ⟨rfl, below_then (HB _ _) (by simp; omega) hb2⟩
      · have d3 : (a0_2 == a1_2) = false := by simpa using c3
        rw [if_neg c3] at h
        obtain rfl := Option.some.inj h
        go_enter Try.func21, Try.ntmps21
        go_wp2
        go_ret
        exact ⟨rfl, HB _ _⟩
    · have d2 : (a0_1.toList == a1_1.toList) = false := by simpa using c2
      rw [if_neg c2] at h
      obtain rfl := Option.some.inj h
      go_enter Try.func21, Try.ntmps21
      go_wp2
      go_ret
      exact ⟨rfl, HB _ _⟩
  · have d1 : (a0_0 == a1_0) = false := by simpa using c1
    rw [if_neg c1] at h
    obtain rfl := Option.some.inj h
    go_enter Try.func21, Try.ntmps21
    go_wp2
    go_ret
    exact ⟨rfl, HB _ _⟩
end
@[reducible] def i_same : Nat → fk_impl_SameTerm
  | 0 => d_same
  | n + 1 => letI := i_same n; letI := d_sz; letI := d_to; letI := d_eq; ⟨sameF, sameF_mono, same_calls⟩
/-! #### the same, both ways -/
mutual
def sm29 : S29 → S29 → Bool
  | ⟨a, n, b, ks⟩, ⟨a', n', b', ks'⟩ => decide (a = a') && (decide (n.toList = n'.toList) && (decide (b = b') && (decide (ks.length = ks'.length) && sms29 ks ks')))
def sms29 : List S29 → List S29 → Bool
  | [], _ => true
  | _ :: _, [] => true
  | t :: ts, u :: us => sm29 t u && sms29 ts us
end
theorem sm29_eq (t u : S29) : sm29 t u = (decide (t.f0 = u.f0) && (decide (t.f1.toList = u.f1.toList) && (decide (t.f2 = u.f2) && (decide (t.f3.length = u.f3.length) && sms29 t.f3 u.f3)))) := by
  cases t; cases u; rw [sm29]
theorem sameS_ev (n : Nat) (xs ys : List S29) (hl : xs.length = ys.length)
    (IH : ∀ (i : Nat) (h : i < xs.length), Ev (fun k => (i_same n).f k xs[i].f0 xs[i].f1 xs[i].f2 xs[i].f3 (ys[i]'(by omega)).f0 (ys[i]'(by omega)).f1 (ys[i]'(by omega)).f2 (ys[i]'(by omega)).f3) (sm29 xs[i] (ys[i]'(by omega)))) (d : Nat) :
    ∀ i : Nat, i ≤ xs.length → xs.length - i = d → Ev (fun k => @eqfS (i_same n) k xs ys i) (sms29 (xs.drop i) (ys.drop i)) := by
  induction d with
  | zero =>
    intro i hi hd
    refine Ev.step (f := fun _ => some true) (fun k => ?_) ?_
    · simp only [eqfS]; rw [if_neg (by omega)]
    · rw [List.drop_eq_nil_of_le (by omega), sms29]; exact Ev.now _
  | succ d ih =>
    intro i hi hd
    have hlt : i < xs.length := by omega
    have hlt2 : i < ys.length := by omega
    refine Ev.step (f := fun k => ((i_same n).f k xs[i].f0 xs[i].f1 xs[i].f2 xs[i].f3 ys[i].f0 ys[i].f1 ys[i].f2 ys[i].f3).bind fun b => if b = true then @eqfS (i_same n) k xs ys ((i + 1 : Nat) : Int) else some false) (fun k => ?_) ?_
    · simp only [eqfS]
      rw [if_pos (by omega), rd29_at xs i hlt, rd29_at ys i hlt2, show (i : Int) + 1 = ((i + 1 : Nat) : Int) by omega]
    · refine Ev.bind (f := fun k b => if b = true then @eqfS (i_same n) k xs ys ((i + 1 : Nat) : Int) else some false) (IH i hlt) ?_
      rw [List.drop_eq_getElem_cons hlt, List.drop_eq_getElem_cons hlt2, sms29]
      cases sm29 xs[i] ys[i]
      · rw [Bool.false_and]; exact Ev.congr (fun k => if_neg (by simp)) (Ev.now _)
      · rw [Bool.true_and]; exact Ev.congr (fun k => if_pos rfl) (ih (i + 1) (by omega) (by omega))
theorem same_ev (n : Nat) : ∀ (t u : S29), ht29 t ≤ n → cn29 t ≤ 1048577 → Ev (fun k => (i_same n).f k t.f0 t.f1 t.f2 t.f3 u.f0 u.f1 u.f2 u.f3) (sm29 t u) := by
  induction n with
  | zero => intro t u h; rw [ht29_eq] at h; omega
  | succ n ih =>
    intro t u h hc
    rw [ht29_eq] at h
    rw [cn29_eq] at hc
    show Ev (fun k => @sameF (i_same n) k t.f0 t.f1 t.f2 t.f3 u.f0 u.f1 u.f2 u.f3) _
    rw [sm29_eq]
    unfold sameF
    by_cases c1 : t.f0 = u.f0
    · rw [decide_eq_true c1, Bool.true_and]
      refine Ev.congr (fun k => if_pos c1) ?_
      by_cases c2 : t.f1.toList = u.f1.toList
      · rw [decide_eq_true c2, Bool.true_and]
        refine Ev.congr (fun k => if_pos c2) ?_
        by_cases c3 : t.f2 = u.f2
        · rw [decide_eq_true c3, Bool.true_and]
          refine Ev.congr (fun k => if_pos c3) ?_
          by_cases c4 : t.f3.length = u.f3.length
          · rw [decide_eq_true c4, Bool.true_and]
            refine Ev.congr (fun k => if_pos c4) ?_
            have := sameS_ev n t.f3 u.f3 c4 (fun i hi => ih _ _ (by have := hts29_mem (List.getElem_mem hi); omega) (by have := cns29_mem (List.getElem_mem hi); omega)) t.f3.length 0 (by omega) (by omega)
            rw [List.drop_zero, List.drop_zero] at this
            exact this
          · rw [decide_eq_false c4, Bool.false_and]; exact Ev.congr (fun k => if_neg c4) (Ev.now _)
        · rw [decide_eq_false c3, Bool.false_and]; exact Ev.congr (fun k => if_neg c3) (Ev.now _)
      · rw [decide_eq_false c2, Bool.false_and]; exact Ev.congr (fun k => if_neg c2) (Ev.now _)
    · rw [decide_eq_false c1, Bool.false_and]; exact Ev.congr (fun k => if_neg c1) (Ev.now _)
theorem specSame_l (q0 : Int) (q1 : ByteArray) (q2 : Int) (p0 : Int) (p1 : ByteArray) (p2 : Int) (xs ys : List S29) (hlen : xs.length ≤ 1048576) (hl : xs.length = ys.length)
    (IH : ∀ (i : Nat) (h : i < xs.length), Ev (fun k => spec_SameTerm.f k xs[i].f0 xs[i].f1 xs[i].f2 xs[i].f3 (ys[i]'(by omega)).f0 (ys[i]'(by omega)).f1 (ys[i]'(by omega)).f2 (ys[i]'(by omega)).f3) (sm29 xs[i] (ys[i]'(by omega)))) (d : Nat) :
    ∀ i : Nat, i ≤ xs.length → xs.length - i = d → Ev (fun k => spec_SameTerm.l0 k i q0 q1 q2 xs p0 p1 p2 ys) (sms29 (xs.drop i) (ys.drop i)) := by
  induction d with
  | zero =>
    intro i hi hd
    refine Ev.step (f := fun _ => some true) (fun k => ?_) ?_
    · simp only [spec_SameTerm.l0]; rw [if_neg (by omega)]
    · rw [List.drop_eq_nil_of_le (by omega), sms29]; exact Ev.now _
  | succ d ih =>
    intro i hi hd
    have hlt : i < xs.length := by omega
    have hlt2 : i < ys.length := by omega
    refine Ev.step (f := fun k => (spec_SameTerm.f k xs[i].f0 xs[i].f1 xs[i].f2 xs[i].f3 ys[i].f0 ys[i].f1 ys[i].f2 ys[i].f3).bind fun b => if b = true then spec_SameTerm.l0 k ((i + 1 : Nat) : Int) q0 q1 q2 xs p0 p1 p2 ys else some false) (fun k => ?_) ?_
    · simp only [spec_SameTerm.l0]
      rw [if_pos (by omega), if_pos (by omega), if_pos (by omega), rd29_at xs i hlt, rd29_at ys i hlt2, next_i i _ hlt hlen]
    · refine Ev.bind (f := fun k b => if b = true then spec_SameTerm.l0 k ((i + 1 : Nat) : Int) q0 q1 q2 xs p0 p1 p2 ys else some false) (IH i hlt) ?_
      rw [List.drop_eq_getElem_cons hlt, List.drop_eq_getElem_cons hlt2, sms29]
      cases sm29 xs[i] ys[i]
      · rw [Bool.false_and]; exact Ev.congr (fun k => if_neg (by simp)) (Ev.now _)
      · rw [Bool.true_and]; exact Ev.congr (fun k => if_pos rfl) (ih (i + 1) (by omega) (by omega))
theorem specSame_ev (n : Nat) : ∀ (t u : S29), ht29 t ≤ n → cn29 t ≤ 1048577 → Ev (fun k => spec_SameTerm.f k t.f0 t.f1 t.f2 t.f3 u.f0 u.f1 u.f2 u.f3) (sm29 t u) := by
  induction n with
  | zero => intro t u h; rw [ht29_eq] at h; omega
  | succ n ih =>
    intro t u h hc
    rw [ht29_eq] at h
    rw [cn29_eq] at hc
    rw [sm29_eq]
    have hbad : Ev (fun k => spec_SameTerm.j0 k true t.f0 t.f1 t.f2 t.f3 u.f0 u.f1 u.f2 u.f3) false :=
      Ev.step (f := fun _ => some false) (fun k => by simp only [spec_SameTerm.j0, if_true]) (Ev.now _)
    by_cases c1 : t.f0 = u.f0
    · rw [decide_eq_true c1, Bool.true_and]
      by_cases c2 : t.f1.toList = u.f1.toList
      · rw [decide_eq_true c2, Bool.true_and]
        by_cases c3 : t.f2 = u.f2
        · rw [decide_eq_true c3, Bool.true_and]
          by_cases c4 : t.f3.length = u.f3.length
          · have hne : ((t.f3.length : Int) != (u.f3.length : Int)) = false := by simp [c4]
            rw [decide_eq_true c4, Bool.true_and]
            refine Ev.step (f := fun k => spec_SameTerm.j0 k false t.f0 t.f1 t.f2 t.f3 u.f0 u.f1 u.f2 u.f3) (fun k => by simp only [spec_SameTerm.f, if_pos c1, if_pos c2, if_pos c3, hne]) ?_
            refine Ev.step (f := fun k => spec_SameTerm.l0 k 0 t.f0 t.f1 t.f2 t.f3 u.f0 u.f1 u.f2 u.f3) (fun k => by simp only [spec_SameTerm.j0, Bool.false_eq_true, if_false]) ?_
            have := specSame_l t.f0 t.f1 t.f2 u.f0 u.f1 u.f2 t.f3 u.f3 (by have := cns29_len t.f3; omega) c4 (fun i hi => ih _ _ (by have := hts29_mem (List.getElem_mem hi); omega) (by have := cns29_mem (List.getElem_mem hi); omega)) t.f3.length 0 (by omega) (by omega)
            rw [List.drop_zero, List.drop_zero] at this
            exact this
          · have hne : ((t.f3.length : Int) != (u.f3.length : Int)) = true := by
              have : ¬ (t.f3.length : Int) = u.f3.length := by omega
              simpa using this
            rw [decide_eq_false c4, Bool.false_and]
            exact Ev.step (fun k => by simp only [spec_SameTerm.f, if_pos c1, if_pos c2, if_pos c3, hne]) hbad
        · rw [decide_eq_false c3, Bool.false_and]
          exact Ev.step (fun k => by simp only [spec_SameTerm.f, if_pos c1, if_pos c2, if_neg c3]) hbad
      · rw [decide_eq_false c2, Bool.false_and]
        exact Ev.step (fun k => by simp only [spec_SameTerm.f, if_pos c1, if_neg c2]) hbad
    · rw [decide_eq_false c1, Bool.false_and]
      exact Ev.step (fun k => by simp only [spec_SameTerm.f, if_neg c1]) hbad
theorem law_same (t u : S24) (ho : ok24 t) (ho2 : ok24 u) : ∃ (n k : Nat), @laws_FnExactSameTerm.f (i_sz n) (i_to n) (i_eq n) (i_same n) k t.f0 t.f1 t.f2 t.f3 u.f0 u.f1 u.f2 u.f3 = some true := by
  obtain ⟨n, hn⟩ : ∃ n, n = max (ht24 t) (ht24 u) := ⟨_, rfl⟩
  refine ⟨n, ?_⟩
  refine Ev.rounds (g := fun k => @laws_FnExactSameTerm.f (i_sz n) (i_to n) (i_eq n) (i_same n) k t.f0 t.f1 t.f2 t.f3 u.f0 u.f1 u.f2 u.f3) ?_
  have hsz := sz_ev (n + 1) t ho (by omega) 1048576 (by omega) (by omega)
  have hto := to_ev (n + 1) t (by omega)
  have htu := to_ev (n + 1) u (by omega)
  have heq := eq_ev (n + 1) (to29 t) (by rw [ht_to]; omega)
  have hequ := eq_ev (n + 1) (to29 u) (by rw [ht_to]; omega)
  have hsp := specSame_ev n (to29 t) (to29 u) (by rw [ht_to]; omega)
  have him := same_ev n (to29 t) (to29 u) (by rw [ht_to]; omega)
  have hcn := cn_wt t
  have hcu := cn_wt u
  unfold laws_FnExactSameTerm.f
  refine Ev.bind (g := fun k => @laws_szTerm.f (i_sz n) k t.f0 t.f1 t.f2 t.f3 1048576) hsz ?_
  by_cases hw : wt24 t ≤ 1048576
  · have e : szr (wt24 t) 1048576 = 1048576 - wt24 t := by unfold szr; rw [if_pos (by omega)]
    rw [e]
    refine Ev.congr (fun k => if_neg (by omega)) ?_
    have hsu := sz_ev (n + 1) u ho2 (by omega) (1048576 - wt24 t) (by omega) (by omega)
    refine Ev.bind (g := fun k => @laws_szTerm.f (i_sz n) k u.f0 u.f1 u.f2 u.f3 (1048576 - wt24 t)) hsu ?_
    by_cases hw2 : wt24 u ≤ 1048576 - wt24 t
    · have e2 : szr (wt24 u) (1048576 - wt24 t) = 1048576 - wt24 t - wt24 u := by unfold szr; rw [if_pos (by omega)]
      rw [e2]
      refine Ev.congr (fun k => if_neg (by omega)) ?_
      have hto' := hto hw
      have htu' := htu (by omega)
      refine Ev.bind hto' ?_
      refine Ev.bind htu' ?_
      refine Ev.bind (hsp (by omega)) ?_
      refine Ev.bind hto' ?_
      refine Ev.bind htu' ?_
      refine Ev.bind (him (by omega)) ?_
      refine Ev.congr (fun k => if_neg (by simp)) ?_
      refine Ev.bind hto' ?_
      refine Ev.bind (heq (by omega)) ?_
      refine Ev.congr (fun k => if_pos rfl) ?_
      refine Ev.bind htu' ?_
      refine Ev.bind (hequ (by omega)) ?_
      exact Ev.congr (fun k => if_pos rfl) (Ev.now _)
    · have e2 : szr (wt24 u) (1048576 - wt24 t) = -1 := by unfold szr; rw [if_neg (by omega)]
      rw [e2]
      exact Ev.congr (fun k => if_pos (by omega)) (Ev.now _)
  · have e : szr (wt24 t) 1048576 = -1 := by unfold szr; rw [if_neg (by omega)]
    rw [e]
    exact Ev.congr (fun k => if_pos (by omega)) (Ev.now _)
theorem same_walk (t : S24) (A : Option Addr) (c : Nat) (u : S24) (B : Option Addr) (d : Nat) (w : World) (hC : Kd.C k24 w A t.f3.length t.f3) (hl : t.f3.length ≤ c) (ho : ok24 t) (hD : Kd.C k24 w B u.f3.length u.f3) (hl2 : u.f3.length ≤ d) (ho2 : ok24 u) :
    Calls Try.prog 4 #[.agg #[.int .i64 t.f0, .string t.f1, .int .i64 t.f2, .slice A t.f3.length c], .agg #[.int .i64 u.f0, .string u.f1, .int .i64 u.f2, .slice B u.f3.length d]] w fun e w' => e = .returned (.bool true) ∧ Below w.heap.size w w' := by
  obtain ⟨n, k, h⟩ := law_same t u ho ho2
  exact @laws_FnExactSameTerm.calls (i_sz n) (i_to n) (i_eq n) (i_same n) k t.f0 t.f1 t.f2 A c t.f3 u.f0 u.f1 u.f2 B d u.f3 true w hC hl hD hl2 h
end Go.Proofs.Ytojedbogbodkiaa.KSm
