/- PredOf of the program and of the reference tell the same text for every term. No condition. -/
import Derived.Test.YtojedbogbodkiaaDoorKDbx10
import Derived.Test.YtojedbogbodkiaaDoorKDbx9
import Derived.Test.YtojedbogbodkiaaDoorKDbx8
import Derived.Test.YtojedbogbodkiaaDoorKDbx7
import Derived.Test.YtojedbogbodkiaaDoorKDbx6
import Derived.Test.YtojedbogbodkiaaDoorKDbx5
import Derived.Test.YtojedbogbodkiaaDoorKDbx4
import Derived.Test.YtojedbogbodkiaaDoorKDbx3
import Derived.Test.YtojedbogbodkiaaDoorKDbx2
import Derived.Test.YtojedbogbodkiaaDoorKDbx1
import Derived.Test.YtojedbogbodkiaaDoorShelf
import Derived.Deep.Slices
import Derived.Lib.ItoaNum
import Derived.Lib.ItoaLen
import Derived.Lib.AppendIntMem
import Derived.OpenShut
set_option linter.unusedVariables false
set_option linter.unusedSimpArgs false
namespace Go.Proofs.YtojedbogbodkiaaDoor.KDb
open Go.RowKit Go.Proofs.YtojedbogbodkiaaDoorW.PrintWords Go.Proofs.YtojedbogbodkiaaDoorW.PrintLast Go.Proofs.YtojedbogbodkiaaDoorW.PrintMore
/- Decimal of the program and of the reference tell the same figures. No condition. -/
@[reducible] def i_it : fk_strconv_Itoa := ⟨fun _ n => if -9223372036854775808 ≤ n ∧ n ≤ 9223372036854775807 then some ⟨(Lib.itoa n).toArray⟩ else none, fun _ _ => LeO.refl _, fun k n r w hT h => by
 by_cases hn : -9223372036854775808 ≤ n ∧ n ≤ 9223372036854775807
 ·rw [if_pos hn] at h
  cases h
  refine (Tryd.strconv_Itoa n hn.1 hn.2 w hT.here).mono ?_
  rintro e w' ⟨rfl, k, os, rfl⟩
  refine ⟨rfl, ?_⟩
  exact Lib.below_grow w.heap.size w (Nat.le_refl _) k os
 ·rw [if_neg hn] at h
  cases h⟩
@[reducible] def d_sz : fk_laws_szTerm := ⟨fun _ _ _ _ _ _ => none, fun _ _ _ _ _ _ => LeO.none _, by intros; contradiction⟩
@[reducible] def d_to : fk_laws_toTerm := ⟨fun _ _ _ _ _ => none, fun _ _ _ _ _ => LeO.none _, by intros; contradiction⟩
@[reducible] def d_eq : fk_laws_eqTerm := ⟨fun _ _ _ _ _ _ _ _ _ => none, fun _ _ _ _ _ _ _ _ _ => LeO.none _, by intros; contradiction⟩
@[reducible] def i_sz : Nat → fk_laws_szTerm
 | 0 => d_sz
 | n + 1 => letI := i_sz n; letI := d_to; letI := d_eq; letI := i_it; ⟨laws_szTerm.f, laws_szTerm.mono, laws_szTerm.calls⟩
@[reducible] def i_to : Nat → fk_laws_toTerm
 | 0 => d_to
 | n + 1 => letI := i_to n; letI := d_sz; letI := d_eq; letI := i_it; ⟨laws_toTerm.f, laws_toTerm.mono, laws_toTerm.calls⟩
@[reducible] def i_eq : Nat → fk_laws_eqTerm
 | 0 => d_eq
 | n + 1 => letI := i_eq n; letI := d_sz; letI := d_to; letI := i_it; ⟨laws_eqTerm.f, laws_eqTerm.mono, laws_eqTerm.calls⟩
mutual
def ht24 : S24 → Nat
 | ⟨_, _, _, ks⟩ => hts24 ks + 1
def hts24 : List S24 → Nat
 | [] => 0
 | t :: ts => max (ht24 t) (hts24 ts)
end
mutual
def wt24 : S24 → Nat
 | ⟨_, n, _, ks⟩ => n.size + (ks.length + wts24 ks)
def wts24 : List S24 → Nat
 | [] => 0
 | t :: ts => wt24 t + wts24 ts
end
mutual
def ok24 : S24 → Prop
 | ⟨_, n, _, ks⟩ => n.size ≤ 9223372036854775807 ∧ ks.length ≤ 9223372036854775807 ∧ oks24 ks
def oks24 : List S24 → Prop
 | [] => True
 | t :: ts => ok24 t ∧ oks24 ts
end
mutual
def to29 : S24 → S29
 | ⟨a, n, b, ks⟩ => ⟨a, n, b, tos29 ks⟩
def tos29 : List S24 → List S29
 | [] => []
 | t :: ts => to29 t :: tos29 ts
end
mutual
def ht29 : S29 → Nat
 | ⟨_, _, _, ks⟩ => hts29 ks + 1
def hts29 : List S29 → Nat
 | [] => 0
 | t :: ts => max (ht29 t) (hts29 ts)
end
mutual
def cn29 : S29 → Nat
 | ⟨_, _, _, ks⟩ => cns29 ks + 1
def cns29 : List S29 → Nat
 | [] => 0
 | t :: ts => cn29 t + cns29 ts
end
theorem ht24_eq (t : S24) : ht24 t = hts24 t.f3 + 1 := by cases t; rw [ht24]
theorem wt24_eq (t : S24) : wt24 t = t.f1.size + (t.f3.length + wts24 t.f3) := by cases t; rw [wt24]
theorem ok24_eq (t : S24) : ok24 t ↔ t.f1.size ≤ 9223372036854775807 ∧ t.f3.length ≤ 9223372036854775807 ∧ oks24 t.f3 := by cases t; rw [ok24]
theorem to29_eq (t : S24) : to29 t = ⟨t.f0, t.f1, t.f2, tos29 t.f3⟩ := by cases t; rw [to29]
theorem ht29_eq (t : S29) : ht29 t = hts29 t.f3 + 1 := by cases t; rw [ht29]
theorem cn29_eq (t : S29) : cn29 t = cns29 t.f3 + 1 := by cases t; rw [cn29]
theorem hts24_mem {ts : List S24} {t : S24} (h : t ∈ ts) : ht24 t ≤ hts24 ts := by
 induction ts with
 | nil => simp at h
 | cons a l ih =>
  rw [hts24]
  rcases List.mem_cons.1 h with rfl | h
  ·omega
  ·have := ih h; omega
theorem hts29_mem {ts : List S29} {t : S29} (h : t ∈ ts) : ht29 t ≤ hts29 ts := by
 induction ts with
 | nil => simp at h
 | cons a l ih =>
  rw [hts29]
  rcases List.mem_cons.1 h with rfl | h
  ·omega
  ·have := ih h; omega
theorem wts24_mem {ts : List S24} {t : S24} (h : t ∈ ts) : wt24 t ≤ wts24 ts := by
 induction ts with
 | nil => simp at h
 | cons a l ih =>
  rw [wts24]
  rcases List.mem_cons.1 h with rfl | h
  ·omega
  ·have := ih h; omega
theorem oks24_mem {ts : List S24} {t : S24} (h : t ∈ ts) (ho : oks24 ts) : ok24 t := by
 induction ts with
 | nil => simp at h
 | cons a l ih =>
  rw [oks24] at ho
  rcases List.mem_cons.1 h with rfl | h
  ·exact ho.1
  ·exact ih h ho.2
theorem tos29_map (ts : List S24) : tos29 ts = ts.map to29 := by
 induction ts with
 | nil => rw [tos29]; rfl
 | cons a l ih => rw [tos29, ih]; rfl
theorem tos29_length (ts : List S24) : (tos29 ts).length = ts.length := by rw [tos29_map, List.length_map]
theorem hts_to (n : Nat) : (∀ t : S24, ht24 t ≤ n → ht29 (to29 t) = ht24 t) ∧ (∀ ts : List S24, hts24 ts ≤ n → hts29 (tos29 ts) = hts24 ts) := by
 induction n with
 | zero =>
  have h1 : ∀ t : S24, ht24 t ≤ 0 → ht29 (to29 t) = ht24 t := fun t h => by rw [ht24_eq] at h; omega
  refine ⟨h1, fun ts h => ?_⟩
  cases ts with
  | nil => rw [tos29, hts29, hts24]
  | cons a l => rw [hts24] at h; have := ht24_eq a; omega
 | succ n ih =>
  have h1 : ∀ t : S24, ht24 t ≤ n + 1 → ht29 (to29 t) = ht24 t := fun t h => by
   rw [ht24_eq] at h ⊢
   rw [to29_eq, ht29_eq]
   rw [ih.2 _ (by omega)]
  refine ⟨h1, fun ts => ?_⟩
  induction ts with
  | nil => intro _; rw [tos29, hts29, hts24]
  | cons a l ihl =>
   intro h
   rw [hts24] at h
   rw [tos29, hts29, hts24, h1 a (by omega), ihl (by omega)]
theorem ht_to (t : S24) : ht29 (to29 t) = ht24 t := (hts_to (ht24 t)).1 t (Nat.le_refl _)
theorem cns_wt (n : Nat) : (∀ t : S24, ht24 t ≤ n → cn29 (to29 t) ≤ wt24 t + 1) ∧ (∀ ts : List S24, hts24 ts ≤ n → cns29 (tos29 ts) ≤ wts24 ts + ts.length) := by
 induction n with
 | zero =>
  refine ⟨fun t h => by rw [ht24_eq] at h; omega, fun ts h => ?_⟩
  cases ts with
  | nil => rw [tos29, cns29]; omega
  | cons a l => rw [hts24] at h; have := ht24_eq a; omega
 | succ n ih =>
  have h1 : ∀ t : S24, ht24 t ≤ n + 1 → cn29 (to29 t) ≤ wt24 t + 1 := fun t h => by
   rw [ht24_eq] at h
   rw [to29_eq, cn29_eq, wt24_eq]
   have := ih.2 t.f3 (by omega)
   show cns29 (tos29 t.f3) + 1 ≤ _
   omega
  refine ⟨h1, fun ts => ?_⟩
  induction ts with
  | nil => intro _; rw [tos29, cns29]; omega
  | cons a l ihl =>
   intro h
   rw [hts24] at h
   rw [tos29, cns29, wts24]
   have h2 := h1 a (by omega)
   have h3 := ihl (by omega)
   simp only [List.length_cons]
   omega
theorem cn_wt (t : S24) : cn29 (to29 t) ≤ wt24 t + 1 := (cns_wt (ht24 t)).1 t (Nat.le_refl _)
theorem t_wrap {i : Int} (h0 : -4611686018427387904 ≤ i) (h1 : i ≤ 4611686018427387904) : wrap64 i = i := by
 unfold wrap64; omega
theorem rd24_at (xs : List S24) (i : Nat) (h : i < xs.length) : rd_T24 xs (i : Int) = xs[i] := by
 unfold rd_T24; simp [List.getD, h]
theorem rd29_at (xs : List S29) (i : Nat) (h : i < xs.length) : rd_T29 xs (i : Int) = xs[i] := by
 unfold rd_T29; simp [List.getD, h]
theorem eta29 (t : S29) : (⟨t.f0, t.f1, t.f2, t.f3⟩ : S29) = t := by cases t; rfl
theorem next_i (i n : Nat) (h : i < n) (hn : n ≤ 1048576) : wrap64 ((i : Int) + 1) = ((i + 1 : Nat) : Int) := by
 rw [t_wrap (by omega) (by omega)]; omega
theorem cns29_mem {ts : List S29} {t : S29} (h : t ∈ ts) : cn29 t ≤ cns29 ts := by
 induction ts with
 | nil => simp at h
 | cons a l ih =>
  rw [cns29]
  rcases List.mem_cons.1 h with rfl | h
  ·omega
  ·have := ih h; omega
theorem cns29_len (ts : List S29) : ts.length ≤ cns29 ts := by
 induction ts with
 | nil => simp
 | cons a l ih => rw [cns29]; have := cn29_eq a; simp only [List.length_cons]; omega
open Go.ChangeShapes Go.WideShapes
section
variable {H : Type} {enc : TypeId × Value → H} {w : World} {base : Nat} {spare : Nat → Bool} {held : Bool}
theorem list_of {α : Type} {Q : Nat → α → Prop} : ∀ (n : Nat), (∀ i, i < n → ∃ t, Q i t) → ∃ l : List α, l.length = n ∧ ∀ i t, l[i]? = some t → Q i t
 | 0, _ => ⟨[], rfl, fun i t h => by simp at h⟩
 | n + 1, h => by
  obtain ⟨l, hl, hq⟩ := list_of n (fun i hi => h i (by omega))
  obtain ⟨t, ht⟩ := h n (by omega)
  refine ⟨l ++ [t], by simp [hl], fun i t' hi => ?_⟩
  rcases Nat.lt_or_ge i n with h1 | h1
  ·rw [List.getElem?_append_left (by omega)] at hi; exact hq i t' hi
  ·rw [List.getElem?_append_right (by omega), hl] at hi
   have : i = n := by
    rcases Nat.eq_or_lt_of_le h1 with h2 | h2
    ·exact h2.symm
    ·rw [List.getElem?_eq_none (by simp; omega)] at hi; simp at hi
   subst this
   simp at hi; rw [← hi]; exact ht
theorem oks24_of {ts : List S24} (h : ∀ t ∈ ts, ok24 t) : oks24 ts := by
 induction ts with
 | nil => rw [oks24]; trivial
 | cons a l ih => rw [oks24]; exact ⟨h a (by simp), ih fun t ht => h t (by simp [ht])⟩
set_option maxRecDepth 100000 in
theorem open_T (fuel : Nat) : ∀ (cs : List Value) (x : DataW H × List MemPlace), DataW.trod enc Tryd.prog w base spare held fuel 24 cs = some x → ∃ t : S24, k24.K w t cs ∧ ok24 t := by
 induction fuel using Nat.strongRecOn with
 | _ fuel IH =>
  intro cs x h
  obtain ⟨xs, n, rfl, rfl, hlen, hxl, hf⟩ := DataW.trod_struct Tryd.underlying24 h
  have hC : Tryd.prog.cellsOf 24 = 4 := by kernel_rfl
  rw [hC] at hlen
  match cs, hlen, xs, hxl with
  | [c0, c1, c2, c3], _, [y0, y1, y2, y3], _ =>
   have C3 : Tryd.prog.cellsOf 3 = 1 := by kernel_rfl
   have C9 : Tryd.prog.cellsOf 9 = 1 := by kernel_rfl
   have C22 : Tryd.prog.cellsOf 22 = 1 := by kernel_rfl
   have g0 : DataW.trod enc Tryd.prog w base spare held n 3 [c0] = some y0 := by
    have g : DataW.trod enc Tryd.prog w base spare held n 3 (([c0, c1, c2, c3].drop 0).take (Tryd.prog.cellsOf 3)) = some y0 := hf 0 _ rfl
    rw [C3] at g
    exact g
   have g1 : DataW.trod enc Tryd.prog w base spare held n 9 [c1] = some y1 := by
    have g : DataW.trod enc Tryd.prog w base spare held n 9 (([c0, c1, c2, c3].drop 1).take (Tryd.prog.cellsOf 9)) = some y1 := hf 1 _ rfl
    rw [C9] at g
    exact g
   have g2 : DataW.trod enc Tryd.prog w base spare held n 3 [c2] = some y2 := by
    have g : DataW.trod enc Tryd.prog w base spare held n 3 (([c0, c1, c2, c3].drop 2).take (Tryd.prog.cellsOf 3)) = some y2 := hf 2 _ rfl
    rw [C3] at g
    exact g
   have g3 : DataW.trod enc Tryd.prog w base spare held n 22 [c3] = some y3 := by
    have g : DataW.trod enc Tryd.prog w base spare held n 22 (([c0, c1, c2, c3].drop 3).take (Tryd.prog.cellsOf 22)) = some y3 := hf 3 _ rfl
    rw [C22] at g
    exact g
   obtain ⟨a, ha, _, _⟩ := DataW.trod_int Tryd.underlying3 g0
   obtain ⟨nm, hn, _, hsz⟩ := DataW.trod_string Tryd.underlying9 g1
   obtain ⟨b, hb, _, _⟩ := DataW.trod_int Tryd.underlying3 g2
   simp only [List.cons.injEq, and_true] at ha hn hb
   subst ha hn hb
   have hm : maxLen = 9223372036854775807 := by decide +kernel
   rcases DataW.trod_slice Tryd.underlying22 g3 with ⟨h3, _⟩ | ⟨ad, len, cap, elems, rest, m, hm1, h3, _, _, hl, hcap, hel, hrd, _, _⟩
   ·simp only [List.cons.injEq, and_true] at h3
    subst h3
    refine ⟨⟨a, nm, b, []⟩, k24_mk w ⟨a, nm, b, []⟩ (A3 := none) (c3 := 0) (Nat.le_refl _) ⟨rfl, by simp, fun h => by simp at h⟩, ?_⟩
    rw [ok24]; exact ⟨by omega, by simp, by rw [oks24]; trivial⟩
   ·simp only [List.cons.injEq, and_true] at h3
    subst h3
    have hall : ∀ i, i < len → ∃ t : S24, ok24 t ∧ ∃ c : List Value, c.length = 4 ∧ k24.K w t c ∧ ∀ j u, c[j]? = some u → w.cell? (ad.add (i * 4 + j)) = some u := by
     intro i hi
     have h4 := hrd i hi
     rw [hC, List.getElem?_eq_getElem (by omega)] at h4
     obtain ⟨c, hc, ht⟩ := Option.bind_eq_some_iff.1 h4
     obtain ⟨t, hK, hok⟩ := IH m (by omega) c _ ht
     obtain ⟨_, hcl, hat⟩ := World.cells?_some hc
     refine ⟨t, hok, c, hcl, hK, fun j u hj => ?_⟩
     have hj4 : j < 4 := by
      rcases Nat.lt_or_ge j 4 with h | h
      ·exact h
      ·rw [List.getElem?_eq_none (by omega)] at hj; simp at hj
     rw [← hj, ← hat j hj4, Go.Deep.add_add]
    obtain ⟨l, hll, hq⟩ := list_of len hall
    have hoks : oks24 l := oks24_of fun t ht => by
     obtain ⟨i, hi, rfl⟩ := List.getElem_of_mem ht
     exact (hq i _ (List.getElem?_eq_getElem hi)).1
    have hlc : l.length ≤ cap := by omega
    have hk := k24_mk w ⟨a, nm, b, l⟩ (A3 := some ad) (c3 := cap) hlc ⟨rfl, by show l.length ≤ _; omega, fun _ => ⟨ad, rfl, fun j p hj => by
     obtain ⟨_, c, h1, h2, h3⟩ := hq j p hj
     exact ⟨c, h1, h2, h3⟩⟩⟩
    refine ⟨⟨a, nm, b, l⟩, ?_, ?_⟩
    ·have : (⟨a, nm, b, l⟩ : S24).f3.length = len := hll
     rw [this] at hk; exact hk
    ·rw [ok24]; exact ⟨by omega, by omega, hoks⟩
end
section
variable {H : Type} {enc : TypeId × Value → H} {w : World} {base : Nat} {spare : Nat → Bool} {held : Bool}
set_option maxRecDepth 100000 in
theorem open_C (fuel : Nat) (cs : List Value) (x : DataW H × List MemPlace) (h : DataW.trod enc Tryd.prog w base spare held fuel 60 cs = some x) :
  ∃ (h b : S24) (s : ByteArray) (A : Option Addr) (c : Nat) (B : Option Addr) (d : Nat), cs = [.int .i64 h.f0, .string h.f1, .int .i64 h.f2, .slice A h.f3.length c, .int .i64 b.f0, .string b.f1, .int .i64 b.f2, .slice B b.f3.length d, .string s] ∧
   h.f3.length ≤ c ∧ Kd.C k24 w A h.f3.length h.f3 ∧ b.f3.length ≤ d ∧ Kd.C k24 w B b.f3.length b.f3 ∧ ok24 h ∧ ok24 b ∧ s.size ≤ 9223372036854775807 := by
 obtain ⟨xs, n, rfl, rfl, hlen, hxl, hf⟩ := DataW.trod_struct Tryd.underlying60 h
 have hC : Tryd.prog.cellsOf 60 = 9 := by kernel_rfl
 rw [hC] at hlen
 match cs, hlen, xs, hxl with
 | [c0, c1, c2, c3, c4, c5, c6, c7, c8], _, [y0, y1, y2], _ =>
  have C24 : Tryd.prog.cellsOf 24 = 4 := by kernel_rfl
  have C9 : Tryd.prog.cellsOf 9 = 1 := by kernel_rfl
  have g0 : DataW.trod enc Tryd.prog w base spare held n 24 [c0, c1, c2, c3] = some y0 := by
   have g : DataW.trod enc Tryd.prog w base spare held n 24 (([c0, c1, c2, c3, c4, c5, c6, c7, c8].drop 0).take (Tryd.prog.cellsOf 24)) = some y0 := hf 0 _ rfl
   rw [C24] at g
   exact g
  have g1 : DataW.trod enc Tryd.prog w base spare held n 24 [c4, c5, c6, c7] = some y1 := by
   have g : DataW.trod enc Tryd.prog w base spare held n 24 (([c0, c1, c2, c3, c4, c5, c6, c7, c8].drop 4).take (Tryd.prog.cellsOf 24)) = some y1 := hf 1 _ rfl
   rw [C24] at g
   exact g
  have g2 : DataW.trod enc Tryd.prog w base spare held n 9 [c8] = some y2 := by
   have g : DataW.trod enc Tryd.prog w base spare held n 9 (([c0, c1, c2, c3, c4, c5, c6, c7, c8].drop 8).take (Tryd.prog.cellsOf 9)) = some y2 := hf 2 _ rfl
   rw [C9] at g
   exact g
  obtain ⟨t, hK, ho⟩ := open_T n _ _ g0
  obtain ⟨u, hK2, ho2⟩ := open_T n _ _ g1
  obtain ⟨s, hs, _, hsz⟩ := DataW.trod_string Tryd.underlying9 g2
  obtain ⟨A, c, e1, hl, hCt⟩ := k24_open hK
  obtain ⟨B, d, e2, hm, hCu⟩ := k24_open hK2
  simp only [List.cons.injEq, and_true] at e1 e2 hs
  obtain ⟨rfl, rfl, rfl, rfl⟩ := e1
  obtain ⟨rfl, rfl, rfl, rfl⟩ := e2
  subst hs
  have hm9 : maxLen = 9223372036854775807 := by decide +kernel
  exact ⟨t, u, s, A, c, B, d, rfl, hl, hCt, hm, hCu, ho, ho2, by omega⟩
end
def ok60 (x : S60) : Prop := ok24 x.f0 ∧ ok24 x.f1 ∧ x.f2.size ≤ 9223372036854775807
section
variable {H : Type} {enc : TypeId × Value → H} {w : World} {base : Nat} {spare : Nat → Bool} {held : Bool}
set_option maxRecDepth 100000 in
theorem open_rowC (n : Nat) (c3 : Value) (y : DataW H × List MemPlace) (g3 : DataW.trod enc Tryd.prog w base spare held n 33 [c3] = some y) :
  ∃ (l : List S60) (A : Option Addr) (c : Nat), c3 = .slice A l.length c ∧ l.length ≤ c ∧ Kd.C k60 w A l.length l ∧ l.length ≤ 9223372036854775807 ∧ ∀ x ∈ l, ok60 x := by
 have hm : maxLen = 9223372036854775807 := by decide +kernel
 have hC : Tryd.prog.cellsOf 60 = 9 := by kernel_rfl
 rcases DataW.trod_slice Tryd.underlying33 g3 with ⟨h3, _⟩ | ⟨ad, len, cap, elems, rest, m, hm1, h3, _, _, hl, hcap, hel, hrd, _, _⟩
 ·simp only [List.cons.injEq, and_true] at h3
  subst h3
  exact ⟨[], none, 0, rfl, Nat.le_refl _, ⟨rfl, by simp, fun h => by simp at h⟩, by simp, fun x hx => by simp at hx⟩
 ·simp only [List.cons.injEq, and_true] at h3
  subst h3
  have hall : ∀ i, i < len → ∃ t : S60, ok60 t ∧ ∃ c : List Value, c.length = 9 ∧ k60.K w t c ∧ ∀ j u, c[j]? = some u → w.cell? (ad.add (i * 9 + j)) = some u := by
   intro i hi
   have h4 := hrd i hi
   rw [hC, List.getElem?_eq_getElem (by omega)] at h4
   obtain ⟨c, hc, ht⟩ := Option.bind_eq_some_iff.1 h4
   obtain ⟨h, b, s, A, ca, B, d, e, hla, hCa, hlb, hCb, oh, ob, os⟩ := open_C m c _ ht
   obtain ⟨_, hcl, hat⟩ := World.cells?_some hc
   refine ⟨⟨h, b, s⟩, ⟨oh, ob, os⟩, c, hcl, by rw [e]; exact k60_mk w ⟨h, b, s⟩ hla hCa hlb hCb, fun j u hj => ?_⟩
   have hj4 : j < 9 := by
    rcases Nat.lt_or_ge j 9 with h | h
    ·exact h
    ·rw [List.getElem?_eq_none (by omega)] at hj; simp at hj
   rw [← hj, ← hat j hj4, Go.Deep.add_add]
  obtain ⟨l, hll, hq⟩ := list_of len hall
  have hoks : ∀ x ∈ l, ok60 x := fun t ht => by
   obtain ⟨i, hi, rfl⟩ := List.getElem_of_mem ht
   exact (hq i _ (List.getElem?_eq_getElem hi)).1
  subst hll
  exact ⟨l, some ad, cap, rfl, hl, ⟨rfl, by omega, fun _ => ⟨ad, rfl, fun j p hj => by
   obtain ⟨_, c, h1, h2, h3⟩ := hq j p hj
   exact ⟨c, h1, h2, h3⟩⟩⟩, by omega, hoks⟩
set_option maxRecDepth 100000 in
theorem open_rowS (n : Nat) (c3 : Value) (y : DataW H × List MemPlace) (g3 : DataW.trod enc Tryd.prog w base spare held n 34 [c3] = some y) :
  ∃ (l : List ByteArray) (A : Option Addr) (c : Nat), c3 = .slice A l.length c ∧ l.length ≤ c ∧ Kd.C Kd.string w A l.length l ∧ l.length ≤ 9223372036854775807 ∧ ∀ x ∈ l, x.size ≤ 9223372036854775807 := by
 have hm : maxLen = 9223372036854775807 := by decide +kernel
 have hC : Tryd.prog.cellsOf 9 = 1 := by kernel_rfl
 rcases DataW.trod_slice Tryd.underlying34 g3 with ⟨h3, _⟩ | ⟨ad, len, cap, elems, rest, m, hm1, h3, _, _, hl, hcap, hel, hrd, _, _⟩
 ·simp only [List.cons.injEq, and_true] at h3
  subst h3
  exact ⟨[], none, 0, rfl, Nat.le_refl _, ⟨rfl, by simp, fun h => by simp at h⟩, by simp, fun x hx => by simp at hx⟩
 ·simp only [List.cons.injEq, and_true] at h3
  subst h3
  have hall : ∀ i, i < len → ∃ t : ByteArray, t.size ≤ 9223372036854775807 ∧ ∃ c : List Value, c.length = 1 ∧ Kd.string.K w t c ∧ ∀ j u, c[j]? = some u → w.cell? (ad.add (i * 1 + j)) = some u := by
   intro i hi
   have h4 := hrd i hi
   rw [hC, List.getElem?_eq_getElem (by omega)] at h4
   obtain ⟨c, hc, ht⟩ := Option.bind_eq_some_iff.1 h4
   obtain ⟨s, e, _, os⟩ := DataW.trod_string Tryd.underlying9 ht
   obtain ⟨_, hcl, hat⟩ := World.cells?_some hc
   refine ⟨s, by omega, c, hcl, e, fun j u hj => ?_⟩
   have hj4 : j < 1 := by
    rcases Nat.lt_or_ge j 1 with h | h
    ·exact h
    ·rw [List.getElem?_eq_none (by omega)] at hj; simp at hj
   rw [← hj, ← hat j hj4, Go.Deep.add_add]
  obtain ⟨l, hll, hq⟩ := list_of len hall
  have hoks : ∀ x ∈ l, x.size ≤ 9223372036854775807 := fun t ht => by
   obtain ⟨i, hi, rfl⟩ := List.getElem_of_mem ht
   exact (hq i _ (List.getElem?_eq_getElem hi)).1
  subst hll
  exact ⟨l, some ad, cap, rfl, hl, ⟨rfl, by omega, fun _ => ⟨ad, rfl, fun j p hj => by
   obtain ⟨_, c, h1, h2, h3⟩ := hq j p hj
   exact ⟨c, h1, h2, h3⟩⟩⟩, by omega, hoks⟩
set_option maxRecDepth 100000 in
theorem open_D (fuel : Nat) (cs : List Value) (x : DataW H × List MemPlace) (h : DataW.trod enc Tryd.prog w base spare held fuel 36 cs = some x) :
  ∃ (l : List S60) (o : List ByteArray) (A : Option Addr) (c : Nat) (B : Option Addr) (d : Nat), cs = [.slice A l.length c, .slice B o.length d] ∧ l.length ≤ c ∧ Kd.C k60 w A l.length l ∧ o.length ≤ d ∧ Kd.C Kd.string w B o.length o ∧ (∀ x ∈ l, ok60 x) ∧ l.length ≤ 9223372036854775807 ∧ o.length ≤ 9223372036854775807 ∧ ∀ x ∈ o, x.size ≤ 9223372036854775807 := by
 obtain ⟨xs, n, rfl, rfl, hlen, hxl, hf⟩ := DataW.trod_struct Tryd.underlying36 h
 have hC : Tryd.prog.cellsOf 36 = 2 := by kernel_rfl
 rw [hC] at hlen
 match cs, hlen, xs, hxl with
 | [c0, c1], _, [y0, y1], _ =>
  have C22 : Tryd.prog.cellsOf 33 = 1 := by kernel_rfl
  have C23 : Tryd.prog.cellsOf 34 = 1 := by kernel_rfl
  have g0 : DataW.trod enc Tryd.prog w base spare held n 33 [c0] = some y0 := by
   have g : DataW.trod enc Tryd.prog w base spare held n 33 (([c0, c1].drop 0).take (Tryd.prog.cellsOf 33)) = some y0 := hf 0 _ rfl
   rw [C22] at g
   exact g
  have g1 : DataW.trod enc Tryd.prog w base spare held n 34 [c1] = some y1 := by
   have g : DataW.trod enc Tryd.prog w base spare held n 34 (([c0, c1].drop 1).take (Tryd.prog.cellsOf 34)) = some y1 := hf 1 _ rfl
   rw [C23] at g
   exact g
  obtain ⟨l, A, c, rfl, hl, hCr, hm, ho⟩ := open_rowC n c0 y0 g0
  obtain ⟨o, B, d, rfl, hl2, hCr2, hm2, ho2⟩ := open_rowS n c1 y1 g1
  exact ⟨l, o, A, c, B, d, rfl, hl, hCr, hl2, hCr2, ho, hm, hm2, ho2⟩
end
def szr (w : Nat) (left : Int) : Int := if (w : Int) ≤ left then left - w else -1
theorem szS_ev (n : Nat) (xs : List S24) (hlen : xs.length ≤ 1048576)
  (IH : ∀ x ∈ xs, ∀ left : Int, 0 ≤ left → left ≤ 1048576 → Ev (fun k => (i_sz n).f k x.f0 x.f1 x.f2 x.f3 left) (szr (wt24 x) left)) (d : Nat) :
  ∀ (i : Nat) (left : Int), i ≤ xs.length → xs.length - i = d → 0 ≤ left → left ≤ 1048576 →
  Ev (fun k => @laws_szTermS.l0 (i_sz n) k xs left i) (szr (wts24 (xs.drop i)) left) := by
 induction d with
 | zero =>
  intro i left hi hd h0 h1
  refine Ev.step (f := fun _ => some left) (fun k => ?_) ?_
  ·simp only [laws_szTermS.l0]; rw [if_neg (by omega)]
  ·rw [List.drop_eq_nil_of_le (by omega), wts24]
   unfold szr; rw [if_pos (by simpa using h0)]
   simpa using Ev.now left
 | succ d ih =>
  intro i left hi hd h0 h1
  have hlt : i < xs.length := by omega
  refine Ev.step (f := fun k => ((i_sz n).f k xs[i].f0 xs[i].f1 xs[i].f2 xs[i].f3 left).bind fun t => if t < 0 then some (-1) else @laws_szTermS.l0 (i_sz n) k xs t ((i + 1 : Nat) : Int)) (fun k => ?_) ?_
  ·simp only [laws_szTermS.l0]
   rw [if_pos (by omega), if_pos (by omega), rd24_at xs i hlt, next_i i _ hlt hlen]
  ·refine Ev.bind (f := fun k t => if t < 0 then some (-1) else @laws_szTermS.l0 (i_sz n) k xs t ((i + 1 : Nat) : Int)) (IH xs[i] (List.getElem_mem hlt) left h0 h1) ?_
   rw [List.drop_eq_getElem_cons hlt, wts24]
   unfold szr
   by_cases hc : (wt24 xs[i] : Int) ≤ left
   ·rw [if_pos hc]
    have h2 := ih (i + 1) (left - wt24 xs[i]) (by omega) (by omega) (by omega) (by omega)
    unfold szr at h2
    have e : (if ((wt24 xs[i] + wts24 (xs.drop (i + 1)) : Nat) : Int) ≤ left then left - ((wt24 xs[i] + wts24 (xs.drop (i + 1)) : Nat) : Int) else -1) = (if (wts24 (xs.drop (i + 1)) : Int) ≤ left - wt24 xs[i] then left - wt24 xs[i] - (wts24 (xs.drop (i + 1)) : Int) else -1) := by
     by_cases h3 : (wts24 (xs.drop (i + 1)) : Int) ≤ left - wt24 xs[i]
     ·rw [if_pos h3, if_pos (by omega)]; omega
     ·rw [if_neg h3, if_neg (by omega)]
    rw [e]
    exact Ev.congr (fun k => if_neg (by omega)) h2
   ·rw [if_neg hc, if_neg (by omega)]
    exact Ev.congr (fun k => if_pos (by omega)) (Ev.now (-1))
theorem sz_ev (n : Nat) : ∀ (t : S24), ok24 t → ht24 t ≤ n → ∀ left : Int, 0 ≤ left → left ≤ 1048576 → Ev (fun k => (i_sz n).f k t.f0 t.f1 t.f2 t.f3 left) (szr (wt24 t) left) := by
 induction n with
 | zero => intro t _ h; rw [ht24_eq] at h; omega
 | succ n ih =>
  intro t ho h left h0 h1
  rw [ht24_eq] at h
  obtain ⟨o1, o2, o3⟩ := (ok24_eq t).1 ho
  show Ev (fun k => @laws_szTerm.f (i_sz n) k t.f0 t.f1 t.f2 t.f3 left) _
  unfold laws_szTerm.f
  have e1 : wrap64 (left - (t.f1.size : Int)) = left - t.f1.size := by unfold wrap64; omega
  rw [e1, wt24_eq]
  by_cases c1 : left - (t.f1.size : Int) < 0
  ·refine Ev.congr (fun k => if_pos c1) ?_
   unfold szr; rw [if_neg (by omega)]; exact Ev.now _
  refine Ev.congr (fun k => if_neg c1) ?_
  have hS : Ev (fun k => @laws_szTermS.f (i_sz n) k t.f3 (left - (t.f1.size : Int))) (szr (t.f3.length + wts24 t.f3) (left - (t.f1.size : Int))) := by
   unfold laws_szTermS.f
   have e2 : wrap64 (left - (t.f1.size : Int) - (t.f3.length : Int)) = left - t.f1.size - t.f3.length := by unfold wrap64; omega
   rw [e2]
   by_cases c2 : left - (t.f1.size : Int) - (t.f3.length : Int) < 0
   ·refine Ev.congr (fun k => if_pos c2) ?_
    unfold szr; rw [if_neg (by omega)]; exact Ev.now _
   ·refine Ev.congr (fun k => if_neg c2) ?_
    have := szS_ev n t.f3 (by omega) (fun x hx left h0 h1 => ih x (oks24_mem hx o3) (by have := hts24_mem hx; omega) left h0 h1) t.f3.length 0 (left - t.f1.size - t.f3.length) (by omega) (by omega) (by omega) (by omega)
    rw [List.drop_zero] at this
    have e : szr (t.f3.length + wts24 t.f3) (left - (t.f1.size : Int)) = szr (wts24 t.f3) (left - t.f1.size - t.f3.length) := by
     unfold szr
     by_cases h3 : (wts24 t.f3 : Int) ≤ left - t.f1.size - t.f3.length
     ·rw [if_pos h3, if_pos (by omega)]; omega
     ·rw [if_neg h3, if_neg (by omega)]
    rw [e]; exact this
  refine Ev.bind (f := fun _ t => if t < 0 then some (-1) else some t) hS ?_
  have e : szr (t.f1.size + (t.f3.length + wts24 t.f3)) left = szr (t.f3.length + wts24 t.f3) (left - (t.f1.size : Int)) := by
   unfold szr
   by_cases h3 : ((t.f3.length + wts24 t.f3 : Nat) : Int) ≤ left - t.f1.size
   ·rw [if_pos h3, if_pos (by omega)]; omega
   ·rw [if_neg h3, if_neg (by omega)]
  rw [e]
  by_cases c3 : szr (t.f3.length + wts24 t.f3) (left - (t.f1.size : Int)) < 0
  ·have : szr (t.f3.length + wts24 t.f3) (left - (t.f1.size : Int)) = -1 := by
    unfold szr at c3 ⊢; split at c3 <;> rename_i h
    ·omega
    ·rw [if_neg h]
   rw [this]; exact Ev.now _
  ·exact Ev.congr (fun k => if_neg c3) (Ev.now _)
theorem toS_ev (n : Nat) (xs : List S24) (hlen : xs.length ≤ 1048576)
  (IH : ∀ x ∈ xs, Ev (fun k => (i_to n).f k x.f0 x.f1 x.f2 x.f3) ((to29 x).f0, (to29 x).f1, (to29 x).f2, (to29 x).f3)) (d : Nat) :
  ∀ (i : Nat) (ys : List S29), i ≤ xs.length → xs.length - i = d → ys.length = xs.length →
  Ev (fun k => @laws_toTermS.l0 (i_to n) k xs ys i) (ys.take i ++ (xs.drop i).map to29) := by
 induction d with
 | zero =>
  intro i ys hi hd hy
  refine Ev.step (f := fun _ => some ys) (fun k => ?_) ?_
  ·simp only [laws_toTermS.l0]; rw [if_neg (by omega)]
  ·rw [List.drop_eq_nil_of_le (by omega), List.take_of_length_le (by omega)]
   simpa using Ev.now ys
 | succ d ih =>
  intro i ys hi hd hy
  have hlt : i < xs.length := by omega
  refine Ev.step (f := fun k => ((i_to n).f k xs[i].f0 xs[i].f1 xs[i].f2 xs[i].f3).bind fun b => @laws_toTermS.l0 (i_to n) k xs (ys.set i ⟨b.1, b.2.1, b.2.2.1, b.2.2.2⟩) ((i + 1 : Nat) : Int)) (fun k => ?_) ?_
  ·simp only [laws_toTermS.l0]
   rw [if_pos (by omega), if_pos (by omega), rd24_at xs i hlt, next_i i _ hlt hlen]
   have : (i : Int) < (ys.length : Int) := by omega
   simp only [if_pos this, Int.toNat_natCast]
  ·refine Ev.bind (f := fun k b => @laws_toTermS.l0 (i_to n) k xs (ys.set i ⟨b.1, b.2.1, b.2.2.1, b.2.2.2⟩) ((i + 1 : Nat) : Int)) (IH xs[i] (List.getElem_mem hlt)) ?_
   have h2 := ih (i + 1) (ys.set i (to29 xs[i])) (by omega) (by omega) (by rw [List.length_set]; exact hy)
   have e : ys.take i ++ (xs.drop i).map to29 = (ys.set i (to29 xs[i])).take (i + 1) ++ (xs.drop (i + 1)).map to29 := by
    have hl : i < (ys.set i (to29 xs[i])).length := by rw [List.length_set]; omega
    rw [List.drop_eq_getElem_cons hlt, List.map_cons, List.take_succ_eq_append_getElem hl, List.getElem_set_self, List.take_set_of_le (Nat.le_refl i)]
    simp
   rw [e]
   show Ev (fun k => @laws_toTermS.l0 (i_to n) k xs (ys.set i ⟨(to29 xs[i]).f0, (to29 xs[i]).f1, (to29 xs[i]).f2, (to29 xs[i]).f3⟩) ((i + 1 : Nat) : Int)) _
   rw [eta29]; exact h2
theorem to_ev (n : Nat) : ∀ (t : S24), ht24 t ≤ n → wt24 t ≤ 1048576 → Ev (fun k => (i_to n).f k t.f0 t.f1 t.f2 t.f3) ((to29 t).f0, (to29 t).f1, (to29 t).f2, (to29 t).f3) := by
 induction n with
 | zero => intro t h; rw [ht24_eq] at h; omega
 | succ n ih =>
  intro t h hw
  rw [ht24_eq] at h
  rw [wt24_eq] at hw
  show Ev (fun k => @laws_toTerm.f (i_to n) k t.f0 t.f1 t.f2 t.f3) _
  rw [to29_eq]
  unfold laws_toTerm.f
  refine Ev.bind (f := fun _ t119 => some (t.f0, t.f1, t.f2, t119)) (a := tos29 t.f3) ?_ (Ev.now _)
  unfold laws_toTermS.f
  refine Ev.congr (fun k => by rw [if_pos (by omega), if_pos (by omega)]) ?_
  have := toS_ev n t.f3 (by omega) (fun x hx => ih x (by have := hts24_mem hx; omega) (by have := wts24_mem hx; omega)) t.f3.length 0 (List.replicate t.f3.length z29) (by omega) (by omega) (by simp)
  rw [List.take_zero, List.drop_zero, List.nil_append, ← tos29_map] at this
  exact this
theorem eqS_ev (n : Nat) (xs : List S29) (hlen : xs.length ≤ 1048576)
  (IH : ∀ x ∈ xs, Ev (fun k => (i_eq n).f k x.f0 x.f1 x.f2 x.f3 x.f0 x.f1 x.f2 x.f3) true) (d : Nat) :
  ∀ (i : Nat), i ≤ xs.length → xs.length - i = d → Ev (fun k => @laws_eqTermS.l0 (i_eq n) k xs xs i) true := by
 induction d with
 | zero =>
  intro i hi hd
  refine Ev.step (f := fun _ => some true) (fun k => ?_) (Ev.now _)
  simp only [laws_eqTermS.l0]; rw [if_neg (by omega)]
 | succ d ih =>
  intro i hi hd
  have hlt : i < xs.length := by omega
  refine Ev.step (f := fun k => ((i_eq n).f k xs[i].f0 xs[i].f1 xs[i].f2 xs[i].f3 xs[i].f0 xs[i].f1 xs[i].f2 xs[i].f3).bind fun b => if b = true then @laws_eqTermS.l0 (i_eq n) k xs xs ((i + 1 : Nat) : Int) else some false) (fun k => ?_) ?_
  ·simp only [laws_eqTermS.l0]
   rw [if_pos (by omega), if_pos (by omega), if_pos (by omega), rd29_at xs i hlt, next_i i _ hlt hlen]
  ·refine Ev.bind (f := fun k b => if b = true then @laws_eqTermS.l0 (i_eq n) k xs xs ((i + 1 : Nat) : Int) else some false) (IH xs[i] (List.getElem_mem hlt)) ?_
   exact Ev.congr (fun k => if_pos rfl) (ih (i + 1) (by omega) (by omega))
theorem eq_ev (n : Nat) : ∀ (t : S29), ht29 t ≤ n → cn29 t ≤ 1048577 → Ev (fun k => (i_eq n).f k t.f0 t.f1 t.f2 t.f3 t.f0 t.f1 t.f2 t.f3) true := by
 induction n with
 | zero => intro t h; rw [ht29_eq] at h; omega
 | succ n ih =>
  intro t h hc
  rw [ht29_eq] at h
  rw [cn29_eq] at hc
  have hcm : ∀ (ts : List S29), (∀ x ∈ ts, cn29 x ≤ cns29 ts) ∧ ts.length ≤ cns29 ts := by
   intro ts
   induction ts with
   | nil => exact ⟨fun x hx => by simp at hx, by simp⟩
   | cons a l ihl =>
    rw [cns29]
    have := cn29_eq a
    refine ⟨fun x hx => ?_, by simp only [List.length_cons]; have := ihl.2; omega⟩
    rcases List.mem_cons.1 hx with rfl | hx
    ·omega
    ·have := ihl.1 x hx; omega
  show Ev (fun k => @laws_eqTerm.f (i_eq n) k t.f0 t.f1 t.f2 t.f3 t.f0 t.f1 t.f2 t.f3) _
  unfold laws_eqTerm.f
  refine Ev.congr (fun k => by rw [if_pos rfl, if_pos rfl, if_pos rfl]) ?_
  refine Ev.bind (f := fun _ b => if b = true then some true else some false) (a := true) ?_ (Ev.now _)
  unfold laws_eqTermS.f
  refine Ev.congr (fun k => if_pos rfl) ?_
  exact eqS_ev n t.f3 (by have := (hcm t.f3).2; omega) (fun x hx => ih x (by have := hts29_mem hx; omega) (by have := (hcm t.f3).1 x hx; omega)) t.f3.length 0 (by omega) (by omega)
theorem Ev.pos {α : Type} {c : Prop} [Decidable c] {g f : Nat → Option α} {r : α} (h : c) (k : Ev g r) : Ev (fun n => if c then g n else f n) r := Ev.congr (fun _ => if_pos h) k
theorem Ev.neg {α : Type} {c : Prop} [Decidable c] {g f : Nat → Option α} {r : α} (h : ¬c) (k : Ev f r) : Ev (fun n => if c then g n else f n) r := Ev.congr (fun _ => if_neg h) k
def dg0 (u : Nat) : List UInt8 := if u = 0 then [] else Lib.decDigits u
theorem dg0_step (u : Nat) (h : 0 < u) : dg0 u = dg0 (u / 10) ++ [UInt8.ofNat (48 + u % 10)] := by
 unfold dg0
 rw [if_neg (by omega), Lib.decDigits]
 by_cases h10 : u < 10
 ·rw [dif_pos h10, if_pos (by omega), show u % 10 = u by omega]; rfl
 ·rw [dif_neg h10, if_neg (by omega)]
theorem push_fig (d : Nat) (hd : d < 10) (L : List UInt8) : strOfNums [((48 + d : Nat) : Int)] ++ (⟨L.toArray⟩ : ByteArray) = ⟨(UInt8.ofNat (48 + d) :: L).toArray⟩ := by
 apply ByteArray.ext
 rw [ByteArray.data_append]
 apply Array.toList_inj.1
 rw [Array.toList_append]
 have : d = 0 ∨ d = 1 ∨ d = 2 ∨ d = 3 ∨ d = 4 ∨ d = 5 ∨ d = 6 ∨ d = 7 ∨ d = 8 ∨ d = 9 := by omega
 rcases this with rfl | rfl | rfl | rfl | rfl | rfl | rfl | rfl | rfl | rfl <;> rfl
theorem fig_ok (d : Nat) (hd : d < 10) : spec_l01Figure.f (d : Int) = some ((48 + d : Nat) : Int) := by
 unfold spec_l01Figure.f
 rw [if_pos (by omega)]
 congr 1
 unfold wrap64
 omega
theorem dec_loop (b : Bool) (m : Nat) : ∀ (n : Int) (L : List UInt8), -9223372036854775808 ≤ n → n ≤ 9223372036854775807 → n.natAbs < 10 ^ m → L.length + m ≤ 100 →
  Ev (fun k => spec_Decimal.l0 k n b ⟨L.toArray⟩) (⟨((if b then [45] else []) ++ (dg0 n.natAbs ++ L)).toArray⟩ : ByteArray) := by
 induction m with
 | zero =>
  intro n L h0 h1 hm hl
  have hn : n = 0 := by omega
  subst hn
  cases b with
  | false =>
   refine Ev.step (f := fun _ => some (⟨L.toArray⟩ : ByteArray)) (fun k => ?_) (Ev.now _)
   simp only [spec_Decimal.l0, if_true, Bool.false_eq_true, if_false]
  | true =>
   refine Ev.step (f := fun _ => some ((⟨#[45]⟩ : ByteArray) ++ (⟨L.toArray⟩ : ByteArray))) (fun k => ?_) ?_
   ·simp only [spec_Decimal.l0, if_true]
    rw [if_pos (by show 1 + L.toArray.size ≤ _; rw [List.size_toArray]; omega)]
   ·rw [show ((⟨#[45]⟩ : ByteArray) ++ (⟨L.toArray⟩ : ByteArray)) = (⟨((if true then [45] else []) ++ (dg0 (0 : Int).natAbs ++ L)).toArray⟩ : ByteArray) by
     apply ByteArray.ext; rw [ByteArray.data_append]; apply Array.toList_inj.1; rw [Array.toList_append]; rfl]
    exact Ev.now _
 | succ m ih =>
  intro n L h0 h1 hm hl
  by_cases hn : n = 0
  ·subst hn
   cases b with
   | false =>
    refine Ev.step (f := fun _ => some (⟨L.toArray⟩ : ByteArray)) (fun k => ?_) (Ev.now _)
    simp only [spec_Decimal.l0, if_true, Bool.false_eq_true, if_false]
   | true =>
    refine Ev.step (f := fun _ => some ((⟨#[45]⟩ : ByteArray) ++ (⟨L.toArray⟩ : ByteArray))) (fun k => ?_) ?_
    ·simp only [spec_Decimal.l0, if_true]
     rw [if_pos (by show 1 + L.toArray.size ≤ _; rw [List.size_toArray]; omega)]
    ·rw [show ((⟨#[45]⟩ : ByteArray) ++ (⟨L.toArray⟩ : ByteArray)) = (⟨((if true then [45] else []) ++ (dg0 (0 : Int).natAbs ++ L)).toArray⟩ : ByteArray) by
      apply ByteArray.ext; rw [ByteArray.data_append]; apply Array.toList_inj.1; rw [Array.toList_append]; rfl]
     exact Ev.now _
  ·have hqa : (Int.tdiv n 10).natAbs = n.natAbs / 10 := Int.natAbs_tdiv n 10
   have hma : (Int.tmod n 10).natAbs = n.natAbs % 10 := Int.natAbs_tmod n 10
   have hqb : -1000000000000000000 ≤ Int.tdiv n 10 ∧ Int.tdiv n 10 ≤ 1000000000000000000 := by
    generalize Int.tdiv n 10 = q at hqa
    omega
   have hq : wrap64 (Int.tdiv n 10) = Int.tdiv n 10 := by
    generalize Int.tdiv n 10 = q at hqb
    unfold wrap64; omega
   have hlt : n.natAbs / 10 < 10 ^ m := by rw [Nat.pow_succ] at hm; omega
   have hd : n.natAbs % 10 < 10 := Nat.mod_lt _ (by omega)
   have hres : dg0 n.natAbs ++ L = dg0 (Int.tdiv n 10).natAbs ++ (UInt8.ofNat (48 + n.natAbs % 10) :: L) := by
    rw [hqa, dg0_step n.natAbs (by omega), List.append_assoc]; rfl
   have hnext := ih (Int.tdiv n 10) (UInt8.ofNat (48 + n.natAbs % 10) :: L) (by have := hqb.1; omega) (by have := hqb.2; omega) (by rw [hqa]; exact hlt) (by rw [List.length_cons]; omega)
   rw [hres]
   refine Ev.step (fun k => ?_) hnext
   have hsz : (strOfNums [((48 + n.natAbs % 10 : Nat) : Int)]).size + (⟨L.toArray⟩ : ByteArray).size ≤ 9223372036854775807 := by
    show 1 + L.toArray.size ≤ _
    rw [List.size_toArray]; omega
   by_cases hneg : Int.tmod n 10 < 0
   ·have e1 : wrap64 (-(Int.tmod n 10)) = ((n.natAbs % 10 : Nat) : Int) := by
     generalize Int.tmod n 10 = q at hma hneg
     unfold wrap64; omega
    simp only [spec_Decimal.l0, Option.bind_some]
    rw [if_neg hn, if_pos hneg, e1, fig_ok _ hd, Option.bind_some, if_pos hsz, push_fig _ hd, hq]
   ·have e1 : Int.tmod n 10 = ((n.natAbs % 10 : Nat) : Int) := by
     generalize Int.tmod n 10 = q at hma hneg
     omega
    simp only [spec_Decimal.l0, Option.bind_some]
    rw [if_neg hn, if_neg hneg, e1, fig_ok _ hd, Option.bind_some, if_pos hsz, push_fig _ hd, hq]
theorem dec_ev (n : Int) (h0 : -9223372036854775808 ≤ n) (h1 : n ≤ 9223372036854775807) : Ev (fun k => spec_Decimal.f k n) (⟨(Lib.itoa n).toArray⟩ : ByteArray) := by
 unfold spec_Decimal.f
 by_cases hn : n = 0
 ·subst hn
  refine Ev.pos rfl ?_
  rw [show (⟨#[48]⟩ : ByteArray) = (⟨(Lib.itoa 0).toArray⟩ : ByteArray) by unfold Lib.itoa; rw [if_neg (by decide), Lib.decDigits]; rfl]
  exact Ev.now _
 ·refine Ev.neg hn ?_
  have := dec_loop (decide (n < 0)) 20 n [] h0 h1 (by omega) (by decide)
  have e : (if decide (n < 0) = true then [45] else []) ++ (dg0 n.natAbs ++ []) = Lib.itoa n := by
   have hd : dg0 n.natAbs = Lib.decDigits n.natAbs := by unfold dg0; rw [if_neg (by omega)]
   unfold Lib.itoa
   rw [List.append_nil, hd]
   by_cases hneg : n < 0
   ·rw [if_pos hneg, decide_eq_true hneg]; rfl
   ·rw [if_neg hneg, decide_eq_false hneg, show n.toNat = n.natAbs by omega]; rfl
  rw [e] at this
  exact this
theorem impl_dec (k : Nat) (n : Int) (h0 : -9223372036854775808 ≤ n) (h1 : n ≤ 9223372036854775807) : @impl_Decimal.f i_it k n = some (⟨(Lib.itoa n).toArray⟩ : ByteArray) := by
 unfold impl_Decimal.f
 show ((if -9223372036854775808 ≤ n ∧ n ≤ 9223372036854775807 then some (⟨(Lib.itoa n).toArray⟩ : ByteArray) else none) : Option ByteArray).bind _ = _
 rw [if_pos ⟨h0, h1⟩]; rfl
theorem szr_pos {w : Nat} {left : Int} (h : (w : Int) ≤ left) : szr w left = left - w := if_pos h
theorem szr_neg {w : Nat} {left : Int} (h : ¬ (w : Int) ≤ left) : szr w left = -1 := if_neg h
def wtC (c : S60) : Nat := wt24 c.f0 + (wt24 c.f1 + c.f2.size)
def wtCs : List S60 → Nat
 | [] => 0
 | c :: l => wtC c + wtCs l
def wtS : List ByteArray → Nat
 | [] => 0
 | s :: l => s.size + wtS l
def htC (c : S60) : Nat := max (ht24 c.f0) (ht24 c.f1)
def htCs : List S60 → Nat
 | [] => 0
 | c :: l => max (htC c) (htCs l)
def toC (c : S60) : S48 := ⟨to29 c.f0, to29 c.f1, c.f2⟩
theorem wtCs_mem {l : List S60} {c : S60} (h : c ∈ l) : wtC c ≤ wtCs l := by
 induction l with
 | nil => simp at h
 | cons a l ih =>
  rw [wtCs]
  rcases List.mem_cons.1 h with rfl | h
  ·omega
  ·have := ih h; omega
theorem htCs_mem {l : List S60} {c : S60} (h : c ∈ l) : htC c ≤ htCs l := by
 induction l with
 | nil => simp at h
 | cons a l ih =>
  rw [htCs]
  rcases List.mem_cons.1 h with rfl | h
  ·omega
  ·have := ih h; omega
theorem rd60_at (xs : List S60) (i : Nat) (h : i < xs.length) : rd_T60 xs (i : Int) = xs[i] := by
 unfold rd_T60; simp [List.getD, h]
theorem rd48_at (xs : List S48) (i : Nat) (h : i < xs.length) : rd_T48 xs (i : Int) = xs[i] := by
 unfold rd_T48; simp [List.getD, h]
theorem rdS_at (xs : List ByteArray) (i : Nat) (h : i < xs.length) : rdOf ByteArray.empty xs (i : Int) = xs[i] := by
 unfold rdOf; simp [List.getD, h]
theorem t_wrap' {i : Int} (h0 : -9223372036854775808 ≤ i) (h1 : i ≤ 9223372036854775807) : wrap64 i = i := by unfold wrap64; omega
theorem szC_ev (n : Nat) (c : S60) (ho : ok60 c) (hh : htC c ≤ n + 1) (left : Int) (h0 : 0 ≤ left) (h1 : left ≤ 1048576) :
  Ev (fun k => @laws_szClause.f (i_sz n) k c.f0.f0 c.f0.f1 c.f0.f2 c.f0.f3 c.f1.f0 c.f1.f1 c.f1.f2 c.f1.f3 c.f2 left) (szr (wtC c) left) := by
 unfold htC at hh
 have e1 := sz_ev (n + 1) c.f0 ho.1 (by omega) left h0 h1
 have h2s := ho.2.2
 unfold laws_szClause.f
 refine Ev.bind (g := fun k => @laws_szTerm.f (i_sz n) k c.f0.f0 c.f0.f1 c.f0.f2 c.f0.f3 left) e1 ?_
 by_cases c1 : (wt24 c.f0 : Int) ≤ left
 ·rw [szr_pos c1]
  refine Ev.neg (by omega) ?_
  have e2 := sz_ev (n + 1) c.f1 ho.2.1 (by omega) (left - wt24 c.f0) (by omega) (by omega)
  refine Ev.bind (g := fun k => @laws_szTerm.f (i_sz n) k c.f1.f0 c.f1.f1 c.f1.f2 c.f1.f3 (left - wt24 c.f0)) e2 ?_
  by_cases c2 : (wt24 c.f1 : Int) ≤ left - wt24 c.f0
  ·rw [szr_pos c2]
   refine Ev.neg (by omega) ?_
   have e3 : wrap64 (left - (wt24 c.f0 : Int) - (wt24 c.f1 : Int) - (c.f2.size : Int)) = left - wt24 c.f0 - wt24 c.f1 - c.f2.size := t_wrap' (by omega) (by omega)
   rw [e3]
   by_cases c3 : (c.f2.size : Int) ≤ left - wt24 c.f0 - wt24 c.f1
   ·rw [szr_pos (show ((wtC c : Nat) : Int) ≤ left by unfold wtC; omega)]
    refine Ev.neg (by omega) ?_
    rw [show left - ((wtC c : Nat) : Int) = left - wt24 c.f0 - wt24 c.f1 - c.f2.size by unfold wtC; omega]
    exact Ev.now _
   ·rw [szr_neg (show ¬ ((wtC c : Nat) : Int) ≤ left by unfold wtC; omega)]
    exact Ev.pos (by omega) (Ev.now _)
  ·rw [szr_neg c2, szr_neg (show ¬ ((wtC c : Nat) : Int) ≤ left by unfold wtC; omega)]
   exact Ev.pos (by omega) (Ev.now _)
 ·rw [szr_neg c1, szr_neg (show ¬ ((wtC c : Nat) : Int) ≤ left by unfold wtC; omega)]
  exact Ev.pos (by omega) (Ev.now _)
theorem szCs_l (n : Nat) (xs : List S60) (hx : xs.length ≤ 1048576) (ho : ∀ x ∈ xs, ok60 x) (hh : ∀ x ∈ xs, htC x ≤ n + 1) (d : Nat) :
  ∀ (i : Nat) (left : Int), i ≤ xs.length → xs.length - i = d → 0 ≤ left → left ≤ 1048576 → Ev (fun k => @laws_szClauseS.l0 (i_sz n) k xs left i) (szr (wtCs (xs.drop i)) left) := by
 induction d with
 | zero =>
  intro i left hi hd h0 h1
  refine Ev.step (f := fun _ => some left) (fun k => ?_) ?_
  ·simp only [laws_szClauseS.l0]; rw [if_neg (by omega)]
  ·rw [List.drop_eq_nil_of_le (by omega), wtCs, szr_pos (by omega)]
   simpa using Ev.now left
 | succ d ih =>
  intro i left hi hd h0 h1
  have hlt : i < xs.length := by omega
  refine Ev.step (f := fun k => (@laws_szClause.f (i_sz n) k xs[i].f0.f0 xs[i].f0.f1 xs[i].f0.f2 xs[i].f0.f3 xs[i].f1.f0 xs[i].f1.f1 xs[i].f1.f2 xs[i].f1.f3 xs[i].f2 left).bind fun t => if t < 0 then some (-1) else @laws_szClauseS.l0 (i_sz n) k xs t ((i + 1 : Nat) : Int)) (fun k => ?_) ?_
  ·simp only [laws_szClauseS.l0]
   rw [if_pos (by omega), if_pos (by omega), rd60_at xs i hlt, next_i i _ hlt hx]
  ·refine Ev.bind (f := fun k t => if t < 0 then some (-1) else @laws_szClauseS.l0 (i_sz n) k xs t ((i + 1 : Nat) : Int)) (szC_ev n xs[i] (ho _ (List.getElem_mem hlt)) (hh _ (List.getElem_mem hlt)) left h0 h1) ?_
   rw [List.drop_eq_getElem_cons hlt, wtCs]
   by_cases c1 : ((wtC xs[i] : Nat) : Int) ≤ left
   ·rw [szr_pos c1]
    refine Ev.neg (by omega) ?_
    have := ih (i + 1) (left - wtC xs[i]) (by omega) (by omega) (by omega) (by omega)
    by_cases c2 : ((wtCs (xs.drop (i + 1)) : Nat) : Int) ≤ left - wtC xs[i]
    ·rw [szr_pos c2] at this
     rw [szr_pos (by omega), show left - ((wtC xs[i] + wtCs (xs.drop (i + 1)) : Nat) : Int) = left - wtC xs[i] - wtCs (xs.drop (i + 1)) by omega]
     exact this
    ·rw [szr_neg c2] at this
     rw [szr_neg (by omega)]
     exact this
   ·rw [szr_neg c1, szr_neg (by omega)]
    exact Ev.pos (by omega) (Ev.now _)
theorem szS_l (xs : List ByteArray) (hx : xs.length ≤ 1048576) (ho : ∀ x ∈ xs, x.size ≤ 9223372036854775807) (d : Nat) :
  ∀ (i : Nat) (left : Int), i ≤ xs.length → xs.length - i = d → 0 ≤ left → left ≤ 1048576 → Ev (fun k => laws_szStringS.l0 k xs left i) (szr (wtS (xs.drop i)) left) := by
 induction d with
 | zero =>
  intro i left hi hd h0 h1
  refine Ev.step (f := fun _ => some left) (fun k => ?_) ?_
  ·simp only [laws_szStringS.l0]; rw [if_neg (by omega)]
  ·rw [List.drop_eq_nil_of_le (by omega), wtS, szr_pos (by omega)]
   simpa using Ev.now left
 | succ d ih =>
  intro i left hi hd h0 h1
  have hlt : i < xs.length := by omega
  have hs := ho _ (List.getElem_mem hlt)
  have e3 : wrap64 (left - (xs[i].size : Int)) = left - xs[i].size := t_wrap' (by omega) (by omega)
  refine Ev.step (f := fun k => if left - (xs[i].size : Int) < 0 then some (-1) else laws_szStringS.l0 k xs (left - xs[i].size) ((i + 1 : Nat) : Int)) (fun k => ?_) ?_
  ·simp only [laws_szStringS.l0]
   rw [if_pos (by omega), if_pos (by omega), rdS_at xs i hlt, next_i i _ hlt hx, e3]
  ·rw [List.drop_eq_getElem_cons hlt, wtS]
   by_cases c1 : (xs[i].size : Int) ≤ left
   ·refine Ev.neg (by omega) ?_
    have := ih (i + 1) (left - xs[i].size) (by omega) (by omega) (by omega) (by omega)
    by_cases c2 : ((wtS (xs.drop (i + 1)) : Nat) : Int) ≤ left - xs[i].size
    ·rw [szr_pos c2] at this
     rw [szr_pos (by omega), show left - ((xs[i].size + wtS (xs.drop (i + 1)) : Nat) : Int) = left - xs[i].size - wtS (xs.drop (i + 1)) by omega]
     exact this
    ·rw [szr_neg c2] at this
     rw [szr_neg (by omega)]
     exact this
   ·rw [szr_neg (by omega)]
    exact Ev.pos (by omega) (Ev.now _)
theorem toC_ev (n : Nat) (c : S60) (hh : htC c ≤ n + 1) (hw : wtC c ≤ 1048576) :
  Ev (fun k => @laws_toClause.f (i_to n) k c.f0.f0 c.f0.f1 c.f0.f2 c.f0.f3 c.f1.f0 c.f1.f1 c.f1.f2 c.f1.f3 c.f2) ((to29 c.f0).f0, (to29 c.f0).f1, (to29 c.f0).f2, (to29 c.f0).f3, (to29 c.f1).f0, (to29 c.f1).f1, (to29 c.f1).f2, (to29 c.f1).f3, c.f2) := by
 unfold htC at hh
 unfold wtC at hw
 have e1 := to_ev (n + 1) c.f0 (by omega) (by omega)
 have e2 := to_ev (n + 1) c.f1 (by omega) (by omega)
 unfold laws_toClause.f
 exact Ev.bind e1 (Ev.bind e2 (Ev.now _))
theorem set_row {α : Type} (xs : List α) (z : α) (r : Nat) (i : Nat) (y : α) (hi : i = xs.length) : (xs ++ List.replicate (r + 1) z).set i y = (xs ++ [y]) ++ List.replicate r z := by
 subst hi
 rw [List.set_append_right _ _ (Nat.le_refl _), Nat.sub_self, List.replicate_succ, List.set_cons_zero, List.append_assoc]
 rfl
theorem toCs_l (n : Nat) (xs : List S60) (hx : xs.length ≤ 1048576) (hh : ∀ x ∈ xs, htC x ≤ n + 1) (hw : ∀ x ∈ xs, wtC x ≤ 1048576) (d : Nat) :
  ∀ i : Nat, i ≤ xs.length → xs.length - i = d → Ev (fun k => @laws_toClauseS.l0 (i_to n) k xs ((xs.take i).map toC ++ List.replicate d z48) i) (xs.map toC) := by
 induction d with
 | zero =>
  intro i hi hd
  refine Ev.step (f := fun _ => some ((xs.take i).map toC ++ List.replicate 0 z48)) (fun k => ?_) ?_
  ·simp only [laws_toClauseS.l0]; rw [if_neg (by omega)]
  ·rw [List.take_of_length_le (by omega), List.replicate_zero, List.append_nil]
   exact Ev.now _
 | succ d ih =>
  intro i hi hd
  have hlt : i < xs.length := by omega
  have hl : ((xs.take i).map toC).length = i := by rw [List.length_map, List.length_take]; omega
  have hn := ih (i + 1) (by omega) (by omega)
  rw [List.take_succ_eq_append_getElem hlt, List.map_append, List.map_cons, List.map_nil] at hn
  refine Ev.step (f := fun k => (@laws_toClause.f (i_to n) k xs[i].f0.f0 xs[i].f0.f1 xs[i].f0.f2 xs[i].f0.f3 xs[i].f1.f0 xs[i].f1.f1 xs[i].f1.f2 xs[i].f1.f3 xs[i].f2).bind fun b => @laws_toClauseS.l0 (i_to n) k xs (((xs.take i).map toC ++ List.replicate (d + 1) z48).set i (⟨⟨b.1, b.2.1, b.2.2.1, b.2.2.2.1⟩, ⟨b.2.2.2.2.1, b.2.2.2.2.2.1, b.2.2.2.2.2.2.1, b.2.2.2.2.2.2.2.1⟩, b.2.2.2.2.2.2.2.2⟩ : S48)) ((i + 1 : Nat) : Int)) (fun k => ?_) ?_
  ·simp only [laws_toClauseS.l0]
   rw [if_pos (by omega), if_pos (by omega), rd60_at xs i hlt, next_i i _ hlt hx]
   refine congrArg _ (funext fun b => ?_)
   rw [if_pos (by rw [List.length_append, hl, List.length_replicate]; omega), Int.toNat_natCast]
  ·refine Ev.bind (toC_ev n xs[i] (hh _ (List.getElem_mem hlt)) (hw _ (List.getElem_mem hlt))) ?_
   rw [set_row _ z48 d i _ hl.symm]
   have e : (⟨⟨(to29 xs[i].f0).f0, (to29 xs[i].f0).f1, (to29 xs[i].f0).f2, (to29 xs[i].f0).f3⟩, ⟨(to29 xs[i].f1).f0, (to29 xs[i].f1).f1, (to29 xs[i].f1).f2, (to29 xs[i].f1).f3⟩, xs[i].f2⟩ : S48) = toC xs[i] := by
    unfold toC
    rw [eta29, eta29]
   rw [← e] at hn
   exact hn
theorem toCs_ev (n : Nat) (xs : List S60) (hx : xs.length ≤ 1048576) (hh : ∀ x ∈ xs, htC x ≤ n + 1) (hw : ∀ x ∈ xs, wtC x ≤ 1048576) : Ev (fun k => @laws_toClauseS.f (i_to n) k xs) (xs.map toC) := by
 unfold laws_toClauseS.f
 refine Ev.pos (by omega) (Ev.pos (by omega) ?_)
 have := toCs_l n xs hx hh hw xs.length 0 (by omega) (by omega)
 rw [Int.toNat_natCast]
 exact this
theorem toS_l (xs : List ByteArray) (hx : xs.length ≤ 1048576) (d : Nat) :
  ∀ i : Nat, i ≤ xs.length → xs.length - i = d → Ev (fun k => laws_toStringS.l0 k xs (xs.take i ++ List.replicate d (⟨#[]⟩ : ByteArray)) i) xs := by
 induction d with
 | zero =>
  intro i hi hd
  refine Ev.step (f := fun _ => some (xs.take i ++ List.replicate 0 (⟨#[]⟩ : ByteArray))) (fun k => ?_) ?_
  ·simp only [laws_toStringS.l0]; rw [if_neg (by omega)]
  ·rw [List.take_of_length_le (by omega), List.replicate_zero, List.append_nil]
   exact Ev.now _
 | succ d ih =>
  intro i hi hd
  have hlt : i < xs.length := by omega
  have hl : (xs.take i).length = i := by rw [List.length_take]; omega
  have hn := ih (i + 1) (by omega) (by omega)
  rw [List.take_succ_eq_append_getElem hlt] at hn
  refine Ev.step (fun k => ?_) hn
  simp only [laws_toStringS.l0]
  rw [if_pos (by omega), if_pos (by omega), rdS_at xs i hlt, next_i i _ hlt hx, if_pos (by rw [List.length_append, hl, List.length_replicate]; omega), Int.toNat_natCast, set_row _ _ d i _ hl.symm]
theorem toTexts_ev (xs : List ByteArray) (hx : xs.length ≤ 1048576) : Ev (fun k => laws_toStringS.f k xs) xs := by
 unfold laws_toStringS.f
 refine Ev.pos (by omega) (Ev.pos (by omega) ?_)
 have := toS_l xs hx xs.length 0 (by omega) (by omega)
 rw [Int.toNat_natCast]
 exact this
theorem toD_ev (n : Nat) (xs : List S60) (o : List ByteArray) (hx : xs.length ≤ 1048576) (ho : o.length ≤ 1048576) (hh : ∀ x ∈ xs, htC x ≤ n + 1) (hw : ∀ x ∈ xs, wtC x ≤ 1048576) : Ev (fun k => @laws_toDb.f (i_to n) k xs o) (xs.map toC, o) := by
 unfold laws_toDb.f
 exact Ev.bind (toCs_ev n xs hx hh hw) (Ev.bind (toTexts_ev o ho) (Ev.now _))
theorem eqC_ev (n : Nat) (c : S60) (hh : htC c ≤ n + 1) (hw : wtC c ≤ 1048576) :
  Ev (fun k => @laws_eqClause.f (i_eq n) k (toC c).f0.f0 (toC c).f0.f1 (toC c).f0.f2 (toC c).f0.f3 (toC c).f1.f0 (toC c).f1.f1 (toC c).f1.f2 (toC c).f1.f3 (toC c).f2 (toC c).f0.f0 (toC c).f0.f1 (toC c).f0.f2 (toC c).f0.f3 (toC c).f1.f0 (toC c).f1.f1 (toC c).f1.f2 (toC c).f1.f3 (toC c).f2) true := by
 unfold htC at hh
 unfold wtC at hw
 have n0 := cn_wt c.f0
 have n1 := cn_wt c.f1
 have e1 := eq_ev (n + 1) (to29 c.f0) (by rw [ht_to]; omega) (by omega)
 have e2 := eq_ev (n + 1) (to29 c.f1) (by rw [ht_to]; omega) (by omega)
 unfold laws_eqClause.f
 exact Ev.bind e1 (Ev.pos rfl (Ev.bind e2 (Ev.pos rfl (Ev.pos rfl (Ev.now _)))))
theorem eqCs_l (n : Nat) (xs : List S60) (hx : xs.length ≤ 1048576) (hh : ∀ x ∈ xs, htC x ≤ n + 1) (hw : ∀ x ∈ xs, wtC x ≤ 1048576) (d : Nat) :
  ∀ i : Nat, i ≤ xs.length → xs.length - i = d → Ev (fun k => @laws_eqClauseS.l0 (i_eq n) k (xs.map toC) (xs.map toC) i) true := by
 have hl : (xs.map toC).length = xs.length := List.length_map ..
 induction d with
 | zero =>
  intro i hi hd
  refine Ev.step (f := fun _ => some true) (fun k => ?_) (Ev.now _)
  simp only [laws_eqClauseS.l0]; rw [if_neg (by omega)]
 | succ d ih =>
  intro i hi hd
  have hlt : i < xs.length := by omega
  have hn := ih (i + 1) (by omega) (by omega)
  refine Ev.step (f := fun k => (@laws_eqClause.f (i_eq n) k (toC xs[i]).f0.f0 (toC xs[i]).f0.f1 (toC xs[i]).f0.f2 (toC xs[i]).f0.f3 (toC xs[i]).f1.f0 (toC xs[i]).f1.f1 (toC xs[i]).f1.f2 (toC xs[i]).f1.f3 (toC xs[i]).f2 (toC xs[i]).f0.f0 (toC xs[i]).f0.f1 (toC xs[i]).f0.f2 (toC xs[i]).f0.f3 (toC xs[i]).f1.f0 (toC xs[i]).f1.f1 (toC xs[i]).f1.f2 (toC xs[i]).f1.f3 (toC xs[i]).f2).bind fun t => if t = true then @laws_eqClauseS.l0 (i_eq n) k (xs.map toC) (xs.map toC) ((i + 1 : Nat) : Int) else some false) (fun k => ?_) ?_
  ·simp only [laws_eqClauseS.l0]
   rw [if_pos (by omega), if_pos (by omega), if_pos (by omega), rd48_at (xs.map toC) i (by omega), List.getElem_map, next_i i _ hlt hx]
  ·exact Ev.bind (f := fun k t => if t = true then @laws_eqClauseS.l0 (i_eq n) k (xs.map toC) (xs.map toC) ((i + 1 : Nat) : Int) else some false) (eqC_ev n xs[i] (hh _ (List.getElem_mem hlt)) (hw _ (List.getElem_mem hlt))) (Ev.pos rfl hn)
theorem eqS_l (xs : List ByteArray) (hx : xs.length ≤ 1048576) (d : Nat) : ∀ i : Nat, i ≤ xs.length → xs.length - i = d → Ev (fun k => laws_eqStringS.l0 k xs xs i) true := by
 induction d with
 | zero =>
  intro i hi hd
  refine Ev.step (f := fun _ => some true) (fun k => ?_) (Ev.now _)
  simp only [laws_eqStringS.l0]
  rw [if_neg (by omega)]
 | succ d ih =>
  intro i hi hd
  refine Ev.step (fun k => ?_) (ih (i + 1) (by omega) (by omega))
  simp only [laws_eqStringS.l0]
  rw [if_pos (by omega), if_pos (by omega), if_pos (by omega), next_i i _ (by omega) hx]
  exact if_pos trivial
theorem eqD_ev (n : Nat) (xs : List S60) (o : List ByteArray) (hx : xs.length ≤ 1048576) (ho : o.length ≤ 1048576) (hh : ∀ x ∈ xs, htC x ≤ n + 1) (hw : ∀ x ∈ xs, wtC x ≤ 1048576) : Ev (fun k => @laws_eqDb.f (i_eq n) k (xs.map toC) o (xs.map toC) o) true := by
 have h1 : Ev (fun k => @laws_eqClauseS.f (i_eq n) k (xs.map toC) (xs.map toC)) true := by
  unfold laws_eqClauseS.f
  exact Ev.pos rfl (eqCs_l n xs hx hh hw _ 0 (by omega) rfl)
 have h2 : Ev (fun k => laws_eqStringS.f k o o) true := by
  unfold laws_eqStringS.f
  exact Ev.pos rfl (eqS_l o ho _ 0 (by omega) rfl)
 unfold laws_eqDb.f
 exact Ev.bind h1 (Ev.pos rfl (Ev.bind h2 (Ev.pos rfl (Ev.now _))))
theorem szD_ev (n : Nat) (xs : List S60) (o : List ByteArray) (hl1 : xs.length ≤ 9223372036854775807) (hl2 : o.length ≤ 9223372036854775807) (ho : ∀ x ∈ xs, ok60 x) (hs : ∀ x ∈ o, x.size ≤ 9223372036854775807) (hh : ∀ x ∈ xs, htC x ≤ n + 1) :
  Ev (fun k => @laws_szDb.f (i_sz n) k xs o 1048576) (szr (xs.length + wtCs xs + (o.length + wtS o)) 1048576) := by
 have h1 : Ev (fun k => @laws_szClauseS.f (i_sz n) k xs 1048576) (szr (xs.length + wtCs xs) 1048576) := by
  unfold laws_szClauseS.f
  rw [t_wrap' (i := 1048576 - (xs.length : Int)) (by omega) (by omega)]
  by_cases c : (1048576 : Int) - xs.length < 0
  ·rw [szr_neg (by omega)]
   exact Ev.pos c (Ev.now _)
  ·refine Ev.neg c ?_
   have := szCs_l n xs (by omega) ho hh xs.length 0 (1048576 - xs.length) (by omega) (by omega) (by omega) (by omega)
   rw [List.drop_zero] at this
   have e : szr (wtCs xs) (1048576 - xs.length) = szr (xs.length + wtCs xs) 1048576 := by unfold szr; split <;> split <;> omega
   rw [e] at this
   exact this
 unfold laws_szDb.f
 refine Ev.bind h1 ?_
 by_cases c1 : ((xs.length + wtCs xs : Nat) : Int) ≤ 1048576
 ·rw [szr_pos c1]
  refine Ev.neg (by omega) ?_
  have h2 : Ev (fun k => laws_szStringS.f k o (1048576 - ((xs.length + wtCs xs : Nat) : Int))) (szr (o.length + wtS o) (1048576 - ((xs.length + wtCs xs : Nat) : Int))) := by
   unfold laws_szStringS.f
   rw [t_wrap' (i := 1048576 - ((xs.length + wtCs xs : Nat) : Int) - (o.length : Int)) (by omega) (by omega)]
   by_cases c : 1048576 - ((xs.length + wtCs xs : Nat) : Int) - (o.length : Int) < 0
   ·rw [szr_neg (by omega)]
    exact Ev.pos c (Ev.now _)
   ·refine Ev.neg c ?_
    have := szS_l o (by omega) hs o.length 0 (1048576 - ((xs.length + wtCs xs : Nat) : Int) - o.length) (by omega) (by omega) (by omega) (by omega)
    rw [List.drop_zero] at this
    have e : szr (wtS o) (1048576 - ((xs.length + wtCs xs : Nat) : Int) - o.length) = szr (o.length + wtS o) (1048576 - ((xs.length + wtCs xs : Nat) : Int)) := by unfold szr; split <;> split <;> omega
    rw [e] at this
    exact this
  refine Ev.bind h2 ?_
  by_cases c2 : ((o.length + wtS o : Nat) : Int) ≤ 1048576 - ((xs.length + wtCs xs : Nat) : Int)
  ·rw [szr_pos c2, szr_pos (by omega), show (1048576 : Int) - ((xs.length + wtCs xs + (o.length + wtS o) : Nat) : Int) = 1048576 - ((xs.length + wtCs xs : Nat) : Int) - ((o.length + wtS o : Nat) : Int) by omega]
   exact Ev.neg (by omega) (Ev.now _)
  ·rw [szr_neg c2, szr_neg (by omega)]
   exact Ev.pos (by omega) (Ev.now _)
 ·rw [szr_neg c1, szr_neg (by omega)]
  exact Ev.pos (by omega) (Ev.now _)
def dtx (n : Nat) : ByteArray := ⟨(Lib.itoa (n : Int)).toArray⟩
def pv (t : S29) : ByteArray := if t.f0 = 2 ∨ t.f0 = 4 then t.f1 ++ ⟨#[47]⟩ ++ dtx t.f3.length else ⟨#[]⟩
theorem dtx_size (n : Nat) (h : n ≤ 1048576) : (dtx n).size ≤ 21 := by
 have := Lib.itoa_length_le (n : Int) (by omega) (by omega)
 show (Lib.itoa (n : Int)).toArray.size ≤ 21
 rw [List.size_toArray]
 exact this
theorem spec_pred (t : S29) (h1 : t.f1.size ≤ 1048576) (h2 : t.f3.length ≤ 1048576) : Ev (fun k => spec_PredOf.f k t.f0 t.f1 t.f2 t.f3) (pv t) := by
 have hd : Ev (fun k => spec_Decimal.f k (t.f3.length : Int)) (dtx t.f3.length) := dec_ev _ (by omega) (by omega)
 have hz := dtx_size t.f3.length h2
 have hz2 : (t.f1 ++ (⟨#[47]⟩ : ByteArray)).size = t.f1.size + 1 := by rw [ByteArray.size_append]; rfl
 unfold spec_PredOf.f pv
 by_cases c2 : t.f0 = 2
 ·rw [if_pos (Or.inl c2)]
  refine Ev.pos c2 (Ev.pos (by omega) ?_)
  exact Ev.bind (f := fun _ t131 => (if (t.f1 ++ (⟨#[47]⟩ : ByteArray)).size + t131.size ≤ 9223372036854775807 then (some ((t.f1 ++ (⟨#[47]⟩ : ByteArray)) ++ t131)) else (none))) hd (Ev.pos (by omega) (Ev.now _))
 ·refine Ev.neg c2 ?_
  by_cases c4 : t.f0 = 4
  ·rw [if_pos (Or.inr c4)]
   refine Ev.pos c4 (Ev.pos (by omega) ?_)
   exact Ev.bind (f := fun _ t131 => (if (t.f1 ++ (⟨#[47]⟩ : ByteArray)).size + t131.size ≤ 9223372036854775807 then (some ((t.f1 ++ (⟨#[47]⟩ : ByteArray)) ++ t131)) else (none))) hd (Ev.pos (by omega) (Ev.now _))
  ·rw [if_neg (fun h => h.elim c2 c4)]
   exact Ev.neg c4 (Ev.now _)
theorem impl_pred (t : S29) (h1 : t.f1.size ≤ 1048576) (h2 : t.f3.length ≤ 1048576) (k : Nat) : @impl_PredOf.f i_it k t.f0 t.f1 t.f2 t.f3 = some (pv t) := by
 have hd : @impl_Decimal.f i_it k (t.f3.length : Int) = some (dtx t.f3.length) := impl_dec k _ (by omega) (by omega)
 have hz := dtx_size t.f3.length h2
 have hz2 : (t.f1 ++ (⟨#[47]⟩ : ByteArray)).size = t.f1.size + 1 := by rw [ByteArray.size_append]; rfl
 unfold impl_PredOf.f pv
 by_cases c2 : t.f0 = 2
 ·rw [if_pos (Or.inl c2), if_pos c2, if_pos (by omega), hd, Option.bind_some, if_pos (by omega)]
 ·rw [if_neg c2]
  by_cases c4 : t.f0 = 4
  ·rw [if_pos (Or.inr c4), if_pos c4, if_pos (by omega), hd, Option.bind_some, if_pos (by omega)]
  ·rw [if_neg c4, if_neg (fun h => h.elim c2 c4)]
def roomr (c : Nat) (room : Int) : Int := if (c : Int) ≤ room then room - c else -1
theorem specS_ev (q0 : Int) (q1 : ByteArray) (q2 : Int) (xs : List S29) (hlen : xs.length ≤ 1048576) (IH : ∀ x ∈ xs, ∀ room : Int, 0 ≤ room → room ≤ 1000 → Ev (fun k => spec_l03Count.f k x.f0 x.f1 x.f2 x.f3 room) (roomr (cn29 x) room)) (d : Nat) :
  ∀ (i : Nat) (room : Int), i ≤ xs.length → xs.length - i = d → -1 ≤ room → room ≤ 1000 → Ev (fun k => spec_l03Count.l0 k room i q0 q1 q2 xs) (if 0 ≤ room then roomr (cns29 (xs.drop i)) room else room) := by
 induction d with
 | zero =>
  intro i room hi hd h0 h1
  refine Ev.step (f := fun _ => some room) (fun k => ?_) ?_
  ·simp only [spec_l03Count.l0]; rw [if_neg (by omega)]
  ·rw [List.drop_eq_nil_of_le (by omega), cns29]
   have : (if 0 ≤ room then roomr 0 room else room) = room := by
    split
    ·unfold roomr; rw [if_pos (by omega)]; omega
    ·rfl
   rw [this]; exact Ev.now _
 | succ d ih =>
  intro i room hi hd h0 h1
  have hlt : i < xs.length := by omega
  by_cases hr : 0 ≤ room
  ·refine Ev.step (f := fun k => (spec_l03Count.f k xs[i].f0 xs[i].f1 xs[i].f2 xs[i].f3 room).bind fun t => spec_l03Count.l0 k t ((i + 1 : Nat) : Int) q0 q1 q2 xs) (fun k => ?_) ?_
   ·simp only [spec_l03Count.l0]
    rw [if_pos (by omega), if_pos (by omega), if_pos (by omega), rd29_at xs i hlt, next_i i _ hlt hlen]
   ·refine Ev.bind (f := fun k t => spec_l03Count.l0 k t ((i + 1 : Nat) : Int) q0 q1 q2 xs) (IH xs[i] (List.getElem_mem hlt) room hr h1) ?_
    have hb : -1 ≤ roomr (cn29 xs[i]) room ∧ roomr (cn29 xs[i]) room ≤ 1000 := by unfold roomr; split <;> omega
    have := ih (i + 1) (roomr (cn29 xs[i]) room) (by omega) (by omega) hb.1 hb.2
    rw [if_pos hr, List.drop_eq_getElem_cons hlt, cns29]
    have e : roomr (cn29 xs[i] + cns29 (xs.drop (i + 1))) room = (if 0 ≤ roomr (cn29 xs[i]) room then roomr (cns29 (xs.drop (i + 1))) (roomr (cn29 xs[i]) room) else roomr (cn29 xs[i]) room) := by
     unfold roomr
     repeat' split
     all_goals omega
    rw [e]; exact this
  ·refine Ev.step (f := fun _ => some room) (fun k => ?_) ?_
   ·simp only [spec_l03Count.l0]; rw [if_pos (by omega), if_neg (by omega)]
   ·rw [if_neg hr]; exact Ev.now _
theorem count_ev (n : Nat) : ∀ (t : S29), ht29 t ≤ n → cn29 t ≤ 1048577 → ∀ room : Int, 0 ≤ room → room ≤ 1000 → Ev (fun k => spec_l03Count.f k t.f0 t.f1 t.f2 t.f3 room) (roomr (cn29 t) room) := by
 induction n with
 | zero => intro t h; rw [ht29_eq] at h; omega
 | succ n ih =>
  intro t h hc room h0 h1
  rw [ht29_eq] at h
  rw [cn29_eq] at hc ⊢
  have e : wrap64 (room - 1) = room - 1 := t_wrap (by omega) (by omega)
  refine Ev.step (f := fun k => spec_l03Count.l0 k (room - 1) 0 t.f0 t.f1 t.f2 t.f3) (fun k => by simp only [spec_l03Count.f, e]) ?_
  have := specS_ev t.f0 t.f1 t.f2 t.f3 (by have := cns29_len t.f3; omega) (fun x hx => ih x (by have := hts29_mem hx; omega) (by have := cns29_mem hx; omega)) t.f3.length 0 (room - 1) (by omega) (by omega) (by omega) (by omega)
  rw [List.drop_zero] at this
  have e2 : roomr (cns29 t.f3 + 1) room = (if 0 ≤ room - 1 then roomr (cns29 t.f3) (room - 1) else room - 1) := by
   unfold roomr
   by_cases c1 : ((cns29 t.f3 + 1 : Nat) : Int) ≤ room
   ·rw [if_pos c1, if_pos (by omega), if_pos (by omega)]; omega
   ·rw [if_neg c1]
    by_cases c2 : 0 ≤ room - 1
    ·rw [if_pos c2, if_neg (by omega)]
    ·rw [if_neg c2]; omega
  rw [e2]; exact this
def okByte (c : Int) : Bool := decide (33 ≤ c ∧ c ≤ 126 ∧ c ≠ 39 ∧ c ≠ 34)
def nameB (s : ByteArray) : Bool := ((bytesOf s).all okByte) && decide (1 ≤ (s.size : Int) ∧ (s.size : Int) ≤ 20)
theorem drop_bytes (s : ByteArray) (i : Nat) (h : i < s.size) : (bytesOf s).drop i = bt s i :: (bytesOf s).drop (i + 1) := by
 have hl : i < (bytesOf s).length := by rw [bytesOf_length]; exact h
 rw [List.drop_eq_getElem_cons hl]
 congr 1
 have := rd_bytesOf s i
 unfold rd at this
 rw [← this]
 simp [List.getD, hl]
theorem in_spec (a b c : Int) : spec_l01In.f a b c = some (decide (b ≤ a ∧ a ≤ c)) := by
 unfold spec_l01In.f
 by_cases h : a ≥ b
 ·rw [if_pos h]; congr 1; rw [decide_eq_decide]; omega
 ·rw [if_neg h]; congr 1; symm; rw [decide_eq_false_iff_not]; omega
theorem in_impl (a b c : Int) : impl_within.f a b c = some (decide (b ≤ a ∧ a ≤ c)) := by
 unfold impl_within.f
 by_cases h : a ≥ b
 ·rw [if_pos h]; congr 1; rw [decide_eq_decide]; omega
 ·rw [if_neg h]; congr 1; symm; rw [decide_eq_false_iff_not]; omega
theorem name_spec_l (s : ByteArray) (hs : s.size ≤ 1048576) (d : Nat) : ∀ i : Nat, i ≤ s.size → s.size - i = d →
  Ev (fun k => spec_l03Name.l0 k s i) (((bytesOf s).drop i).all okByte && decide (1 ≤ (s.size : Int) ∧ (s.size : Int) ≤ 20)) := by
 induction d with
 | zero =>
  intro i hi hd
  refine Ev.step (f := fun _ => some (decide (1 ≤ (s.size : Int) ∧ (s.size : Int) ≤ 20))) (fun k => ?_) ?_
  ·simp only [spec_l03Name.l0]; rw [if_neg (by omega), in_spec]; rfl
  ·rw [List.drop_eq_nil_of_le (by rw [bytesOf_length]; omega)]; exact Ev.now _
 | succ d ih =>
  intro i hi hd
  have hlt : i < s.size := by omega
  rw [drop_bytes s i hlt, List.all_cons]
  have hstep : ∀ k, spec_l03Name.l0 (k + 1) s i = if okByte (bt s i) = true then spec_l03Name.l0 k s ((i + 1 : Nat) : Int) else some false := by
   intro k
   simp only [spec_l03Name.l0]
   rw [if_pos (by omega), if_pos (by omega), next_i i _ hlt hs]
   unfold okByte
   simp only [decide_eq_true_eq]
   by_cases c1 : bt s i < 33
   ·rw [if_pos c1, if_neg (by omega)]
   ·by_cases c2 : bt s i > 126
    ·rw [if_neg c1, if_pos c2, if_neg (by omega)]
    ·by_cases c3 : bt s i = 39
     ·rw [if_neg c1, if_neg c2, if_pos c3, if_neg (by omega)]
     ·by_cases c4 : bt s i = 34
      ·rw [if_neg c1, if_neg c2, if_neg c3, if_pos c4, if_neg (by omega)]
      ·rw [if_neg c1, if_neg c2, if_neg c3, if_neg c4, if_pos (by omega)]
  refine Ev.step hstep ?_
  cases hb : okByte (bt s i) with
  | true =>
   refine Ev.congr (fun k => if_pos rfl) ?_
   rw [Bool.true_and]
   exact ih (i + 1) (by omega) (by omega)
  | false =>
   refine Ev.congr (fun k => if_neg (by simp)) ?_
   rw [Bool.false_and, Bool.false_and]; exact Ev.now _
theorem name_spec (s : ByteArray) (hs : s.size ≤ 1048576) : Ev (fun k => spec_l03Name.f k s) (nameB s) := by
 have := name_spec_l s hs s.size 0 (by omega) (by omega)
 rw [List.drop_zero] at this; exact this
theorem name_impl_l (s : ByteArray) (hs : s.size ≤ 1048576) (d : Nat) : ∀ i : Nat, i ≤ s.size → s.size - i = d →
  Ev (fun k => impl_nameOk.l0 k s i) (((bytesOf s).drop i).all okByte && decide (1 ≤ (s.size : Int) ∧ (s.size : Int) ≤ 20)) := by
 induction d with
 | zero =>
  intro i hi hd
  refine Ev.step (f := fun _ => some (decide (1 ≤ (s.size : Int) ∧ (s.size : Int) ≤ 20))) (fun k => ?_) ?_
  ·simp only [impl_nameOk.l0]; rw [if_neg (by omega), in_impl]; rfl
  ·rw [List.drop_eq_nil_of_le (by rw [bytesOf_length]; omega)]; exact Ev.now _
 | succ d ih =>
  intro i hi hd
  have hlt : i < s.size := by omega
  rw [drop_bytes s i hlt, List.all_cons]
  have hstep : ∀ k, impl_nameOk.l0 (k + 1) s i = if okByte (bt s i) = true then impl_nameOk.l0 k s ((i + 1 : Nat) : Int) else some false := by
   intro k
   have hbr := bt_range s i
   have hwb : wrap64 (bt s i) = bt s i := t_wrap (by omega) (by omega)
   simp only [impl_nameOk.l0]
   rw [if_pos (by omega), if_pos (by omega), next_i i _ hlt hs, hwb, in_impl]
   clear hwb
   unfold okByte
   simp only [decide_eq_true_eq, Option.bind_some]
   by_cases c1 : 33 ≤ bt s i ∧ bt s i ≤ 126
   ·by_cases c3 : bt s i = 39
    ·rw [if_pos c1, if_pos c3, if_neg (by omega)]
    ·by_cases c4 : bt s i = 34
     ·rw [if_pos c1, if_neg c3, if_pos c4, if_neg (by omega)]
     ·rw [if_pos c1, if_neg c3, if_neg c4, if_pos (by omega)]
   ·rw [if_neg c1, if_neg (by omega)]
  refine Ev.step hstep ?_
  cases hb : okByte (bt s i) with
  | true =>
   refine Ev.congr (fun k => if_pos rfl) ?_
   rw [Bool.true_and]
   exact ih (i + 1) (by omega) (by omega)
  | false =>
   refine Ev.congr (fun k => if_neg (by simp)) ?_
   rw [Bool.false_and, Bool.false_and]; exact Ev.now _
theorem name_impl (s : ByteArray) (hs : s.size ≤ 1048576) : Ev (fun k => impl_nameOk.f k s) (nameB s) := by
 have := name_impl_l s hs s.size 0 (by omega) (by omega)
 rw [List.drop_zero] at this; exact this
def oneB (t : S29) : Bool :=
 if t.f0 = 1 then decide (0 ≤ t.f2 ∧ t.f2 ≤ 99999) && decide (t.f1.toList = []) && decide (t.f3.length = 0)
 else if t.f0 = 2 then nameB t.f1 && decide (t.f2 = 0) && decide (t.f3.length = 0)
 else if t.f0 = 3 then decide (-999999999 ≤ t.f2 ∧ t.f2 ≤ 999999999) && decide (t.f1.toList = []) && decide (t.f3.length = 0)
 else if t.f0 = 4 then nameB t.f1 && decide (t.f2 = 0) && decide (1 ≤ (t.f3.length : Int) ∧ (t.f3.length : Int) ≤ 5)
 else false
theorem len0 (n : Nat) : ((n : Int) == 0) = decide (n = 0) := by
 by_cases h : n = 0
 ·subst h; rfl
 ·have : ¬ (n : Int) = 0 := by omega
  simp [h]
theorem one_spec (t : S29) (hs : t.f1.size ≤ 1048576) : Ev (fun k => spec_l03One.f k t.f0 t.f1 t.f2 t.f3) (oneB t) := by
 unfold spec_l03One.f oneB
 have hn := name_spec t.f1 hs
 simp only [in_spec, Option.bind_some, len0]
 by_cases c1 : t.f0 = 1
 ·simp only [if_pos c1]
  by_cases a1 : 0 ≤ t.f2 ∧ t.f2 ≤ 99999
  ·by_cases a2 : t.f1.toList = []
   ·simp only [decide_eq_true a1, if_true, a2, Bool.true_and]; exact Ev.now _
   ·simp only [decide_eq_true a1, decide_eq_false a2, if_true, if_neg a2, Bool.true_and, Bool.false_and]; exact Ev.now _
  ·simp only [decide_eq_false a1, Bool.false_and, Bool.false_eq_true, if_false]; exact Ev.now _
 ·simp only [if_neg c1]
  by_cases c2 : t.f0 = 2
  ·simp only [if_pos c2]
   refine Ev.bind hn ?_
   cases nameB t.f1
   ·simp only [Bool.false_and, Bool.false_eq_true, if_false]; exact Ev.now _
   ·by_cases a2 : t.f2 = 0
    ·simp only [if_true, a2, Bool.true_and]; exact Ev.now _
    ·simp only [decide_eq_false a2, if_true, if_neg a2, Bool.true_and, Bool.false_and]; exact Ev.now _
  ·simp only [if_neg c2]
   by_cases c3 : t.f0 = 3
   ·simp only [if_pos c3]
    by_cases a1 : -999999999 ≤ t.f2 ∧ t.f2 ≤ 999999999
    ·by_cases a2 : t.f1.toList = []
     ·simp only [decide_eq_true a1, if_true, a2, Bool.true_and]; exact Ev.now _
     ·simp only [decide_eq_true a1, decide_eq_false a2, if_true, if_neg a2, Bool.true_and, Bool.false_and]; exact Ev.now _
    ·simp only [decide_eq_false a1, Bool.false_and, Bool.false_eq_true, if_false]; exact Ev.now _
   ·simp only [if_neg c3]
    by_cases c4 : t.f0 = 4
    ·simp only [if_pos c4]
     refine Ev.bind hn ?_
     cases nameB t.f1
     ·simp only [Bool.false_and, Bool.false_eq_true, if_false]; exact Ev.now _
     ·by_cases a2 : t.f2 = 0
      ·simp only [if_true, a2, Bool.true_and]; exact Ev.now _
      ·simp only [decide_eq_false a2, if_true, if_neg a2, Bool.true_and, Bool.false_and]; exact Ev.now _
    ·simp only [if_neg c4]; exact Ev.now _
mutual
def nm29 : S29 → Prop
 | ⟨_, n, _, ks⟩ => n.size ≤ 1048576 ∧ nms29 ks
def nms29 : List S29 → Prop
 | [] => True
 | t :: ts => nm29 t ∧ nms29 ts
end
theorem nm29_eq (t : S29) : nm29 t ↔ t.f1.size ≤ 1048576 ∧ nms29 t.f3 := by cases t; rw [nm29]
theorem nms29_mem {ts : List S29} {t : S29} (h : t ∈ ts) (ho : nms29 ts) : nm29 t := by
 induction ts with
 | nil => simp at h
 | cons a l ih =>
  rw [nms29] at ho
  rcases List.mem_cons.1 h with rfl | h
  ·exact ho.1
  ·exact ih h ho.2
mutual
def rt29 : S29 → Int → Bool
 | ⟨a, n, b, ks⟩, deep => decide (deep ≤ 40) && (oneB ⟨a, n, b, ks⟩ && rts29 ks (deep + 1))
def rts29 : List S29 → Int → Bool
 | [], _ => true
 | t :: ts, deep => rt29 t deep && rts29 ts deep
end
theorem rt29_eq (t : S29) (d : Int) : rt29 t d = (decide (d ≤ 40) && (oneB t && rts29 t.f3 (d + 1))) := by cases t; rw [rt29]
theorem rightS_ev (q0 : Int) (q1 : ByteArray) (q2 : Int) (deep : Int) (hdp : 0 ≤ deep ∧ deep ≤ 40) (xs : List S29) (hlen : xs.length ≤ 1048576)
  (IH : ∀ x ∈ xs, Ev (fun k => spec_l03Right.f k x.f0 x.f1 x.f2 x.f3 (deep + 1)) (rt29 x (deep + 1))) (d : Nat) :
  ∀ i : Nat, i ≤ xs.length → xs.length - i = d → Ev (fun k => spec_l03Right.l0 k deep i q0 q1 q2 xs) (rts29 (xs.drop i) (deep + 1)) := by
 induction d with
 | zero =>
  intro i hi hd
  refine Ev.step (f := fun _ => some true) (fun k => ?_) ?_
  ·simp only [spec_l03Right.l0]; rw [if_neg (by omega)]
  ·rw [List.drop_eq_nil_of_le (by omega), rts29]; exact Ev.now _
 | succ d ih =>
  intro i hi hd
  have hlt : i < xs.length := by omega
  refine Ev.step (f := fun k => (spec_l03Right.f k xs[i].f0 xs[i].f1 xs[i].f2 xs[i].f3 (deep + 1)).bind fun t => if t = true then spec_l03Right.l0 k deep ((i + 1 : Nat) : Int) q0 q1 q2 xs else some false) (fun k => ?_) ?_
  ·simp only [spec_l03Right.l0]
   rw [if_pos (by omega), if_pos (by omega), rd29_at xs i hlt, next_i i _ hlt hlen, t_wrap (i := deep + 1) (by omega) (by omega)]
  ·refine Ev.bind (IH xs[i] (List.getElem_mem hlt)) ?_
   rw [List.drop_eq_getElem_cons hlt, rts29]
   cases rt29 xs[i] (deep + 1)
   ·rw [Bool.false_and]; exact Ev.congr (fun k => if_neg (by simp)) (Ev.now _)
   ·rw [Bool.true_and]; exact Ev.congr (fun k => if_pos rfl) (ih (i + 1) (by omega) (by omega))
theorem right_ev (n : Nat) : ∀ (t : S29), ht29 t ≤ n → cn29 t ≤ 1048577 → nm29 t → ∀ deep : Int, 0 ≤ deep → deep ≤ 100 → Ev (fun k => spec_l03Right.f k t.f0 t.f1 t.f2 t.f3 deep) (rt29 t deep) := by
 induction n with
 | zero => intro t h; rw [ht29_eq] at h; omega
 | succ n ih =>
  intro t h hc hnm deep h0 h1
  rw [ht29_eq] at h
  rw [cn29_eq] at hc
  obtain ⟨n1, n2⟩ := (nm29_eq t).1 hnm
  rw [rt29_eq]
  by_cases cd : deep > 40
  ·refine Ev.step (f := fun k => spec_l03Right.j0 k deep true t.f0 t.f1 t.f2 t.f3) (fun k => by simp only [spec_l03Right.f, if_pos cd]) ?_
   refine Ev.step (f := fun _ => some false) (fun k => by simp only [spec_l03Right.j0, if_true]) ?_
   rw [decide_eq_false (by omega), Bool.false_and]; exact Ev.now _
  ·rw [decide_eq_true (by omega), Bool.true_and]
   refine Ev.step (f := fun k => (spec_l03One.f k t.f0 t.f1 t.f2 t.f3).bind fun t169 => spec_l03Right.j0 k deep (!t169) t.f0 t.f1 t.f2 t.f3) (fun k => by simp only [spec_l03Right.f, if_neg cd]) ?_
   refine Ev.bind (f := fun k t169 => spec_l03Right.j0 k deep (!t169) t.f0 t.f1 t.f2 t.f3) (one_spec t n1) ?_
   cases oneB t
   ·refine Ev.step (f := fun _ => some false) (fun k => by simp only [spec_l03Right.j0, Bool.not_false, if_true]) ?_
    rw [Bool.false_and]; exact Ev.now _
   ·refine Ev.step (f := fun k => spec_l03Right.l0 k deep 0 t.f0 t.f1 t.f2 t.f3) (fun k => by simp only [spec_l03Right.j0, Bool.not_true, Bool.false_eq_true, if_false]) ?_
    rw [Bool.true_and]
    have := rightS_ev t.f0 t.f1 t.f2 deep ⟨h0, by omega⟩ t.f3 (by have := cns29_len t.f3; omega) (fun x hx => ih x (by have := hts29_mem hx; omega) (by have := cns29_mem hx; omega) (nms29_mem hx n2) (deep + 1) (by omega) (by omega)) t.f3.length 0 (by omega) (by omega)
    rw [List.drop_zero] at this; exact this
theorem spec_ok_ev (t : S29) (hc : cn29 t ≤ 1048577) (hnm : nm29 t) : Ev (fun k => spec_TermOk.f k t.f0 t.f1 t.f2 t.f3) (decide (cn29 t ≤ 400) && rt29 t 1) := by
 unfold spec_TermOk.f
 refine Ev.bind (f := fun k t173 => if t173 ≥ 0 then ((spec_l03Right.f k t.f0 t.f1 t.f2 t.f3 1).bind fun t174 => some t174) else some false) (count_ev (ht29 t) t (Nat.le_refl _) hc 400 (by omega) (by omega)) ?_
 unfold roomr
 by_cases c1 : cn29 t ≤ 400
 ·rw [if_pos (by omega), decide_eq_true c1, Bool.true_and]
  refine Ev.congr (fun k => if_pos (by omega)) ?_
  exact Ev.bind (f := fun _ t174 => some t174) (right_ev (ht29 t) t (Nat.le_refl _) hc hnm 1 (by omega) (by omega)) (Ev.now _)
 ·rw [if_neg (by omega), decide_eq_false c1, Bool.false_and]
  exact Ev.congr (fun k => if_neg (by omega)) (Ev.now _)
def szd (b : Bool) (c : Nat) : Int := if b = true ∧ c ≤ 400 then (c : Int) else 401
theorem szd_range (b : Bool) (c : Nat) : 0 ≤ szd b c ∧ szd b c ≤ 401 := by unfold szd; split <;> omega
theorem sizedS_ev (deep : Int) (hdp : 0 ≤ deep ∧ deep ≤ 40) (xs : List S29) (hlen : xs.length ≤ 1048576)
  (IH : ∀ x ∈ xs, Ev (fun k => impl_sized.f k x.f0 x.f1 x.f2 x.f3 (deep + 1)) (szd (rt29 x (deep + 1)) (cn29 x))) (d : Nat) :
  ∀ i a : Nat, i ≤ xs.length → xs.length - i = d → a ≤ 400 → Ev (fun k => impl_sized.l0 k deep (a : Int) xs (xs.length : Int) i) (szd (rts29 (xs.drop i) (deep + 1)) (a + cns29 (xs.drop i))) := by
 induction d with
 | zero =>
  intro i a hi hd ha
  refine Ev.step (f := fun _ => some (a : Int)) (fun k => ?_) ?_
  ·simp only [impl_sized.l0]; rw [if_neg (by omega)]
  ·rw [List.drop_eq_nil_of_le (by omega), rts29, cns29]
   unfold szd; rw [if_pos ⟨rfl, by omega⟩]; exact Ev.now _
 | succ d ih =>
  intro i a hi hd ha
  have hlt : i < xs.length := by omega
  refine Ev.step (f := fun k => (impl_sized.f k xs[i].f0 xs[i].f1 xs[i].f2 xs[i].f3 (deep + 1)).bind fun t => if wrap64 ((a : Int) + t) > 400 then some 401 else impl_sized.l0 k deep (wrap64 ((a : Int) + t)) xs (xs.length : Int) ((i + 1 : Nat) : Int)) (fun k => ?_) ?_
  ·simp only [impl_sized.l0]
   rw [if_pos (by omega), if_pos (by omega), if_pos (by omega), rd29_at xs i hlt, next_i i _ hlt hlen, t_wrap (i := deep + 1) (by omega) (by omega)]
  ·refine Ev.bind (f := fun k t => if wrap64 ((a : Int) + t) > 400 then some 401 else impl_sized.l0 k deep (wrap64 ((a : Int) + t)) xs (xs.length : Int) ((i + 1 : Nat) : Int)) (IH xs[i] (List.getElem_mem hlt)) ?_
   rw [List.drop_eq_getElem_cons hlt, cns29, rts29]
   by_cases h1 : rt29 xs[i] (deep + 1) = true ∧ cn29 xs[i] ≤ 400
   ·have e0 : szd (rt29 xs[i] (deep + 1)) (cn29 xs[i]) = cn29 xs[i] := by unfold szd; rw [if_pos h1]
    have e : wrap64 ((a : Int) + (cn29 xs[i] : Int)) = ((a + cn29 xs[i] : Nat) : Int) := by rw [t_wrap (by omega) (by omega)]; omega
    rw [e0, e, h1.1, Bool.true_and]
    clear e e0
    by_cases h2 : a + cn29 xs[i] ≤ 400
    ·have := ih (i + 1) (a + cn29 xs[i]) (by omega) (by omega) h2
     rw [show a + (cn29 xs[i] + cns29 (xs.drop (i + 1))) = a + cn29 xs[i] + cns29 (xs.drop (i + 1)) by omega]
     exact Ev.congr (fun k => if_neg (by omega)) this
    ·unfold szd
     rw [if_neg (by intro h; omega)]
     exact Ev.congr (fun k => if_pos (by omega)) (Ev.now _)
   ·have e0 : szd (rt29 xs[i] (deep + 1)) (cn29 xs[i]) = 401 := by unfold szd; rw [if_neg h1]
    have e2 : szd (rt29 xs[i] (deep + 1) && rts29 (xs.drop (i + 1)) (deep + 1)) (a + (cn29 xs[i] + cns29 (xs.drop (i + 1)))) = 401 := by
     unfold szd
     rw [if_neg]
     intro h
     rw [Bool.and_eq_true] at h
     exact h1 ⟨h.1.1, by omega⟩
    rw [e0, e2]
    exact Ev.congr (fun k => if_pos (by rw [t_wrap (by omega) (by omega)]; omega)) (Ev.now _)
theorem sized_ev (n : Nat) : ∀ (t : S29), ht29 t ≤ n → cn29 t ≤ 1048577 → nm29 t → ∀ deep : Int, 0 ≤ deep → deep ≤ 100 → Ev (fun k => impl_sized.f k t.f0 t.f1 t.f2 t.f3 deep) (szd (rt29 t deep) (cn29 t)) := by
 induction n with
 | zero => intro t h; rw [ht29_eq] at h; omega
 | succ n ih =>
  intro t h hc hnm deep h0 h1
  rw [ht29_eq] at h
  rw [cn29_eq] at hc
  obtain ⟨n1, n2⟩ := (nm29_eq t).1 hnm
  have hname := name_impl t.f1 n1
  rw [rt29_eq]
  by_cases cd : deep > 40
  ·refine Ev.step (f := fun _ => some 401) (fun k => by simp only [impl_sized.f, if_pos cd]) ?_
   rw [decide_eq_false (by omega), Bool.false_and]; exact Ev.now _
  ·rw [decide_eq_true (by omega), Bool.true_and]
   have hkids : oneB t = true → Ev (fun k => impl_sized.j0 k deep t.f0 t.f1 t.f2 t.f3) (szd (oneB t && rts29 t.f3 (deep + 1)) (cn29 t)) := by
    intro hone
    refine Ev.step (f := fun k => impl_sized.l0 k deep 1 t.f3 (t.f3.length : Int) 0) (fun k => by simp only [impl_sized.j0]) ?_
    have := sizedS_ev deep ⟨h0, by omega⟩ t.f3 (by have := cns29_len t.f3; omega) (fun x hx => ih x (by have := hts29_mem hx; omega) (by have := cns29_mem hx; omega) (nms29_mem hx n2) (deep + 1) (by omega) (by omega)) t.f3.length 0 1 (by omega) (by omega) (by omega)
    rw [List.drop_zero] at this
    rw [hone, Bool.true_and, cn29_eq, Nat.add_comm]; exact this
   have hbad : oneB t = false → szd (oneB t && rts29 t.f3 (deep + 1)) (cn29 t) = 401 := by
    intro hone; rw [hone, Bool.false_and]; unfold szd; rw [if_neg (by simp)]
   by_cases c1 : t.f0 = 1
   ·have hone : oneB t = (decide (0 ≤ t.f2 ∧ t.f2 ≤ 99999) && decide (t.f1.toList = []) && decide (t.f3.length = 0)) := by unfold oneB; rw [if_pos c1]
    refine Ev.step (f := fun k => if t.f1.toList = ([] : List UInt8) then (if decide (0 ≤ t.f2 ∧ t.f2 ≤ 99999) = true then (if (t.f3.length : Int) > 0 then some 401 else impl_sized.j0 k deep t.f0 t.f1 t.f2 t.f3) else some 401) else some 401) (fun k => by simp only [impl_sized.f, if_neg cd, if_pos c1, in_impl, Option.bind_some]) ?_
    by_cases a1 : t.f1.toList = []
    ·by_cases a2 : 0 ≤ t.f2 ∧ t.f2 ≤ 99999
     ·by_cases a3 : (t.f3.length : Int) > 0
      ·rw [hbad (by rw [hone, decide_eq_false (show ¬ t.f3.length = 0 by omega), Bool.and_false])]
       simp only [if_pos a1, decide_eq_true a2, if_true, if_pos a3]; exact Ev.now _
      ·have := hkids (by rw [hone, decide_eq_true a1, decide_eq_true a2, decide_eq_true (show t.f3.length = 0 by omega)]; rfl)
       simp only [if_pos a1, decide_eq_true a2, if_true, if_neg a3]; exact this
     ·rw [hbad (by rw [hone, decide_eq_false a2]; rfl)]
      simp only [if_pos a1, decide_eq_false a2, Bool.false_eq_true, if_false]; exact Ev.now _
    ·rw [hbad (by rw [hone, decide_eq_false a1, Bool.and_false]; rfl)]
     simp only [if_neg a1]; exact Ev.now _
   by_cases c2 : t.f0 = 2
   ·have hone : oneB t = (nameB t.f1 && decide (t.f2 = 0) && decide (t.f3.length = 0)) := by unfold oneB; rw [if_neg c1, if_pos c2]
    refine Ev.step (f := fun k => (impl_nameOk.f k t.f1).bind fun t179 => if t179 = true then (if t.f2 = 0 then (if (t.f3.length : Int) > 0 then some 401 else impl_sized.j0 k deep t.f0 t.f1 t.f2 t.f3) else some 401) else some 401) (fun k => by simp only [impl_sized.f, if_neg cd, if_neg c1, if_pos c2]) ?_
    refine Ev.bind (f := fun k t179 => if t179 = true then (if t.f2 = 0 then (if (t.f3.length : Int) > 0 then some 401 else impl_sized.j0 k deep t.f0 t.f1 t.f2 t.f3) else some 401) else some 401) hname ?_
    cases a1 : nameB t.f1 with
    | false =>
     rw [hbad (by rw [hone, a1]; rfl)]
     simp only [Bool.false_eq_true, if_false]; exact Ev.now _
    | true =>
     by_cases a2 : t.f2 = 0
     ·by_cases a3 : (t.f3.length : Int) > 0
      ·rw [hbad (by rw [hone, decide_eq_false (show ¬ t.f3.length = 0 by omega), Bool.and_false])]
       simp only [if_true, if_pos a2, if_pos a3]; exact Ev.now _
      ·have := hkids (by rw [hone, a1, decide_eq_true a2, decide_eq_true (show t.f3.length = 0 by omega)]; rfl)
       simp only [if_true, if_pos a2, if_neg a3]; exact this
     ·rw [hbad (by rw [hone, decide_eq_false a2, Bool.and_false]; rfl)]
      simp only [if_true, if_neg a2]; exact Ev.now _
   by_cases c3 : t.f0 = 3
   ·have hone : oneB t = (decide (-999999999 ≤ t.f2 ∧ t.f2 ≤ 999999999) && decide (t.f1.toList = []) && decide (t.f3.length = 0)) := by unfold oneB; rw [if_neg c1, if_neg c2, if_pos c3]
    refine Ev.step (f := fun k => if t.f1.toList = ([] : List UInt8) then (if decide (-999999999 ≤ t.f2 ∧ t.f2 ≤ 999999999) = true then (if (t.f3.length : Int) > 0 then some 401 else impl_sized.j0 k deep t.f0 t.f1 t.f2 t.f3) else some 401) else some 401) (fun k => by simp only [impl_sized.f, if_neg cd, if_neg c1, if_neg c2, if_pos c3, in_impl, Option.bind_some]) ?_
    by_cases a1 : t.f1.toList = []
    ·by_cases a2 : -999999999 ≤ t.f2 ∧ t.f2 ≤ 999999999
     ·by_cases a3 : (t.f3.length : Int) > 0
      ·rw [hbad (by rw [hone, decide_eq_false (show ¬ t.f3.length = 0 by omega), Bool.and_false])]
       simp only [if_pos a1, decide_eq_true a2, if_true, if_pos a3]; exact Ev.now _
      ·have := hkids (by rw [hone, decide_eq_true a1, decide_eq_true a2, decide_eq_true (show t.f3.length = 0 by omega)]; rfl)
       simp only [if_pos a1, decide_eq_true a2, if_true, if_neg a3]; exact this
     ·rw [hbad (by rw [hone, decide_eq_false a2]; rfl)]
      simp only [if_pos a1, decide_eq_false a2, Bool.false_eq_true, if_false]; exact Ev.now _
    ·rw [hbad (by rw [hone, decide_eq_false a1, Bool.and_false]; rfl)]
     simp only [if_neg a1]; exact Ev.now _
   by_cases c4 : t.f0 = 4
   ·have hone : oneB t = (nameB t.f1 && decide (t.f2 = 0) && decide (1 ≤ (t.f3.length : Int) ∧ (t.f3.length : Int) ≤ 5)) := by unfold oneB; rw [if_neg c1, if_neg c2, if_neg c3, if_pos c4]
    refine Ev.step (f := fun k => (impl_nameOk.f k t.f1).bind fun t181 => if t181 = true then (if t.f2 = 0 then (if decide (1 ≤ (t.f3.length : Int) ∧ (t.f3.length : Int) ≤ 5) = true then impl_sized.j0 k deep t.f0 t.f1 t.f2 t.f3 else some 401) else some 401) else some 401) (fun k => by simp only [impl_sized.f, if_neg cd, if_neg c1, if_neg c2, if_neg c3, if_pos c4, in_impl, Option.bind_some]) ?_
    refine Ev.bind (f := fun k t181 => if t181 = true then (if t.f2 = 0 then (if decide (1 ≤ (t.f3.length : Int) ∧ (t.f3.length : Int) ≤ 5) = true then impl_sized.j0 k deep t.f0 t.f1 t.f2 t.f3 else some 401) else some 401) else some 401) hname ?_
    cases a1 : nameB t.f1 with
    | false =>
     rw [hbad (by rw [hone, a1]; rfl)]
     simp only [Bool.false_eq_true, if_false]; exact Ev.now _
    | true =>
     by_cases a2 : t.f2 = 0
     ·by_cases a3 : 1 ≤ (t.f3.length : Int) ∧ (t.f3.length : Int) ≤ 5
      ·have := hkids (by rw [hone, a1, decide_eq_true a2, decide_eq_true a3]; rfl)
       simp only [if_true, if_pos a2, decide_eq_true a3]; exact this
      ·rw [hbad (by rw [hone, decide_eq_false a3, Bool.and_false])]
       simp only [if_true, if_pos a2, decide_eq_false a3, Bool.false_eq_true, if_false]; exact Ev.now _
     ·rw [hbad (by rw [hone, decide_eq_false a2, Bool.and_false]; rfl)]
      simp only [if_true, if_neg a2]; exact Ev.now _
   ·refine Ev.step (f := fun _ => some 401) (fun k => by simp only [impl_sized.f, if_neg cd, if_neg c1, if_neg c2, if_neg c3, if_neg c4]) ?_
    rw [hbad (by unfold oneB; rw [if_neg c1, if_neg c2, if_neg c3, if_neg c4])]
    exact Ev.now _
theorem impl_ok_ev (t : S29) (hc : cn29 t ≤ 1048577) (hnm : nm29 t) : Ev (fun k => impl_TermOk.f k t.f0 t.f1 t.f2 t.f3) (decide (cn29 t ≤ 400) && rt29 t 1) := by
 unfold impl_TermOk.f
 refine Ev.bind (f := fun _ t187 => some (decide (t187 ≤ 400))) (sized_ev (ht29 t) t (Nat.le_refl _) hc hnm 1 (by omega) (by omega)) ?_
 have : decide (szd (rt29 t 1) (cn29 t) ≤ 400) = (decide (cn29 t ≤ 400) && rt29 t 1) := by
  unfold szd
  by_cases h1 : rt29 t 1 = true
  ·by_cases h2 : cn29 t ≤ 400
   ·rw [if_pos ⟨h1, h2⟩, h1, decide_eq_true h2, decide_eq_true (by omega)]; rfl
   ·rw [if_neg (fun h => h2 h.2), decide_eq_false h2]; rfl
  ·have h3 : rt29 t 1 = false := by simpa using h1
   rw [if_neg (fun h => h1 h.1), h3, Bool.and_false]; rfl
 rw [this]; exact Ev.now _
theorem nm_to (n : Nat) : (∀ t : S24, ht24 t ≤ n → wt24 t ≤ 1048576 → nm29 (to29 t)) := by
 induction n with
 | zero => intro t h; rw [ht24_eq] at h; omega
 | succ n ih =>
  intro t h hw
  rw [ht24_eq] at h
  rw [wt24_eq] at hw
  rw [to29_eq, nm29]
  refine ⟨by omega, ?_⟩
  have : ∀ ts : List S24, hts24 ts ≤ n → wts24 ts ≤ 1048576 → nms29 (tos29 ts) := by
   intro ts
   induction ts with
   | nil => intros; rw [tos29, nms29]; trivial
   | cons a l ihl => intro h1 h2; rw [hts24] at h1; rw [wts24] at h2; rw [tos29, nms29]; exact ⟨ih a (by omega) (by omega), ihl (by omega) (by omega)⟩
  exact this _ (by omega) (by omega)
def ctl : List (List UInt8) := [([116, 114, 117, 101, 47, 48] : List UInt8), ([102, 97, 105, 108, 47, 48] : List UInt8), ([33, 47, 48] : List UInt8), ([44, 47, 50] : List UInt8), ([59, 47, 50] : List UInt8), ([45, 62, 47, 50] : List UInt8), ([92, 43, 47, 49] : List UInt8), ([99, 97, 108, 108, 47, 49] : List UInt8), ([99, 97, 108, 108, 47, 50] : List UInt8), ([99, 97, 108, 108, 47, 51] : List UInt8), ([99, 97, 116, 99, 104, 47, 51] : List UInt8), ([116, 104, 114, 111, 119, 47, 49] : List UInt8), ([61, 47, 50] : List UInt8), ([92, 61, 47, 50] : List UInt8), ([61, 61, 47, 50] : List UInt8), ([105, 115, 47, 50] : List UInt8), ([60, 47, 50] : List UInt8), ([61, 58, 61, 47, 50] : List UInt8), ([118, 97, 114, 47, 49] : List UInt8), ([97, 116, 111, 109, 47, 49] : List UInt8), ([119, 114, 105, 116, 101, 47, 49] : List UInt8), ([97, 115, 115, 101, 114, 116, 122, 47, 49] : List UInt8), ([114, 101, 116, 114, 97, 99, 116, 47, 49] : List UInt8), ([58, 45, 47, 50] : List UInt8), ([58, 45, 47, 49] : List UInt8), ([45, 45, 62, 47, 50] : List UInt8)]
def ctlB : List ByteArray := [(⟨#[116, 114, 117, 101, 47, 48]⟩ : ByteArray), (⟨#[102, 97, 105, 108, 47, 48]⟩ : ByteArray), (⟨#[33, 47, 48]⟩ : ByteArray), (⟨#[44, 47, 50]⟩ : ByteArray), (⟨#[59, 47, 50]⟩ : ByteArray), (⟨#[45, 62, 47, 50]⟩ : ByteArray), (⟨#[92, 43, 47, 49]⟩ : ByteArray), (⟨#[99, 97, 108, 108, 47, 49]⟩ : ByteArray), (⟨#[99, 97, 108, 108, 47, 50]⟩ : ByteArray), (⟨#[99, 97, 108, 108, 47, 51]⟩ : ByteArray), (⟨#[99, 97, 116, 99, 104, 47, 51]⟩ : ByteArray), (⟨#[116, 104, 114, 111, 119, 47, 49]⟩ : ByteArray), (⟨#[61, 47, 50]⟩ : ByteArray), (⟨#[92, 61, 47, 50]⟩ : ByteArray), (⟨#[61, 61, 47, 50]⟩ : ByteArray), (⟨#[105, 115, 47, 50]⟩ : ByteArray), (⟨#[60, 47, 50]⟩ : ByteArray), (⟨#[61, 58, 61, 47, 50]⟩ : ByteArray), (⟨#[118, 97, 114, 47, 49]⟩ : ByteArray), (⟨#[97, 116, 111, 109, 47, 49]⟩ : ByteArray), (⟨#[119, 114, 105, 116, 101, 47, 49]⟩ : ByteArray), (⟨#[97, 115, 115, 101, 114, 116, 122, 47, 49]⟩ : ByteArray), (⟨#[114, 101, 116, 114, 97, 99, 116, 47, 49]⟩ : ByteArray), (⟨#[58, 45, 47, 50]⟩ : ByteArray), (⟨#[58, 45, 47, 49]⟩ : ByteArray), (⟨#[45, 45, 62, 47, 50]⟩ : ByteArray)]
theorem spec_control (k : Nat) (s : ByteArray) (hk : 1 ≤ k) : spec_Control.f k s = some (ctl.any fun y => s.toList == y) := by
 obtain ⟨k, rfl⟩ : ∃ m, k = m + 1 := ⟨k - 1, by omega⟩
 simp only [spec_Control.f, spec_Control.j0]
 generalize s.toList = x
 by_cases h : x = ([116, 114, 117, 101, 47, 48] : List UInt8)
 ·subst h; rfl
 have e0 : (x == ([116, 114, 117, 101, 47, 48] : List UInt8)) = false := by simpa using h
 have n0 := h
 clear h
 by_cases h : x = ([102, 97, 105, 108, 47, 48] : List UInt8)
 ·subst h; rfl
 have e1 : (x == ([102, 97, 105, 108, 47, 48] : List UInt8)) = false := by simpa using h
 have n1 := h
 clear h
 by_cases h : x = ([33, 47, 48] : List UInt8)
 ·subst h; rfl
 have e2 : (x == ([33, 47, 48] : List UInt8)) = false := by simpa using h
 have n2 := h
 clear h
 by_cases h : x = ([44, 47, 50] : List UInt8)
 ·subst h; rfl
 have e3 : (x == ([44, 47, 50] : List UInt8)) = false := by simpa using h
 have n3 := h
 clear h
 by_cases h : x = ([59, 47, 50] : List UInt8)
 ·subst h; rfl
 have e4 : (x == ([59, 47, 50] : List UInt8)) = false := by simpa using h
 have n4 := h
 clear h
 by_cases h : x = ([45, 62, 47, 50] : List UInt8)
 ·subst h; rfl
 have e5 : (x == ([45, 62, 47, 50] : List UInt8)) = false := by simpa using h
 have n5 := h
 clear h
 by_cases h : x = ([92, 43, 47, 49] : List UInt8)
 ·subst h; rfl
 have e6 : (x == ([92, 43, 47, 49] : List UInt8)) = false := by simpa using h
 have n6 := h
 clear h
 by_cases h : x = ([99, 97, 108, 108, 47, 49] : List UInt8)
 ·subst h; rfl
 have e7 : (x == ([99, 97, 108, 108, 47, 49] : List UInt8)) = false := by simpa using h
 have n7 := h
 clear h
 by_cases h : x = ([99, 97, 108, 108, 47, 50] : List UInt8)
 ·subst h; rfl
 have e8 : (x == ([99, 97, 108, 108, 47, 50] : List UInt8)) = false := by simpa using h
 have n8 := h
 clear h
 by_cases h : x = ([99, 97, 108, 108, 47, 51] : List UInt8)
 ·subst h; rfl
 have e9 : (x == ([99, 97, 108, 108, 47, 51] : List UInt8)) = false := by simpa using h
 have n9 := h
 clear h
 by_cases h : x = ([99, 97, 116, 99, 104, 47, 51] : List UInt8)
 ·subst h; rfl
 have e10 : (x == ([99, 97, 116, 99, 104, 47, 51] : List UInt8)) = false := by simpa using h
 have n10 := h
 clear h
 by_cases h : x = ([116, 104, 114, 111, 119, 47, 49] : List UInt8)
 ·subst h; rfl
 have e11 : (x == ([116, 104, 114, 111, 119, 47, 49] : List UInt8)) = false := by simpa using h
 have n11 := h
 clear h
 by_cases h : x = ([61, 47, 50] : List UInt8)
 ·subst h; rfl
 have e12 : (x == ([61, 47, 50] : List UInt8)) = false := by simpa using h
 have n12 := h
 clear h
 by_cases h : x = ([92, 61, 47, 50] : List UInt8)
 ·subst h; rfl
 have e13 : (x == ([92, 61, 47, 50] : List UInt8)) = false := by simpa using h
 have n13 := h
 clear h
 by_cases h : x = ([61, 61, 47, 50] : List UInt8)
 ·subst h; rfl
 have e14 : (x == ([61, 61, 47, 50] : List UInt8)) = false := by simpa using h
 have n14 := h
 clear h
 by_cases h : x = ([105, 115, 47, 50] : List UInt8)
 ·subst h; rfl
 have e15 : (x == ([105, 115, 47, 50] : List UInt8)) = false := by simpa using h
 have n15 := h
 clear h
 by_cases h : x = ([60, 47, 50] : List UInt8)
 ·subst h; rfl
 have e16 : (x == ([60, 47, 50] : List UInt8)) = false := by simpa using h
 have n16 := h
 clear h
 by_cases h : x = ([61, 58, 61, 47, 50] : List UInt8)
 ·subst h; rfl
 have e17 : (x == ([61, 58, 61, 47, 50] : List UInt8)) = false := by simpa using h
 have n17 := h
 clear h
 by_cases h : x = ([118, 97, 114, 47, 49] : List UInt8)
 ·subst h; rfl
 have e18 : (x == ([118, 97, 114, 47, 49] : List UInt8)) = false := by simpa using h
 have n18 := h
 clear h
 by_cases h : x = ([97, 116, 111, 109, 47, 49] : List UInt8)
 ·subst h; rfl
 have e19 : (x == ([97, 116, 111, 109, 47, 49] : List UInt8)) = false := by simpa using h
 have n19 := h
 clear h
 by_cases h : x = ([119, 114, 105, 116, 101, 47, 49] : List UInt8)
 ·subst h; rfl
 have e20 : (x == ([119, 114, 105, 116, 101, 47, 49] : List UInt8)) = false := by simpa using h
 have n20 := h
 clear h
 by_cases h : x = ([97, 115, 115, 101, 114, 116, 122, 47, 49] : List UInt8)
 ·subst h; rfl
 have e21 : (x == ([97, 115, 115, 101, 114, 116, 122, 47, 49] : List UInt8)) = false := by simpa using h
 have n21 := h
 clear h
 by_cases h : x = ([114, 101, 116, 114, 97, 99, 116, 47, 49] : List UInt8)
 ·subst h; rfl
 have e22 : (x == ([114, 101, 116, 114, 97, 99, 116, 47, 49] : List UInt8)) = false := by simpa using h
 have n22 := h
 clear h
 by_cases h : x = ([58, 45, 47, 50] : List UInt8)
 ·subst h; rfl
 have e23 : (x == ([58, 45, 47, 50] : List UInt8)) = false := by simpa using h
 have n23 := h
 clear h
 by_cases h : x = ([58, 45, 47, 49] : List UInt8)
 ·subst h; rfl
 have e24 : (x == ([58, 45, 47, 49] : List UInt8)) = false := by simpa using h
 have n24 := h
 clear h
 by_cases h : x = ([45, 45, 62, 47, 50] : List UInt8)
 ·subst h; rfl
 have e25 : (x == ([45, 45, 62, 47, 50] : List UInt8)) = false := by simpa using h
 have n25 := h
 clear h
 simp only [ctl, List.any_cons, List.any_nil, n0, n1, n2, n3, n4, n5, n6, n7, n8, n9, n10, n12, n13, n14, n15, n16, n17, n18, n19, n20, n21, n22, n23, n24, n25, e0, e1, e2, e3, e4, e5, e6, e7, e8, e9, e10, e11, e12, e13, e14, e15, e16, e17, e18, e19, e20, e21, e22, e23, e24, e25, if_false, Bool.or_false, Bool.false_eq_true]
theorem si_wrap {i : Int} (h0 : -4611686018427387904 ≤ i) (h1 : i ≤ 4611686018427387904) : wrap64 i = i := by
 unfold wrap64; omega
theorem str_index (xs : List ByteArray) (v : ByteArray) (hx : xs.length ≤ 4611686018427387000) (d : Nat) : ∀ (k i : Nat), i ≤ xs.length → xs.length - i = d → d < k →
  ∃ r, slices_Index_string_string.l0 k xs v xs.length i = some r ∧ decide (r ≥ 0) = (xs.drop i).any fun y => v.toList == y.toList := by
 induction d with
 | zero =>
  intro k i hi hd hk
  obtain ⟨k, rfl⟩ : ∃ m, k = m + 1 := ⟨k - 1, by omega⟩
  refine ⟨-1, ?_, ?_⟩
  ·simp only [slices_Index_string_string.l0]; rw [if_neg (by omega)]
  ·rw [List.drop_eq_nil_of_le (by omega)]; rfl
 | succ d ih =>
  intro k i hi hd hk
  obtain ⟨k, rfl⟩ : ∃ m, k = m + 1 := ⟨k - 1, by omega⟩
  have hlt : i < xs.length := by omega
  have e : rdOf ByteArray.empty xs (i : Int) = xs[i] := by simp [rdOf, List.getD, hlt]
  rw [List.drop_eq_getElem_cons hlt, List.any_cons]
  simp only [slices_Index_string_string.l0]
  rw [if_pos (by omega), if_pos (by omega), if_pos (by omega), e]
  by_cases h : v.toList = (xs[i]).toList
  ·rw [if_pos h]; exact ⟨i, rfl, by rw [h]; simp⟩
  ·rw [if_neg h]
   obtain ⟨r, hr, h2⟩ := ih k (i + 1) (by omega) (by omega) (by omega)
   refine ⟨r, ?_, ?_⟩
   ·rw [si_wrap (by omega) (by omega)]; exact hr
   ·rw [h2]; simp [h]
theorem impl_control (k : Nat) (s : ByteArray) (hk : 30 ≤ k) : impl_Control.f k s = some (ctl.any fun y => s.toList == y) := by
 unfold impl_Control.f slices_Contains_string_string.f slices_Index_string_string.f
 obtain ⟨r, hr, h2⟩ := str_index ctlB s (by decide) 26 k 0 (by decide) rfl (by omega)
 rw [show ((0 : Nat) : Int) = 0 from rfl] at hr
 show ((slices_Index_string_string.l0 k ctlB s (ctlB.length : Int) 0).bind fun _ => _).bind (fun _ => _) = _
 rw [hr]
 simp only [Option.bind_some]
 rw [h2]
 simp only [ByteArray.toList_eq, List.drop_zero]
 rfl
def clB (c : S48) : Bool := (decide (cn29 c.f0 ≤ 400) && rt29 c.f0 1) && ((decide (cn29 c.f1 ≤ 400) && rt29 c.f1 1) && (!((pv c.f0).toList == []) && !(ctl.any fun y => (pv c.f0).toList == y)))
def fine48 (c : S48) : Prop := cn29 c.f0 ≤ 1048577 ∧ nm29 c.f0 ∧ cn29 c.f1 ≤ 1048577 ∧ nm29 c.f1 ∧ c.f0.f1.size ≤ 1048576 ∧ c.f0.f3.length ≤ 1048576
theorem spec_head (t : S29) (h1 : t.f1.size ≤ 1048576) (h2 : t.f3.length ≤ 1048576) : Ev (fun k => spec_l08Head.f k t.f0 t.f1 t.f2 t.f3) (!((pv t).toList == []) && !(ctl.any fun y => (pv t).toList == y)) := by
 unfold spec_l08Head.f
 refine Ev.bind (spec_pred t h1 h2) ?_
 by_cases c : (pv t).toList = []
 ·rw [c]
  exact Ev.pos rfl (Ev.now _)
 ·rw [show ((pv t).toList == []) = false from beq_eq_false_iff_ne.2 c]
  refine Ev.neg c ?_
  have hc : Ev (fun k => spec_Control.f k (pv t)) (ctl.any fun y => (pv t).toList == y) := Ev.step (f := fun _ => some (ctl.any fun y => (pv t).toList == y)) (fun k => spec_control (k + 1) (pv t) (by omega)) (Ev.now _)
  exact Ev.bind hc (Ev.now _)
theorem Ev.tt {α : Type} {g f : Nat → Option α} {r : α} (k : Ev g r) : Ev (fun n => if true = true then g n else f n) r := Ev.pos rfl k
theorem Ev.ff {α : Type} {g f : Nat → Option α} {r : α} (k : Ev f r) : Ev (fun n => if false = true then g n else f n) r := Ev.neg (by decide) k
theorem impl_head (t : S29) (h1 : t.f1.size ≤ 1048576) (h2 : t.f3.length ≤ 1048576) : Ev (fun k => @impl_headOk.f i_it k t.f0 t.f1 t.f2 t.f3) (!((pv t).toList == []) && !(ctl.any fun y => (pv t).toList == y)) := by
 have hp : Ev (fun k => @impl_PredOf.f i_it k t.f0 t.f1 t.f2 t.f3) (pv t) := Ev.congr (fun k => impl_pred t h1 h2 k) (Ev.now _)
 unfold impl_headOk.f
 refine Ev.bind hp ?_
 by_cases c : (pv t).toList = []
 ·rw [c]
  exact Ev.pos rfl (Ev.now _)
 ·rw [show ((pv t).toList == []) = false from beq_eq_false_iff_ne.2 c]
  refine Ev.neg c (Ev.bind hp ?_)
  have hc : Ev (fun k => impl_Control.f k (pv t)) (ctl.any fun y => (pv t).toList == y) := Ev.of (fun k => @impl_Control.mono d_sz d_to d_eq i_it (pv t) k) (impl_control 30 (pv t) (by omega))
  exact Ev.bind hc (Ev.now _)
theorem spec_clause (c : S48) (h : fine48 c) : Ev (fun k => spec_l08Clause.f k c.f0.f0 c.f0.f1 c.f0.f2 c.f0.f3 c.f1.f0 c.f1.f1 c.f1.f2 c.f1.f3 c.f2) (clB c) := by
 obtain ⟨a1, a2, a3, a4, a5, a6⟩ := h
 unfold spec_l08Clause.f clB
 refine Ev.bind (spec_ok_ev c.f0 a1 a2) ?_
 cases (decide (cn29 c.f0 ≤ 400) && rt29 c.f0 1) with
 | false => exact Ev.ff (Ev.now _)
 | true =>
  refine Ev.tt (Ev.bind (spec_ok_ev c.f1 a3 a4) ?_)
  cases (decide (cn29 c.f1 ≤ 400) && rt29 c.f1 1) with
  | false => exact Ev.ff (Ev.now _)
  | true => exact Ev.tt (Ev.bind (spec_head c.f0 a5 a6) (Ev.now _))
def dbB (ys : List S48) (o : List ByteArray) : Bool := ys.all clB && (decide (ys.length ≤ 120) && decide (o.length ≤ 40))
theorem dec_nat (a b : Nat) : decide ((a : Int) ≤ (b : Int)) = decide (a ≤ b) := by
 by_cases h : a ≤ b
 ·rw [decide_eq_true h, decide_eq_true (by omega)]
 ·rw [decide_eq_false h, decide_eq_false (by omega)]
theorem spec_db_l (ys : List S48) (o : List ByteArray) (hx : ys.length ≤ 1048576) (hf : ∀ c ∈ ys, fine48 c) (d : Nat) : ∀ i : Nat, i ≤ ys.length → ys.length - i = d → Ev (fun k => spec_DbOk.l0 k i ys o) ((ys.drop i).all clB && (decide (ys.length ≤ 120) && decide (o.length ≤ 40))) := by
 induction d with
 | zero =>
  intro i hi hd
  refine Ev.step (f := fun _ => some (decide (ys.length ≤ 120) && decide (o.length ≤ 40))) (fun k => ?_) ?_
  ·simp only [spec_DbOk.l0]
   rw [if_neg (by omega), show ((40 : Int)) = ((40 : Nat) : Int) from rfl, dec_nat]
   by_cases c : ys.length ≤ 120
   ·rw [if_pos (by omega), decide_eq_true c, Bool.true_and]
   ·rw [if_neg (by omega), decide_eq_false c, Bool.false_and]
  ·rw [List.drop_eq_nil_of_le (by omega), List.all_nil, Bool.true_and]
   exact Ev.now _
 | succ d ih =>
  intro i hi hd
  have hlt : i < ys.length := by omega
  have hn := ih (i + 1) (by omega) (by omega)
  refine Ev.step (f := fun k => (spec_l08Clause.f k ys[i].f0.f0 ys[i].f0.f1 ys[i].f0.f2 ys[i].f0.f3 ys[i].f1.f0 ys[i].f1.f1 ys[i].f1.f2 ys[i].f1.f3 ys[i].f2).bind fun t => if t = true then spec_DbOk.l0 k ((i + 1 : Nat) : Int) ys o else some false) (fun k => ?_) ?_
  ·simp only [spec_DbOk.l0]
   rw [if_pos (by omega), if_pos (by omega), rd48_at ys i hlt, next_i i _ hlt hx]
  ·refine Ev.bind (f := fun k t => if t = true then spec_DbOk.l0 k ((i + 1 : Nat) : Int) ys o else some false) (spec_clause ys[i] (hf _ (List.getElem_mem hlt))) ?_
   rw [List.drop_eq_getElem_cons hlt, List.all_cons]
   cases clB ys[i] with
   | false => exact Ev.ff (Ev.now _)
   | true => rw [Bool.true_and]; exact Ev.tt hn
theorem impl_db_l (ys : List S48) (o : List ByteArray) (hx : ys.length ≤ 1048576) (hf : ∀ c ∈ ys, fine48 c) (d : Nat) : ∀ i : Nat, i ≤ ys.length → ys.length - i = d → Ev (fun k => @impl_DbOk.l0 i_it k ys (ys.length : Int) i ys o) ((ys.drop i).all clB && (decide (ys.length ≤ 120) && decide (o.length ≤ 40))) := by
 induction d with
 | zero =>
  intro i hi hd
  refine Ev.step (f := fun _ => some (decide (ys.length ≤ 120) && decide (o.length ≤ 40))) (fun k => ?_) ?_
  ·simp only [impl_DbOk.l0]
   rw [if_neg (by omega), show ((40 : Int)) = ((40 : Nat) : Int) from rfl, dec_nat]
   by_cases c : ys.length ≤ 120
   ·rw [if_pos (by omega), decide_eq_true c, Bool.true_and]
   ·rw [if_neg (by omega), decide_eq_false c, Bool.false_and]
  ·rw [List.drop_eq_nil_of_le (by omega), List.all_nil, Bool.true_and]
   exact Ev.now _
 | succ d ih =>
  intro i hi hd
  have hlt : i < ys.length := by omega
  have hn := ih (i + 1) (by omega) (by omega)
  obtain ⟨a1, a2, a3, a4, a5, a6⟩ := hf _ (List.getElem_mem hlt)
  refine Ev.step (f := fun k => (impl_TermOk.f k ys[i].f0.f0 ys[i].f0.f1 ys[i].f0.f2 ys[i].f0.f3).bind fun t => if t = true then ((impl_TermOk.f k ys[i].f1.f0 ys[i].f1.f1 ys[i].f1.f2 ys[i].f1.f3).bind fun t => if t = true then ((@impl_headOk.f i_it k ys[i].f0.f0 ys[i].f0.f1 ys[i].f0.f2 ys[i].f0.f3).bind fun t => if t = true then @impl_DbOk.l0 i_it k ys (ys.length : Int) ((i + 1 : Nat) : Int) ys o else some false) else some false) else some false) (fun k => ?_) ?_
  ·simp only [impl_DbOk.l0]
   rw [if_pos (by omega), if_pos (by omega), if_pos (by omega), rd48_at ys i hlt, next_i i _ hlt hx]
  ·refine Ev.bind (impl_ok_ev ys[i].f0 a1 a2) ?_
   rw [List.drop_eq_getElem_cons hlt, List.all_cons]
   unfold clB
   cases (decide (cn29 ys[i].f0 ≤ 400) && rt29 ys[i].f0 1) with
   | false => exact Ev.ff (Ev.now _)
   | true =>
    refine Ev.tt (Ev.bind (impl_ok_ev ys[i].f1 a3 a4) ?_)
    cases (decide (cn29 ys[i].f1 ≤ 400) && rt29 ys[i].f1 1) with
    | false => exact Ev.ff (Ev.now _)
    | true =>
     refine Ev.tt (Ev.bind (impl_head ys[i].f0 a5 a6) ?_)
     cases (!((pv ys[i].f0).toList == []) && !(ctl.any fun y => (pv ys[i].f0).toList == y)) with
     | false => exact Ev.ff (Ev.now _)
     | true => exact Ev.tt hn
theorem fine_to (c : S60) (hw : wtC c ≤ 1048576) : fine48 (toC c) := by
 unfold wtC at hw
 have n0 := cn_wt c.f0
 have n1 := cn_wt c.f1
 have w0 := wt24_eq c.f0
 refine ⟨by show cn29 (to29 c.f0) ≤ _; omega, nm_to (ht24 c.f0) c.f0 (Nat.le_refl _) (by omega), by show cn29 (to29 c.f1) ≤ _; omega, nm_to (ht24 c.f1) c.f1 (Nat.le_refl _) (by omega), ?_, ?_⟩
 ·show (to29 c.f0).f1.size ≤ _
  rw [to29_eq]
  show c.f0.f1.size ≤ _
  omega
 ·show (to29 c.f0).f3.length ≤ _
  rw [to29_eq]
  show (tos29 c.f0.f3).length ≤ _
  rw [tos29_map, List.length_map]
  omega
theorem law_dbok (xs : List S60) (o : List ByteArray) (hl1 : xs.length ≤ 9223372036854775807) (hl2 : o.length ≤ 9223372036854775807) (ho : ∀ x ∈ xs, ok60 x) (hs : ∀ x ∈ o, x.size ≤ 9223372036854775807) : ∃ (n k : Nat), @laws_FnExactDbOk.f (i_sz n) (i_to n) (i_eq n) i_it k xs o = some true := by
 refine ⟨htCs xs, ?_⟩
 refine Ev.rounds (g := fun k => @laws_FnExactDbOk.f (i_sz (htCs xs)) (i_to (htCs xs)) (i_eq (htCs xs)) i_it k xs o) ?_
 have hh : ∀ x ∈ xs, htC x ≤ htCs xs + 1 := fun x hx => by have := htCs_mem hx; omega
 unfold laws_FnExactDbOk.f
 refine Ev.bind (szD_ev (htCs xs) xs o hl1 hl2 ho hs hh) ?_
 by_cases hw : ((xs.length + wtCs xs + (o.length + wtS o) : Nat) : Int) ≤ 1048576
 ·rw [szr_pos hw]
  refine Ev.neg (by omega) ?_
  have hx : xs.length ≤ 1048576 := by omega
  have hx2 : o.length ≤ 1048576 := by omega
  have hww : ∀ x ∈ xs, wtC x ≤ 1048576 := fun x hx => by have := wtCs_mem hx; omega
  have hf : ∀ c ∈ xs.map toC, fine48 c := fun c hc => by
   obtain ⟨x, hx, rfl⟩ := List.mem_map.1 hc
   exact fine_to x (hww x hx)
  have hto := toD_ev (htCs xs) xs o hx hx2 hh hww
  have hlen : (xs.map toC).length ≤ 1048576 := by rw [List.length_map]; exact hx
  have h1 : Ev (fun k => spec_DbOk.f k (xs.map toC) o) (dbB (xs.map toC) o) := spec_db_l (xs.map toC) o hlen hf _ 0 (by omega) rfl
  have h2 : Ev (fun k => @impl_DbOk.f i_it k (xs.map toC) o) (dbB (xs.map toC) o) := impl_db_l (xs.map toC) o hlen hf _ 0 (by omega) rfl
  refine Ev.bind hto (Ev.bind h1 (Ev.bind hto (Ev.bind h2 (Ev.neg (by simp) (Ev.bind hto (Ev.bind (eqD_ev (htCs xs) xs o hx hx2 hh hww) (Ev.pos rfl (Ev.now _))))))))
 ·rw [szr_neg hw]
  exact Ev.pos (by omega) (Ev.now _)
theorem db_walk (l : List S60) (o : List ByteArray) (A : Option Addr) (c : Nat) (B : Option Addr) (d : Nat) (w : World) (hA : Kd.C k60 w A l.length l) (hc : l.length ≤ c) (hB : Kd.C Kd.string w B o.length o) (hd : o.length ≤ d) (ho : (∀ x ∈ l, ok60 x) ∧ l.length ≤ 9223372036854775807 ∧ o.length ≤ 9223372036854775807 ∧ ∀ x ∈ o, x.size ≤ 9223372036854775807) (hT : Lib.TabBelow Tryd.prog w.heap.size w "internal/strconv.uint64pow10" .u64 Lib.pow10Tab) :
  Calls Tryd.prog 5 #[.agg #[.slice A l.length c, .slice B o.length d]] w fun e w' => e = .returned (.bool true) ∧ Below w.heap.size w w' := by
 obtain ⟨n, k, h⟩ := law_dbok l o ho.2.1 ho.2.2.1 ho.1 ho.2.2.2
 exact @laws_FnExactDbOk.calls (i_sz n) (i_to n) (i_eq n) i_it k A c l B d o true w hT hA hc hB hd h
end Go.Proofs.YtojedbogbodkiaaDoor.KDb
