/- Parts of a proof about terms. No condition. -/
import Derived.Test.YtojedbogbodkiaaKVax2
import Derived.Test.YtojedbogbodkiaaKVax1
import Derived.Deep.Slices
import Derived.Test.YtojedbogbodkiaaKS
set_option linter.unusedVariables false
set_option linter.unusedSimpArgs false
namespace Go.Proofs.Ytojedbogbodkiaa.KVa
open Go.RowKit Go.Proofs.YtojedbogbodkiaaW.PrintWords Go.Proofs.YtojedbogbodkiaaW.PrintLast Go.Proofs.YtojedbogbodkiaaW.PrintMore
/-! #### the pairs of functions that call each other: level by level -/
@[reducible] def d_sz : fk_laws_szTerm := ⟨fun _ _ _ _ _ _ => none, fun _ _ _ _ _ _ => LeO.none _, by intros; contradiction⟩
@[reducible] def d_to : fk_laws_toTerm := ⟨fun _ _ _ _ _ => none, fun _ _ _ _ _ => LeO.none _, by intros; contradiction⟩
@[reducible] def d_eq : fk_laws_eqTerm := ⟨fun _ _ _ _ _ _ _ _ _ => none, fun _ _ _ _ _ _ _ _ _ => LeO.none _, by intros; contradiction⟩
@[reducible] def i_sz : Nat → fk_laws_szTerm
  | 0 => d_sz
  | n + 1 => letI := i_sz n; letI := d_to; letI := d_eq; ⟨laws_szTerm.f, laws_szTerm.mono, laws_szTerm.calls⟩
@[reducible] def i_to : Nat → fk_laws_toTerm
  | 0 => d_to
  | n + 1 => letI := i_to n; letI := d_sz; letI := d_eq; ⟨laws_toTerm.f, laws_toTerm.mono, laws_toTerm.calls⟩
@[reducible] def i_eq : Nat → fk_laws_eqTerm
  | 0 => d_eq
  | n + 1 => letI := i_eq n; letI := d_sz; letI := d_to; ⟨laws_eqTerm.f, laws_eqTerm.mono, laws_eqTerm.calls⟩
/-! #### trees: height, weight, the copy -/
mutual
def ht24 : S24 → Nat
  | ⟨_, _, _, ks⟩ => hts24 ks + 1
def hts24 : List S24 → Nat
  | [] => 0
  | t :: ts => max (ht24 t) (hts24 ts)
end
mutual
def wt24 : S24 → Nat
  | ⟨_, n, _, ks⟩ => n.size + (ks.length + wts24 ks)
def wts24 : List S24 → Nat
  | [] => 0
  | t :: ts => wt24 t + wts24 ts
end
mutual
def ok24 : S24 → Prop
  | ⟨_, n, _, ks⟩ => n.size ≤ 9223372036854775807 ∧ ks.length ≤ 9223372036854775807 ∧ oks24 ks
def oks24 : List S24 → Prop
  | [] => True
  | t :: ts => ok24 t ∧ oks24 ts
end
mutual
def to29 : S24 → S29
  | ⟨a, n, b, ks⟩ => ⟨a, n, b, tos29 ks⟩
def tos29 : List S24 → List S29
  | [] => []
  | t :: ts => to29 t :: tos29 ts
end
mutual
def ht29 : S29 → Nat
  | ⟨_, _, _, ks⟩ => hts29 ks + 1
def hts29 : List S29 → Nat
  | [] => 0
  | t :: ts => max (ht29 t) (hts29 ts)
end
mutual
def cn29 : S29 → Nat
  | ⟨_, _, _, ks⟩ => cns29 ks + 1
def cns29 : List S29 → Nat
  | [] => 0
  | t :: ts => cn29 t + cns29 ts
end
theorem ht24_eq (t : S24) : ht24 t = hts24 t.f3 + 1 := by cases t; rw [ht24]
theorem wt24_eq (t : S24) : wt24 t = t.f1.size + (t.f3.length + wts24 t.f3) := by cases t; rw [wt24]
theorem ok24_eq (t : S24) : ok24 t ↔ t.f1.size ≤ 9223372036854775807 ∧ t.f3.length ≤ 9223372036854775807 ∧ oks24 t.f3 := by cases t; rw [ok24]
theorem to29_eq (t : S24) : to29 t = ⟨t.f0, t.f1, t.f2, tos29 t.f3⟩ := by cases t; rw [to29]
theorem ht29_eq (t : S29) : ht29 t = hts29 t.f3 + 1 := by cases t; rw [ht29]
theorem cn29_eq (t : S29) : cn29 t = cns29 t.f3 + 1 := by cases t; rw [cn29]
theorem hts24_mem {ts : List S24} {t : S24} (h : t ∈ ts) : ht24 t ≤ hts24 ts := by
  induction ts with
  | nil => simp at h
  | cons a l ih =>
    rw [hts24]
    rcases List.mem_cons.1 h with rfl | h
    · omega
    · have := ih h; omega
theorem hts29_mem {ts : List S29} {t : S29} (h : t ∈ ts) : ht29 t ≤ hts29 ts := by
  induction ts with
  | nil => simp at h
  | cons a l ih =>
    rw [hts29]
    rcases List.mem_cons.1 h with rfl | h
    · omega
    · have := ih h; omega
theorem wts24_mem {ts : List S24} {t : S24} (h : t ∈ ts) : wt24 t ≤ wts24 ts := by
  induction ts with
  | nil => simp at h
  | cons a l ih =>
    rw [wts24]
    rcases List.mem_cons.1 h with rfl | h
    · omega
    · have := ih h; omega
theorem oks24_mem {ts : List S24} {t : S24} (h : t ∈ ts) (ho : oks24 ts) : ok24 t := by
  induction ts with
  | nil => simp at h
  | cons a l ih =>
    rw [oks24] at ho
    rcases List.mem_cons.1 h with rfl | h
    · exact ho.1
    · exact ih h ho.2
theorem tos29_map (ts : List S24) : tos29 ts = ts.map to29 := by
  induction ts with
  | nil => rw [tos29]; rfl
  | cons a l ih => rw [tos29, ih]; rfl
theorem tos29_length (ts : List S24) : (tos29 ts).length = ts.length := by rw [tos29_map, List.length_map]
theorem hts_to (n : Nat) : (∀ t : S24, ht24 t ≤ n → ht29 (to29 t) = ht24 t) ∧ (∀ ts : List S24, hts24 ts ≤ n → hts29 (tos29 ts) = hts24 ts) := by
  induction n with
  | zero =>
    have h1 : ∀ t : S24, ht24 t ≤ 0 → ht29 (to29 t) = ht24 t := fun t h => by rw [ht24_eq] at h; omega
    refine ⟨h1, fun ts h => ?_⟩
    cases ts with
    | nil => rw [tos29, hts29, hts24]
    | cons a l => rw [hts24] at h; have := ht24_eq a; omega
  | succ n ih =>
    have h1 : ∀ t : S24, ht24 t ≤ n + 1 → ht29 (to29 t) = ht24 t := fun t h => by
      rw [ht24_eq] at h ⊢
      rw [to29_eq, ht29_eq]
      rw [ih.2 _ (by omega)]
    refine ⟨h1, fun ts => ?_⟩
    induction ts with
    | nil => intro _; rw [tos29, hts29, hts24]
    | cons a l ihl =>
      intro h
      rw [hts24] at h
      rw [tos29, hts29, hts24, h1 a (by omega), ihl (by omega)]
theorem ht_to (t : S24) : ht29 (to29 t) = ht24 t := (hts_to (ht24 t)).1 t (Nat.le_refl _)
theorem cns_wt (n : Nat) : (∀ t : S24, ht24 t ≤ n → cn29 (to29 t) ≤ wt24 t + 1) ∧ (∀ ts : List S24, hts24 ts ≤ n → cns29 (tos29 ts) ≤ wts24 ts + ts.length) := by
  induction n with
  | zero =>
    refine ⟨fun t h => by rw [ht24_eq] at h; omega, fun ts h => ?_⟩
    cases ts with
    | nil => rw [tos29, cns29]; omega
    | cons a l => rw [hts24] at h; have := ht24_eq a; omega
  | succ n ih =>
    have h1 : ∀ t : S24, ht24 t ≤ n + 1 → cn29 (to29 t) ≤ wt24 t + 1 := fun t h => by
      rw [ht24_eq] at h
      rw [to29_eq, cn29_eq, wt24_eq]
      have := ih.2 t.f3 (by omega)
      show cns29 (tos29 t.f3) + 1 ≤ _
      omega
    refine ⟨h1, fun ts => ?_⟩
    induction ts with
    | nil => intro _; rw [tos29, cns29]; omega
    | cons a l ihl =>
      intro h
      rw [hts24] at h
      rw [tos29, cns29, wts24]
      have h2 := h1 a (by omega)
      have h3 := ihl (by omega)
      simp only [List.length_cons]
      omega
theorem cn_wt (t : S24) : cn29 (to29 t) ≤ wt24 t + 1 := (cns_wt (ht24 t)).1 t (Nat.le_refl _)
theorem t_wrap {i : Int} (h0 : -4611686018427387904 ≤ i) (h1 : i ≤ 4611686018427387904) : wrap64 i = i := by
  unfold wrap64; omega
theorem rd24_at (xs : List S24) (i : Nat) (h : i < xs.length) : rd_T24 xs (i : Int) = xs[i] := by
  unfold rd_T24; simp [List.getD, h]
theorem rd29_at (xs : List S29) (i : Nat) (h : i < xs.length) : rd_T29 xs (i : Int) = xs[i] := by
  unfold rd_T29; simp [List.getD, h]
theorem eta29 (t : S29) : (⟨t.f0, t.f1, t.f2, t.f3⟩ : S29) = t := by cases t; rfl
theorem next_i (i n : Nat) (h : i < n) (hn : n ≤ 1048576) : wrap64 ((i : Int) + 1) = ((i + 1 : Nat) : Int) := by
  rw [t_wrap (by omega) (by omega)]; omega
theorem cns29_mem {ts : List S29} {t : S29} (h : t ∈ ts) : cn29 t ≤ cns29 ts := by
  induction ts with
  | nil => simp at h
  | cons a l ih =>
    rw [cns29]
    rcases List.mem_cons.1 h with rfl | h
    · omega
    · have := ih h; omega
theorem cns29_len (ts : List S29) : ts.length ≤ cns29 ts := by
  induction ts with
  | nil => simp
  | cons a l ih => rw [cns29]; have := cn29_eq a; simp only [List.length_cons]; omega
/-! #### a term whose rows are its own: no two of them one block, all the way down -/
def FD29 (d : Kd S29) : Kd S29 := Kd.iso (Kd.pair (Kd.int .i64) (Kd.pair Kd.string (Kd.pair (Kd.int .i64) (Kd.sliceS 29 d)))) (fun x : S29 => (x.f0, x.f1, x.f2, x.f3))
theorem monoD29 : Kd.Mono FD29 := Kd.mono_iso _ (Kd.mono_pair (Kd.mono_const _) (Kd.mono_pair (Kd.mono_const _) (Kd.mono_pair (Kd.mono_const _) (Kd.mono_sliceS 29 Kd.mono_id))))
theorem subD29 : Kd.Sub FD29 [29] := Kd.sub_iso _ (Kd.sub_pair (Kd.sub_const _ (by decide)) (Kd.sub_pair (Kd.sub_const _ (by decide)) (Kd.sub_pair (Kd.sub_const _ (by decide)) (Kd.sub_sliceS 29 (by decide) Kd.sub_id))))
theorem szD29 : ∀ n, (Kd.upto FD29 4 [29] n).sz = 4 := Kd.upto_sz (fun _ => rfl)
def kD29 : Kd S29 := Kd.fix FD29 4 [29] szD29 (Kd.upto_E subD29)
theorem kD29_openM {w : World} {base : Nat} {ok : Nat → Prop} {x : S29} {cs : List Value} (h : kD29.M w base ok x cs) : ∃ v3, cs = [.int .i64 x.f0, .string x.f1, .int .i64 x.f2, v3] ∧ Kd.S kD29 29 w base ok v3 x.f3 := by
  obtain ⟨n, h⟩ := h
  cases n with
  | zero => exact h.elim
  | succ n =>
    obtain ⟨_, _, rfl, rfl, ⟨_, _, rfl, rfl, ⟨_, _, rfl, rfl, ⟨v3, rfl, g3⟩⟩⟩⟩ := h
    exact ⟨v3, rfl, Kd.fix_S g3⟩
theorem kD29_mkM (w : World) (base : Nat) (ok : Nat → Prop) (x : S29) {v3 : Value} (g3 : Kd.S kD29 29 w base ok v3 x.f3) : kD29.M w base ok x [.int .i64 x.f0, .string x.f1, .int .i64 x.f2, v3] := by
  obtain ⟨n3, q3⟩ := Kd.fix_S_back monoD29 g3
  exact ⟨n3 + 1, ⟨[.int .i64 x.f0], [.string x.f1, .int .i64 x.f2, v3], rfl, rfl, ⟨[.string x.f1], [.int .i64 x.f2, v3], rfl, rfl, ⟨[.int .i64 x.f2], [v3], rfl, rfl, ⟨v3, rfl, q3⟩⟩⟩⟩⟩
theorem uptoD29_K : ∀ (n : Nat) {w : World} {x : S29} {cs : List Value}, (Kd.upto FD29 4 [29] n).K w x cs → (Kd.upto F29 4 [29] n).K w x cs
  | 0, _, _, _, h => h.elim
  | n + 1, w, x, cs, h => by
    obtain ⟨_, _, rfl, rfl, ⟨_, _, rfl, rfl, ⟨_, _, rfl, rfl, ⟨A, c, rfl, l, g⟩⟩⟩⟩ := h
    have g' : (Kd.upto F29 4 [29] n).C w A x.f3.length x.f3 := Kd.C_imp (d := Kd.upto FD29 4 [29] n) ((szD29 n).trans (sz29 n).symm) (fun _ _ _ hp => uptoD29_K n hp) g
    exact ⟨[.int .i64 x.f0], [.string x.f1, .int .i64 x.f2, .slice A x.f3.length c], rfl, rfl, ⟨[.string x.f1], [.int .i64 x.f2, .slice A x.f3.length c], rfl, rfl, ⟨[.int .i64 x.f2], [.slice A x.f3.length c], rfl, rfl, ⟨A, c, rfl, l, g'⟩⟩⟩⟩
theorem kD29_K {w : World} {x : S29} {cs : List Value} (h : kD29.K w x cs) : k29.K w x cs := by
  obtain ⟨n, h⟩ := h
  exact ⟨n, uptoD29_K n h⟩
theorem kD29_C {w : World} {A : Option Addr} {n : Nat} {xs : List S29} (h : Kd.C kD29 w A n xs) : Kd.C k29 w A n xs := Kd.C_imp (d := kD29) (d' := k29) rfl (fun _ _ _ hp => kD29_K hp) h
theorem kD29_reads {e : Nat} {w : World} {base : Nat} {ok : Nat → Prop} {v : Value} {xs : List S29} (h : Kd.S kD29 e w base ok v xs) : ∃ A c, v = .slice A xs.length c ∧ xs.length ≤ c ∧ Kd.C k29 w A xs.length xs := by
  obtain ⟨A, c, rfl, hl, hC⟩ := Kd.S_reads h
  exact ⟨A, c, rfl, hl, kD29_C hC⟩
theorem kD29_leaf (w : World) (base : Nat) (ok : Nat → Prop) (a : Int) (s : ByteArray) (b : Int) : kD29.M w base ok ⟨a, s, b, []⟩ [.int .i64 a, .string s, .int .i64 b, .slice none 0 0] := kD29_mkM w base ok ⟨a, s, b, []⟩ (Kd.S_nil _ _ _ _ _)
theorem uptoD29_M : ∀ (n : Nat) {w : World} {base : Nat} {ok : Nat → Prop} {x : S29} {cs : List Value}, (Kd.upto FD29 4 [29] n).M w base ok x cs → (Kd.upto F29 4 [29] n).M w base ok x cs
  | 0, _, _, _, _, _, h => h.elim
  | n + 1, w, base, ok, x, cs, h => by
    obtain ⟨_, _, rfl, rfl, ⟨_, _, rfl, rfl, ⟨_, _, rfl, rfl, ⟨v3, rfl, g⟩⟩⟩⟩ := h
    have g' : (Kd.upto F29 4 [29] n).R 29 w base ok v3 x.f3 := Kd.R_imp (d := Kd.upto FD29 4 [29] n) ((szD29 n).trans (sz29 n).symm) (fun _ _ _ _ _ hp => uptoD29_M n hp) (Kd.S_R g)
    exact ⟨[.int .i64 x.f0], [.string x.f1, .int .i64 x.f2, v3], rfl, rfl, ⟨[.string x.f1], [.int .i64 x.f2, v3], rfl, rfl, ⟨[.int .i64 x.f2], [v3], rfl, rfl, ⟨v3, rfl, g'⟩⟩⟩⟩
theorem kD29_M {w : World} {base : Nat} {ok : Nat → Prop} {x : S29} {cs : List Value} (h : kD29.M w base ok x cs) : k29.M w base ok x cs := by
  obtain ⟨n, h⟩ := h
  exact ⟨n, uptoD29_M n h⟩
theorem S_k29 {e : Nat} {w : World} {base : Nat} {ok : Nat → Prop} {v : Value} {xs : List S29} (h : Kd.S kD29 e w base ok v xs) : k29.R e w base ok v xs := Kd.R_imp (d := kD29) (d' := k29) rfl (fun _ _ _ _ _ hp => kD29_M hp) (Kd.S_R h)
/-! #### what a mark leaves -/
mutual
def mk29 (mt : Int → ByteArray) : S29 → Int → S29
  | ⟨_, _, _, ks⟩, k => ⟨k, mt (k + 1), k + 2, mks29 mt ks (k + 3)⟩
def mks29 (mt : Int → ByteArray) : List S29 → Int → List S29
  | [], _ => []
  | t :: ts, k => mk29 mt t k :: mks29 mt ts (k + 3 * (cn29 t : Int))
end
theorem mk29_eq (mt : Int → ByteArray) (t : S29) (k : Int) : mk29 mt t k = ⟨k, mt (k + 1), k + 2, mks29 mt t.f3 (k + 3)⟩ := by cases t; rw [mk29]
theorem mks29_length (mt : Int → ByteArray) : ∀ (ts : List S29) (k : Int), (mks29 mt ts k).length = ts.length
  | [], _ => by rw [mks29]
  | t :: ts, k => by rw [mks29, List.length_cons, List.length_cons, mks29_length mt ts]
theorem mks29_append (mt : Int → ByteArray) : ∀ (ts us : List S29) (k : Int), mks29 mt (ts ++ us) k = mks29 mt ts k ++ mks29 mt us (k + 3 * (cns29 ts : Int))
  | [], us, k => by rw [mks29, cns29, List.nil_append, List.nil_append]; simp
  | t :: ts, us, k => by
    rw [List.cons_append, mks29, mks29, cns29, List.cons_append, mks29_append mt ts us]
    congr 3
    push_cast
    omega
theorem cns29_append : ∀ (ts us : List S29), cns29 (ts ++ us) = cns29 ts + cns29 us
  | [], us => by rw [List.nil_append, cns29]; omega
  | t :: ts, us => by rw [List.cons_append, cns29, cns29, cns29_append ts us]; omega
theorem mks29_cn (mt : Int → ByteArray) : ∀ (n : Nat), (∀ t k, ht29 t ≤ n → cn29 (mk29 mt t k) = cn29 t ∧ ht29 (mk29 mt t k) = ht29 t) ∧ (∀ ts k, hts29 ts ≤ n → cns29 (mks29 mt ts k) = cns29 ts ∧ hts29 (mks29 mt ts k) = hts29 ts)
  | 0 => by
    refine ⟨fun t k h => by rw [ht29_eq] at h; omega, fun ts k h => ?_⟩
    cases ts with
    | nil => rw [mks29]; exact ⟨rfl, rfl⟩
    | cons t ts => rw [hts29] at h; have := ht29_eq t; omega
  | n + 1 => by
    have h1 : ∀ t k, ht29 t ≤ n + 1 → cn29 (mk29 mt t k) = cn29 t ∧ ht29 (mk29 mt t k) = ht29 t := fun t k h => by
      rw [ht29_eq] at h
      obtain ⟨h2, h3⟩ := (mks29_cn mt n).2 t.f3 (k + 3) (by omega)
      rw [mk29_eq, cn29_eq, cn29_eq t, ht29_eq, ht29_eq t]
      exact ⟨by rw [h2], by rw [h3]⟩
    refine ⟨h1, fun ts => ?_⟩
    induction ts with
    | nil => intro k _; rw [mks29]; exact ⟨rfl, rfl⟩
    | cons t ts ih =>
      intro k h
      rw [hts29] at h
      obtain ⟨h2, h3⟩ := h1 t k (by omega)
      obtain ⟨h4, h5⟩ := ih (k + 3 * (cn29 t : Int)) (by omega)
      rw [mks29, cns29, cns29, hts29, hts29, h2, h3, h4, h5]
      exact ⟨rfl, rfl⟩
theorem marks_take (xs : List S29) (i : Nat) (h : i < xs.length) : cns29 (xs.take (i + 1)) = cns29 (xs.take i) + (cns29 xs[i].f3 + 1) := by
  rw [List.take_succ_eq_append_getElem h, cns29_append, cns29, cns29, ← cn29_eq]; omega
theorem marks_set (mt : Int → ByteArray) (xs : List S29) (k : Int) (i : Nat) (h : i < xs.length) : (mks29 mt (xs.take i) k ++ xs.drop i).set i (mk29 mt xs[i] (k + 3 * (cns29 (xs.take i) : Int))) = mks29 mt (xs.take (i + 1)) k ++ xs.drop (i + 1) := by
  have hl : (mks29 mt (xs.take i) k).length = i := by rw [mks29_length, List.length_take]; omega
  rw [List.set_append_right _ _ (by omega), hl, Nat.sub_self, List.drop_eq_getElem_cons h, List.set_cons_zero, List.take_succ_eq_append_getElem h, mks29_append, mks29, mks29, List.append_assoc]
  rfl
/-! #### one term of a row is being marked: the row with a hole, the term's own rows, what was kept -/
structure MS (base : Nat) (ok : Nat → Prop) (g n cap : Nat) (xs : List S29) (i : Nat) (oki : Nat → Prop) (A3 : Option Addr) (c3 : Nat) (ks : List S29) (w W : World) (c : List Value) : Prop where
  hi : i < n
  hH : Kd.H kD29 29 W base ok (.slice (some ⟨g, 0, none⟩) n cap) xs (i : Int) oki c
  hK : Kd.S kD29 29 W base oki (.slice A3 ks.length c3) ks
  hg : ∀ k, oki k → k ≠ g
  hok : ok g
  hb : base ≤ g
  hl : c.length = 4
  below : Below base w W
  hbs : base ≤ W.heap.size
  kept : Kept w W ok
section
variable {base : Nat} {ok : Nat → Prop} {g n cap : Nat} {xs : List S29} {i : Nat} {oki : Nat → Prop} {A3 : Option Addr} {c3 : Nat} {ks : List S29} {w W W1 : World} {c : List Value}
theorem MS.at_ (h : MS base ok g n cap xs i oki A3 c3 ks w W c) : (∀ j u, c[j]? = some u → W.cell? ⟨g, i * 4 + j, none⟩ = some u) ∧ ∀ j, W.frozen? ⟨g, i * 4 + j, none⟩ = false := by
  have hi := h.hi
  obtain ⟨h1, h2⟩ := Kd.H_at h.hH (by omega) (by omega)
  rw [Int.toNat_natCast] at h1 h2
  exact ⟨h1, h2⟩
theorem MS.put (h : MS base ok g n cap xs i oki A3 c3 ks w W c) (j : Nat) (v : Value) (hj : j < 4) (h1 : v.oneCell' = true) :
    MS base ok g n cap xs i oki A3 c3 ks w (W.setCell ⟨g, i * 4 + j, none⟩ v) (c.take j ++ [v] ++ c.drop (j + 1)) := by
  have hi := h.hi
  have hl := h.hl
  obtain ⟨h2, h3⟩ := Kd.H_seg h.hH (by omega) (by omega) (seg := [v]) (j := j) (show j + 1 ≤ 4 by omega) (fun q hq => by rw [List.mem_singleton.1 hq]; exact h1)
  rw [Int.toNat_natCast] at h2
  exact ⟨hi, h2, Kd.S_far h.hK (p := ⟨g, i * 4 + j, none⟩) h.hg v, h.hg, h.hok, h.hb, by simp only [List.length_append, List.length_take, List.length_drop, List.length_singleton]; omega,
    h.below.setCell h.hb _, by have := h.hbs; simpa [World.setCell] using this, Kept.setCell h.kept (.inl h.hok) _⟩
theorem MS.step (h : MS base ok g n cap xs i oki A3 c3 ks w W c) (hb : Below W.heap.size W W1) : MS base ok g n cap xs i oki A3 c3 ks w W1 c :=
  ⟨h.hi, Kd.H_below h.hH hb, Kd.S_below h.hK hb, h.hg, h.hok, h.hb, h.hl, below_then h.below h.hbs hb, Nat.le_trans h.hbs hb.size, h.kept.below hb⟩
theorem MS.done (h : MS base ok g n cap xs i oki A3 c3 ks w W c) {a b : Int} {s : ByteArray} (hc : c = [.int .i64 a, .string s, .int .i64 b, .slice A3 ks.length c3]) {ks' : List S29} (hB : Below base W W1) (hS : Kd.S kD29 29 W1 base oki (.slice A3 ks.length c3) ks') (hk : Kept W W1 oki) :
    Kd.S kD29 29 W1 base ok (.slice (some ⟨g, 0, none⟩) n cap) (xs.set i ⟨a, s, b, ks'⟩) ∧ Below base w W1 ∧ Kept w W1 ok ∧ base ≤ W1.heap.size := by
  have hH := Kd.H_kept h.hH hk (fun k _ hn => hn)
  subst hc
  refine ⟨?_, h.below.trans hB, h.kept.then_ hk (fun k hk2 => .inl (hH.1 k hk2)), Nat.le_trans h.hbs hk.1⟩
  have := Kd.H_back hH (x' := (⟨a, s, b, ks'⟩ : S29)) (okp := oki) (kD29_mkM W1 base oki ⟨a, s, b, ks'⟩ hS) (fun _ hk => hk)
  rw [Int.toNat_natCast] at this
  exact this
theorem MS.kids_len (h : MS base ok g n cap xs i oki A3 c3 ks w W c) : ks.length ≤ 9223372036854775807 := (Kd.S_reads' h.hK).2.2.2.1
end
theorem ms_new {base : Nat} {ok : Nat → Prop} {g n cap : Nat} {xs : List S29} {i : Nat} {w W : World} (hS : Kd.S kD29 29 W base ok (.slice (some ⟨g, 0, none⟩) n cap) xs) (hi : i < n) (hB : Below base w W) (hk : Kept w W ok) (hbs : base ≤ W.heap.size) (x : S29) (hx : xs.getD i z29 = x) :
    ∃ (oki : Nat → Prop) (A3 : Option Addr) (c3 : Nat), MS base ok g n cap xs i oki A3 c3 x.f3 w W [.int .i64 x.f0, .string x.f1, .int .i64 x.f2, .slice A3 x.f3.length c3] := by
  obtain ⟨oki, ce, hcl, hM, hcc, hfr, hoki, hH⟩ := Kd.S_elem hS z29 (i : Int) (by omega) (by omega)
  rw [Int.toNat_natCast, hx] at hM
  obtain ⟨v3, rfl, hK3⟩ := kD29_openM hM
  obtain ⟨A3, c3, rfl⟩ := Kd.S_slice hK3
  have hR := Kd.S_R hS
  exact ⟨oki, A3, c3, hi, hH, hK3, fun k hk => (hoki k hk).2, hR.1 g (by simp [Value.ownBlock]), Kd.S_base hS g (by simp [Value.ownBlock]), hcl, hB, hbs, hk⟩
/-! #### markTermS: a row that is the call's own, all the way down, is marked -/
section
set_option linter.unusedSectionVars false
variable [fk_laws_szTerm] [fk_laws_toTerm] [fk_laws_eqTerm]
def MarkOf (mt : Int → ByteArray) (xs : List S29) : Prop := ∀ (A : Option Addr) (c : Nat) (k : Int) (w : World) (base : Nat) (ok : Nat → Prop), 0 < k → k + 3 * (cns29 xs : Int) ≤ 1000000000 → base ≤ w.heap.size → Kd.S kD29 29 w base ok (.slice A xs.length c) xs →
    Calls Try.prog 66 #[.slice A xs.length c, .int .i64 k] w fun e w' => e = .returned (.int .i64 (k + 3 * (cns29 xs : Int))) ∧ Kd.S kD29 29 w' base ok (.slice A xs.length c) (mks29 mt xs k) ∧ Below base w w' ∧ Kept w w' ok
set_option maxHeartbeats 8000000 in
set_option maxRecDepth 100000 in
theorem mark_step (mt : Int → ByteArray) (kt : Nat) (hmt : ∀ n : Int, 0 < n → n ≤ 1000000000 → laws_markText.f kt n = some (mt n)) (xs : List S29) (ih : ∀ x ∈ xs, MarkOf mt x.f3) : MarkOf mt xs := by
    intro A c k w base ok hk hk2 hbs hS
    have IH := Aside0.mk ih
    have HS := Aside0.mk hS
    have HK := Aside0.mk hk2
    have hm := (Kd.S_reads' hS).2.2.2.1
    clear hS hk2 ih
    go_enter Try.func66, Try.ntmps66
    go_wp2
    go_loopg [1, 5] xs.length (fun m v1 v5 w' => ∃ i : Nat, v5 = .int .i64 i ∧ v1 = .int .i64 (k + 3 * (cns29 (xs.take i) : Int)) ∧ Aside0 (m + i = xs.length) ∧ Aside0 (Kd.S kD29 29 w' base ok (.slice A xs.length c) (mks29 mt (xs.take i) k ++ xs.drop i)) ∧ Aside0 (Below base w w') ∧ Aside0 (Kept w w' ok))
    case atStart => exact ⟨0, rfl, by simp [cns29], ⟨by omega⟩, ⟨by simpa [mks29] using HS.out⟩, ⟨Below.refl _ _⟩, ⟨⟨Nat.le_refl _, fun _ _ _ => rfl⟩⟩⟩
    case round =>
      clear HS
      obtain ⟨i, rfl, rfl, hi, HA, HB, HK2⟩ := hrel
      by_cases hlt : (i : Int) < (xs.length : Int)
      · have c3b0 : decide ((i : Int) < (xs.length : Int)) = true := decide_eq_true hlt
        have hlt' : i < xs.length := by omega
        have c3b1 : decide (i < xs.length) = true := decide_eq_true hlt'
        have hlen : (mks29 mt (xs.take i) k ++ xs.drop i).length = xs.length := by rw [List.length_append, mks29_length, List.length_take, List.length_drop]; omega
        obtain ⟨g, hA⟩ : ∃ g, A = some ⟨g, 0, none⟩ := by
          obtain ⟨g, cap, e, _⟩ := Kd.S_form HA.out (by rw [hlen]; omega)
          injection e with e1
          exact ⟨g, e1⟩
        subst hA
        have hx : (mks29 mt (xs.take i) k ++ xs.drop i).getD i z29 = xs[i] := by
          rw [List.getD_eq_getElem?_getD, List.getElem?_append_right (by rw [mks29_length, List.length_take]; omega), mks29_length, List.length_take, Nat.min_eq_left (by omega), Nat.sub_self, List.drop_eq_getElem_cons hlt']
          rfl
        obtain ⟨oki, A3, c3, hms⟩ := ms_new HA.out hlt' HB.out HK2.out (Nat.le_trans hbs HK2.out.1) xs[i] hx
        have hf0 := hms.at_.2 0
        have hx0 := hms.at_.1 0 _ rfl
        simp only [Nat.add_zero] at hf0 hx0
        have HM := Aside0.mk hms
        have hcn : cns29 (xs.take i) + cn29 xs[i] ≤ cns29 xs := by
          have := cns29_append (xs.take i) (xs.drop i)
          rw [List.take_append_drop, List.drop_eq_getElem_cons hlt', cns29] at this
          omega
        have hcs := cn29_eq xs[i]
        have HCN := Aside0.mk hcn
        have HCS := Aside0.mk hcs
        clear hlen hms hx hcn hcs
        generalize hki : k + 3 * (cns29 (xs.take i) : Int) = ki
        have HKI := Aside0.mk hki
        have e1 : wrap64 (ki + 1) = ki + 1 := t_wrap (by omega) (by have := HK.out; have := HCN.out; omega)
        have e2 : wrap64 (wrap64 (ki + 1) + 1) = ki + 2 := by rw [e1, t_wrap (by have := HKI.out; omega) (by have := HK.out; have := HCN.out; omega)]; omega
        have e3 : wrap64 (wrap64 (wrap64 (ki + 1) + 1) + 1) = ki + 3 := by rw [e2, t_wrap (by have := HKI.out; omega) (by have := HK.out; have := HCN.out; omega)]; omega
        have hr1 : laws_markText.f kt (wrap64 (ki + 1)) = some (mt (ki + 1)) := by rw [e1]; exact hmt _ (by have := HKI.out; omega) (by have := HK.out; have := HCN.out; have := HCS.out; omega)
        have E2 := Aside0.mk e2
        have E3 := Aside0.mk e3
        have E1 := Aside0.mk e1
        have HR1 := Aside0.mk hr1
        clear hki hr1 e1 e2 e3
        go_wp2_with (first
          | ((with_reducible refine gate_store (t := 3) (p := 16) rfl ?_); refine store_event (t := 3) (p := 16) (v := ?vo1) (w1 := wr.setCell ⟨g, i * 4, none⟩ (.int .i64 ki)) ?hg ?ho ?hn ?hr ?_; (case ho => rfl); (case hg => rfl); (case hn => rfl); (case hr => first | (go_simp; done) | (go_simp; rfl)); intro w2 hw2; have HM' := Aside0.mk (HM.out.put 0 (.int .i64 ki) (by decide) rfl); rw [Nat.add_zero, ← hw2] at HM'; clear HM hw2 hf0 hx0; have HM := HM'; clear HM')
          | ((with_reducible refine gate_callee (f := 105) rfl ?_); refine goesL_ (some 22) rfl rfl Try.func105 (by kernel_rfl) rfl #[.int .i64 (wrap64 (ki + 1))] rfl (by (try simp only [List.map_toArray, List.map_cons, List.map_nil]); first | done | rfl) ?_; refine (laws_markText.calls kt (wrap64 (ki + 1)) (mt (ki + 1)) _ HR1.out).mono ?_; rintro e w3 ⟨rfl, hb3⟩; refine ⟨_, rfl, ?_⟩; have HM' := Aside0.mk (HM.out.step hb3); clear HM hb3; have HM := HM'; clear HM'; have hf1 := HM.out.at_.2 1; have hx1 := HM.out.at_.1 1 _ rfl)
          | ((with_reducible refine gate_store (t := 9) (p := 24) rfl ?_); refine store_event (t := 9) (p := 24) (v := ?vo2) (w1 := w3.setCell ⟨g, i * 4 + 1, none⟩ (.string (mt (ki + 1)))) ?hg ?ho ?hn ?hr ?_; (case ho => rfl); (case hg => rfl); (case hn => rfl); (case hr => first | (go_simp; done) | (go_simp; rfl)); intro w4 hw4; have HM' := Aside0.mk (HM.out.put 1 (.string (mt (ki + 1))) (by decide) rfl); rw [← hw4] at HM'; clear HM hw4 hf1 hx1; have HM := HM'; clear HM'; have hf2 := HM.out.at_.2 2; have hx2 := HM.out.at_.1 2 _ rfl)
          | ((with_reducible refine gate_store (t := 3) (p := 31) rfl ?_); refine store_event (t := 3) (p := 31) (v := ?vo3) (w1 := w4.setCell ⟨g, i * 4 + 2, none⟩ (.int .i64 (wrap64 (wrap64 (ki + 1) + 1)))) ?hg ?ho ?hn ?hr ?_; (case ho => rfl); (case hg => rfl); (case hn => rfl); (case hr => first | (go_simp; done) | (go_simp; rfl)); intro w5 hw5; have HM' := Aside0.mk (HM.out.put 2 (.int .i64 (wrap64 (wrap64 (ki + 1) + 1))) (by decide) rfl); rw [← hw5] at HM'; clear HM hw5 hf2 hx2; have HM := HM'; clear HM'; have hx3 := HM.out.at_.1 3 _ rfl)
          | ((with_reducible refine gate_callee (f := 66) rfl ?_); refine goesL_ (some 40) rfl rfl Try.func66 (by kernel_rfl) rfl #[.slice A3 xs[i].f3.length c3, .int .i64 (wrap64 (wrap64 (wrap64 (ki + 1) + 1) + 1))] rfl (by (try simp only [List.map_toArray, List.map_cons, List.map_nil]); first | done | rfl) ?_; refine (IH.out xs[i] (List.getElem_mem hlt') A3 c3 (wrap64 (wrap64 (wrap64 (ki + 1) + 1) + 1)) _ base oki ?s2 ?s3 HM.out.hbs HM.out.hK).mono ?_; (case s2 => rw [E3.out]; have := HKI.out; omega); (case s3 => rw [E3.out]; have := HK.out; have := HCN.out; have := HCS.out; have := HKI.out; omega); rintro e w6 ⟨rfl, hs6, hb6, hk6⟩; refine ⟨_, rfl, ?_⟩))
        obtain ⟨hs7, hb7, hk7, hz7⟩ := HM.out.done rfl hb6 hs6 hk6
        rw [E3.out, E2.out] at hs7
        have hq := marks_set mt xs k i hlt'
        rw [HKI.out, mk29_eq] at hq
        rw [hq] at hs7
        go_roundg (xs.length - (i + 1))
        case measure => have := hi.out; omega
        case rel => exact ⟨i + 1, by go_num, by rw [E3.out, marks_take xs i hlt']; have := HKI.out; congr 1; push_cast; omega, ⟨by have := hi.out; omega⟩, ⟨hs7⟩, ⟨hb7⟩, ⟨hk7⟩⟩
      · have c3b0 : decide ((i : Int) < (xs.length : Int)) = false := decide_eq_false hlt
        have c3b1 : decide (i < xs.length) = false := decide_eq_false (by omega)
        go_wp2
        go_ret
        have he : xs.length ≤ i := by omega
        have hS := HA.out
        rw [List.take_of_length_le he, List.drop_eq_nil_of_le he, List.append_nil] at hS
        exact ⟨by rw [List.take_of_length_le he]; rfl, hS, HB.out, HK2.out⟩
theorem mark_calls (mt : Int → ByteArray) (kt : Nat) (hmt : ∀ n : Int, 0 < n → n ≤ 1000000000 → laws_markText.f kt n = some (mt n)) (n : Nat) : ∀ xs : List S29, hts29 xs ≤ n → MarkOf mt xs := by
  induction n with
  | zero =>
    intro xs h
    refine mark_step mt kt hmt xs (fun x hx => ?_)
    have := hts29_mem hx
    have := ht29_eq x
    omega
  | succ n ih =>
    intro xs h
    refine mark_step mt kt hmt xs (fun x hx => ih x.f3 ?_)
    have := hts29_mem hx
    have := ht29_eq x
    omega
end
/-! #### markText tells a text -/
section
set_option linter.unusedSectionVars false
variable [fk_laws_szTerm] [fk_laws_toTerm] [fk_laws_eqTerm]
theorem markText_l (d : Nat) : ∀ (x : Int) (s : ByteArray), 0 ≤ x → x ≤ 1000000000 → x < 10 ^ d → s.size + d ≤ 100 → ∃ r, laws_markText.l0 (d + 1) x s = some r := by
  induction d with
  | zero =>
    intro x s h0 hb h1 hs
    obtain rfl : x = 0 := by omega
    exact ⟨⟨#[109]⟩ ++ s, by simp only [laws_markText.l0]; rw [if_neg (by omega), if_pos (by omega)]⟩
  | succ d ih =>
    intro x s h0 hb h1 hs
    by_cases c : x > 0
    · have hd : wrap64 (Int.tdiv x 10) = x / 10 := by
        rw [Int.tdiv_eq_ediv_of_nonneg h0]
        exact t_wrap (by omega) (by omega)
      have hq : x / 10 < 10 ^ d := by
        rw [Int.pow_succ] at h1
        omega
      obtain ⟨r, hr⟩ := ih (x / 10) ((strOfNums [(wrap64 (48 + (Int.tmod x 10))) % 256]) ++ s) (by omega) (by omega) hq (by rw [ByteArray.size_append]; have : (strOfNums [(wrap64 (48 + (Int.tmod x 10))) % 256]).size = 1 := rfl; omega)
      refine ⟨r, ?_⟩
      simp only [laws_markText.l0, Option.bind_some]
      have h3 : (strOfNums [(wrap64 (48 + (Int.tmod x 10))) % 256]).size = 1 := rfl
      rw [if_pos c, if_pos (by omega), hd]
      exact hr
    · refine ⟨⟨#[109]⟩ ++ s, ?_⟩
      simp only [laws_markText.l0]
      rw [if_neg c, if_pos (by omega)]
def mtx (n : Int) : ByteArray := (laws_markText.f 11 n).getD ⟨#[]⟩
theorem mtx_ok (n : Int) (h0 : 0 < n) (h1 : n ≤ 1000000000) : laws_markText.f 11 n = some (mtx n) := by
  obtain ⟨r, hr⟩ := markText_l 10 n ⟨#[]⟩ (by omega) h1 (by omega) (by decide)
  have : laws_markText.f 11 n = some r := by
    unfold laws_markText.f
    rw [if_neg (by omega)]
    exact hr
  unfold mtx
  rw [this]
  rfl
end
/-! #### what a row tells to who reads it -/
theorem readS {e : Nat} {w : World} {base : Nat} {ok : Nat → Prop} {A : Option Addr} {n c : Nat} {xs : List S29} (h : Kd.S kD29 e w base ok (.slice A n c) xs) : n ≤ c ∧ Kd.C k29 w A n xs := by
  obtain ⟨h1, h2, h3⟩ := Kd.S_reads' h
  rw [h1]
  exact ⟨by omega, kD29_C h3⟩
theorem readR {e : Nat} {w : World} {base : Nat} {ok : Nat → Prop} {A : Option Addr} {n c : Nat} {xs : List S29} (h : k29.R e w base ok (.slice A n c) xs) : n ≤ c ∧ Kd.C k29 w A n xs := by
  obtain ⟨h1, h2, h3⟩ := Kd.R_reads' h
  rw [h1]
  exact ⟨by omega, h3⟩
theorem readV {e : Nat} {w : World} {base : Nat} {ok : Nat → Prop} {A : Option Addr} {n c : Nat} {xs : List S29} (h : Kd.V k29 e w base ok (.slice A n c) xs) : n ≤ c ∧ Kd.C k29 w A n xs := by
  obtain ⟨h1, h2, h3⟩ := Kd.V_reads' h
  rw [h1]
  exact ⟨by omega, h3⟩
/-! #### laws.toTerm, laws.toTermS: the copy, with rows apart -/
/-- Element i of a row is stored anew: what it leads to is new since the row was last written. -/
theorem S_store {W : World} {base N g n cap : Nat} {xs : List S29} (i : Nat) (hS : Kd.S kD29 29 W base (fun k => k < N) (.slice (some ⟨g, 0, none⟩) n cap) xs) (hi : i < n) (x : S29) (v3 : Value) (hK : Kd.S kD29 29 W base (fun k => N ≤ k) v3 x.f3) (hg : g < N) :
    Kd.S kD29 29 (W.setCells g (i * 4) [.int .i64 x.f0, .string x.f1, .int .i64 x.f2, v3]) base (fun _ => True) (.slice (some ⟨g, 0, none⟩) n cap) (xs.set i x) ∧ W.grownBy (W.setCells g (i * 4) [.int .i64 x.f0, .string x.f1, .int .i64 x.f2, v3]) (some g) := by
  have hS2 : Kd.S kD29 29 W base (fun k => True ∧ ¬ (N ≤ k)) (.slice (some ⟨g, 0, none⟩) n cap) xs := Kd.S_mono hS (fun k hk => ⟨trivial, by omega⟩)
  obtain ⟨oki, c, hcl, hM, hcc, hfr, hoki, hH⟩ := Kd.S_elem hS2 z29 (i : Int) (by omega) (by omega)
  have h := Kd.S_seg (okg := fun k => N ≤ k) (seg := [.int .i64 x.f0, .string x.f1, .int .i64 x.f2, v3]) (j := 0) (x' := x) (okp := fun k => N ≤ k) hH (by omega) (by omega) (show 0 + 4 ≤ 4 by omega)
    (by
      have e : c.take 0 ++ [.int .i64 x.f0, .string x.f1, .int .i64 x.f2, v3] ++ c.drop (0 + [Value.int .i64 x.f0, .string x.f1, .int .i64 x.f2, v3].length) = [.int .i64 x.f0, .string x.f1, .int .i64 x.f2, v3] := by
        have hcl4 : c.length = 4 := hcl
        rw [List.take_zero, List.nil_append, List.drop_eq_nil_of_le (by simp; omega), List.append_nil]
      rw [e]
      exact kD29_mkM W base _ x hK)
    (fun k hk => .inr hk) (fun k hk => ⟨trivial, by omega⟩)
  rw [Int.toNat_natCast] at h
  exact h
section
set_option linter.unusedSectionVars false
variable [fk_laws_szTerm] [fk_laws_toTerm] [fk_laws_eqTerm]
def ToOf (xs : List S24) : Prop := ∀ (A : Option Addr) (c : Nat) (w : World), Kd.C k24 w A xs.length xs → xs.length ≤ c →
  Calls Try.prog 63 #[.slice A xs.length c] w fun e w' => ∃ v, e = .returned v ∧ Kd.S kD29 29 w' w.heap.size (fun _ => True) v (tos29 xs) ∧ Below w.heap.size w w'
def ToT (t : S24) : Prop := ∀ (A : Option Addr) (c : Nat) (w : World), Kd.C k24 w A t.f3.length t.f3 → t.f3.length ≤ c →
  Calls Try.prog 17 #[.agg #[.int .i64 t.f0, .string t.f1, .int .i64 t.f2, .slice A t.f3.length c]] w fun e w' => ∃ v, e = .returned (.agg #[.int .i64 t.f0, .string t.f1, .int .i64 t.f2, v]) ∧ Kd.S kD29 29 w' w.heap.size (fun _ => True) v (tos29 t.f3) ∧ Below w.heap.size w w'
set_option maxHeartbeats 8000000 in
set_option maxRecDepth 100000 in
theorem to_step (xs : List S24) (hlen : xs.length ≤ 1048576) (ih : ∀ x ∈ xs, ToT x) : ToOf xs := by
  intro A c w hC hc
  have IH := Aside0.mk ih
  have HC := Aside0.mk hC
  have HCC := Aside0.mk hc
  have HL := Aside0.mk hlen
  have HB := Aside0.mk (Below.refl w.heap.size w)
  clear hC hc ih hlen
  go_enter Try.func63, Try.ntmps63
  go_wp2_with (first
    | ((with_reducible refine gate_dst (N := 7) rfl ?_); refine Kd.S_make kD29 _ 29 rfl (N := 7) rfl 27 _ _ rfl (xs.length : Int) rfl rfl Try.underlying27 (.agg #[(.int .i64 0), (.string ⟨#[]⟩), (.int .i64 0), (.slice none 0 0)]) 56 info29 rfl (by decide) (by decide) z29 (ok := fun _ => True) (okp := fun _ => True) (kD29_leaf _ _ _ 0 ⟨#[]⟩ 0) (fun _ hk => hk) trivial (by omega) (by have := HL.out; rw [Int.toNat_natCast]; omega) (Below.refl _ _) (Nat.le_refl _) ?_; intro v1 w6 hS hb6 hg_ hnew; clear hg_ hnew; obtain ⟨A1, c1, rfl⟩ := Kd.S_slice hS; have HS := Aside0.mk hS; have HB6 := Aside0.mk hb6; clear hS hb6))
  rw [Int.toNat_natCast, List.length_replicate] at HS
  go_loopg [4] xs.length (fun m v4 w' => ∃ i : Nat, v4 = .int .i64 i ∧ Aside0 (m + i = xs.length) ∧ Aside0 (Kd.S kD29 29 w' w.heap.size (fun _ => True) (.slice A1 xs.length c1) (tos29 (xs.take i) ++ List.replicate (xs.length - i) z29)) ∧ Aside0 (Below w.heap.size w w'))
  case atStart => exact ⟨0, rfl, ⟨by omega⟩, ⟨by simpa [tos29] using Kd.S_lower HS.out HB.out.size⟩, ⟨below_step HB.out HB6.out⟩⟩
  case round =>
    clear HS HB6 HB
    obtain ⟨i, rfl, hi, HA, HB⟩ := hrel
    by_cases hlt : (i : Int) < (xs.length : Int)
    · have c3b0 : decide ((i : Int) < (xs.length : Int)) = true := decide_eq_true hlt
      have hlt' : i < xs.length := by omega
      have c3b1 : decide (i < xs.length) = true := decide_eq_true hlt'
      have hl1 : (tos29 (xs.take i)).length = i := by rw [tos29_length, List.length_take]; omega
      have hlen : (tos29 (xs.take i) ++ List.replicate (xs.length - i) z29).length = xs.length := by rw [List.length_append, hl1, List.length_replicate]; omega
      obtain ⟨g, hA, hgl⟩ : ∃ g, A1 = some ⟨g, 0, none⟩ ∧ g < wr.heap.size := by
        obtain ⟨g, cap, e, _, hg, _⟩ := Kd.S_form HA.out (by rw [hlen]; omega)
        injection e with e1
        exact ⟨g, e1, hg⟩
      subst hA
      obtain ⟨ad, A3, c3, e3, hx0, hx1, hx2, hx3, hl3, hi3⟩ := at_T24 HC.out (i : Int) (by omega) hlt
      cases e3
      rw [rd24_at xs i hlt'] at hx0 hx1 hx2 hx3 hl3 hi3
      simp only [Int.toNat_natCast] at hx0 hx1 hx2 hx3
      replace hx0 := (HB.out.cell (World.block_lt_of_cell? w _ hx0)).trans hx0
      replace hx1 := (HB.out.cell (World.block_lt_of_cell? w _ hx1)).trans hx1
      replace hx2 := (HB.out.cell (World.block_lt_of_cell? w _ hx2)).trans hx2
      replace hx3 := (HB.out.cell (World.block_lt_of_cell? w _ hx3)).trans hx3
      have HI3 := Aside0.mk (Kd.C_below hi3 HB.out)
      have HL3 := Aside0.mk hl3
      have HGL := Aside0.mk hgl
      have HLEN := Aside0.mk hlen
      have HL1 := Aside0.mk hl1
      clear hi3 hl3 hgl hlen hl1
      have p1 : (0 : Int) ≤ (i : Int) := by omega
      go_wp2_with (first
        | ((with_reducible refine gate_callee (f := 17) rfl ?_); refine goesL_ (some 20) rfl rfl Try.func17 (by kernel_rfl) rfl #[.agg #[.int .i64 xs[i].f0, .string xs[i].f1, .int .i64 xs[i].f2, .slice A3 xs[i].f3.length c3]] rfl (by (try simp only [List.map_toArray, List.map_cons, List.map_nil]); first | done | rfl) ?_; refine (IH.out xs[i] (List.getElem_mem hlt') A3 c3 _ HI3.out HL3.out).mono ?_; rintro e w2 ⟨v4, rfl, ho0, hb⟩; refine ⟨_, rfl, ?_⟩; obtain ⟨A4, c4, rfl⟩ := Kd.S_slice ho0; have HO := Aside0.mk (Kd.S_mono (ok' := fun k_ => k_ < wr.heap.size) (Kd.S_old HA.out hb) (fun k_ hk_ => hk_.2)); have HN := Aside0.mk (Kd.S_lower (Kd.S_mono (ok' := fun k_ => wr.heap.size ≤ k_) (Kd.S_bound ho0) (fun k_ hk_ => hk_.2.1)) HB.out.size); have HB' := Aside0.mk (below_step HB.out hb); have HE := Kd.S_elem HO.out z29 (i : Int) (by omega) (by omega); obtain ⟨oki_, ce_, hcl_, hM_, hcc_, hfr_, _, _⟩ := HE; obtain ⟨ve_, rfl, _⟩ := kD29_openM hM_; rw [Int.toNat_natCast] at hcc_ hfr_; have hy0 := hcc_ 0 _ rfl; have hy1 := hcc_ 1 _ rfl; have hy2 := hcc_ 2 _ rfl; have hy3 := hcc_ 3 _ rfl; have hf0 := hfr_ 0; have hf1 := hfr_ 1; have hf2 := hfr_ 2; have hf3 := hfr_ 3; simp only [show kD29.sz = 4 from rfl, Nat.add_zero] at hy0 hy1 hy2 hy3 hf0 hf1 hf2 hf3; clear hcc_ hfr_ hM_ hcl_ hb ho0)
        | ((with_reducible refine gate_store (t := 29) (p := 21) rfl ?_); refine store_event (t := 29) (p := 21) (v := ?vo1) (w1 := w2.setCells g (i * 4) [.int .i64 xs[i].f0, .string xs[i].f1, .int .i64 xs[i].f2, .slice A4 (tos29 xs[i].f3).length c4]) ?hg ?ho ?hn ?hr ?_; (case ho => rfl); (case hg => rfl); (case hn => rfl); (case hr => first | (go_simp; done) | (go_simp; rfl)); intro w4 hw4))
      have hx : (⟨xs[i].f0, xs[i].f1, xs[i].f2, tos29 xs[i].f3⟩ : S29) = to29 xs[i] := (to29_eq _).symm
      obtain ⟨hS1, hg1⟩ := S_store i HO.out hlt' (⟨xs[i].f0, xs[i].f1, xs[i].f2, tos29 xs[i].f3⟩ : S29) (.slice A4 (tos29 xs[i].f3).length c4) HN.out HGL.out
      have hq : (tos29 (xs.take i) ++ List.replicate (xs.length - i) z29).set i (⟨xs[i].f0, xs[i].f1, xs[i].f2, tos29 xs[i].f3⟩ : S29) = tos29 (xs.take (i + 1)) ++ List.replicate (xs.length - (i + 1)) z29 := by
        rw [hx, List.set_append_right _ _ (by have := HL1.out; omega), HL1.out, Nat.sub_self, show xs.length - i = (xs.length - (i + 1)) + 1 by omega, List.replicate_succ, List.set_cons_zero, List.take_succ_eq_append_getElem hlt', tos29_map, tos29_map, List.map_append, List.append_assoc]
        rfl
      rw [hq] at hS1
      have hgb : w.heap.size ≤ g := Kd.S_base HO.out g (by simp [Value.ownBlock])
      go_roundg (xs.length - (i + 1))
      case measure => have := hi.out; omega
      case rel => exact ⟨i + 1, by rw [next_i i _ hlt' HL.out], ⟨by have := hi.out; omega⟩, ⟨hS1⟩, ⟨pw_below_grown HB'.out (some g) HB'.out.size hg1 (fun k_ e_ => by injection e_ with e_; omega)⟩⟩
    · have c3b0 : decide ((i : Int) < (xs.length : Int)) = false := decide_eq_false hlt
      have c3b1 : decide (i < xs.length) = false := decide_eq_false (by omega)
      go_wp2
      go_ret
      have he : xs.length ≤ i := by omega
      have hS := HA.out
      rw [List.take_of_length_le he, show xs.length - i = 0 by omega, List.replicate_zero, List.append_nil] at hS
      exact ⟨_, rfl, hS, HB.out⟩
set_option maxHeartbeats 8000000 in
set_option maxRecDepth 100000 in
theorem toT_step (t : S24) (ih : ToOf t.f3) : ToT t := by
  intro A c w hC hc
  have IH := Aside0.mk ih
  have HC := Aside0.mk hC
  have HCC := Aside0.mk hc
  have HB := Aside0.mk (Below.refl w.heap.size w)
  clear hC hc ih
  go_enter Try.func17, Try.ntmps17
  go_wp2_with (first
    | ((with_reducible refine gate_dst (N := 1) rfl ?_); refine box_event ?hg1 (N := 1) ?hd1 (cs := #[.int .i64 t.f0, .string t.f1, .int .i64 t.f2, .slice A t.f3.length c]) (t := 24) ?hr1 ?_; (case hd1 => rfl); (case hg1 => rfl); (case hr1 => first | (go_simp; done) | (go_simp; rfl)); intro ga hg w1 hbox hb; have HG_ga := Aside0.mk hg; have BK_ga := Aside0.mk hbox; have q_ := Aside0.mk (below_step HB.out hb); have HGE_ga := Aside0.mk (show w.heap.size ≤ ga by have := HB.out.size; omega); clear HB; have HB := q_; clear q_; have HLT_ga := Aside0.mk (blk_lt hbox); clear hg hbox hb)
    | ((with_reducible refine gate_dst (N := 2) rfl ?_); refine box_event ?hg2 (N := 2) ?hd2 (cs := #[.int .i64 0, .string (⟨#[]⟩ : ByteArray), .int .i64 0, .slice none 0 0]) (t := 29) ?hr2 ?_; (case hd2 => rfl); (case hg2 => rfl); (case hr2 => first | (go_simp; done) | (go_simp; rfl)); intro gr hg w2 hbox hb; have HG_gr := Aside0.mk hg; have q_ := Aside0.mk (blk_below BK_ga.out hb); clear BK_ga; have BK_ga := q_; clear q_; have BK_gr := Aside0.mk hbox; have q_ := Aside0.mk (below_step HB.out hb); have HGE_gr := Aside0.mk (show w.heap.size ≤ gr by have := HB.out.size; omega); clear HB; have HB := q_; clear q_; have HN_ga_gr := Aside0.mk (show ga ≠ gr by have := blk_lt hbox; intro e_; subst e_; have h1_ := HG_gr.out; have h2_ := HLT_ga.out; omega); have HLT_gr := Aside0.mk (blk_lt hbox); have q_ := Aside0.mk (Nat.lt_of_lt_of_le HLT_ga.out hb.size); clear HLT_ga; have HLT_ga := q_; clear q_; clear hg hbox hb)
    | ((with_reducible refine gate_dst (N := 3) rfl ?_); refine box_event ?hg3 (N := 3) ?hd3 (cs := #[.int .i64 0, .string (⟨#[]⟩ : ByteArray), .int .i64 0, .slice none 0 0]) (t := 29) ?hr3 ?_; (case hd3 => rfl); (case hg3 => rfl); (case hr3 => first | (go_simp; done) | (go_simp; rfl)); intro go hg w3 hbox hb; have HG_go := Aside0.mk hg; have q_ := Aside0.mk (blk_below BK_ga.out hb); clear BK_ga; have BK_ga := q_; clear q_; have q_ := Aside0.mk (blk_below BK_gr.out hb); clear BK_gr; have BK_gr := q_; clear q_; have BK_go := Aside0.mk hbox; have q_ := Aside0.mk (below_step HB.out hb); have HGE_go := Aside0.mk (show w.heap.size ≤ go by have := HB.out.size; omega); clear HB; have HB := q_; clear q_; have HN_ga_go := Aside0.mk (show ga ≠ go by have := blk_lt hbox; intro e_; subst e_; have h1_ := HG_go.out; have h2_ := HLT_ga.out; omega); have HN_gr_go := Aside0.mk (show gr ≠ go by have := blk_lt hbox; intro e_; subst e_; have h1_ := HG_go.out; have h2_ := HLT_gr.out; omega); have HLT_go := Aside0.mk (blk_lt hbox); have q_ := Aside0.mk (Nat.lt_of_lt_of_le HLT_ga.out hb.size); clear HLT_ga; have HLT_ga := q_; clear q_; have q_ := Aside0.mk (Nat.lt_of_lt_of_le HLT_gr.out hb.size); clear HLT_gr; have HLT_gr := q_; clear q_; have hc_ga_0 : w3.cell? ⟨ga, 0, none⟩ = some (.int .i64 t.f0) := (blk_cell BK_ga.out 0).trans rfl; have hf_ga_0 := blk_frozen BK_ga.out 0; have hc_ga_1 : w3.cell? ⟨ga, 1, none⟩ = some (.string t.f1) := (blk_cell BK_ga.out 1).trans rfl; have hf_ga_1 := blk_frozen BK_ga.out 1; have hc_ga_2 : w3.cell? ⟨ga, 2, none⟩ = some (.int .i64 t.f2) := (blk_cell BK_ga.out 2).trans rfl; have hf_ga_2 := blk_frozen BK_ga.out 2; have hc_ga_3 : w3.cell? ⟨ga, 3, none⟩ = some (.slice A t.f3.length c) := (blk_cell BK_ga.out 3).trans rfl; have hf_ga_3 := blk_frozen BK_ga.out 3; have hc_go_0 : w3.cell? ⟨go, 0, none⟩ = some (.int .i64 0) := (blk_cell BK_go.out 0).trans rfl; have hf_go_0 := blk_frozen BK_go.out 0; have hc_go_1 : w3.cell? ⟨go, 1, none⟩ = some (.string (⟨#[]⟩ : ByteArray)) := (blk_cell BK_go.out 1).trans rfl; have hf_go_1 := blk_frozen BK_go.out 1; have hc_go_2 : w3.cell? ⟨go, 2, none⟩ = some (.int .i64 0) := (blk_cell BK_go.out 2).trans rfl; have hf_go_2 := blk_frozen BK_go.out 2; have hc_go_3 : w3.cell? ⟨go, 3, none⟩ = some (.slice none 0 0) := (blk_cell BK_go.out 3).trans rfl; have hf_go_3 := blk_frozen BK_go.out 3; have hn1 := HN_ga_go.out; have hn2 := Ne.symm HN_ga_go.out; clear hg hbox hb)
    | ((with_reducible refine gate_callee (f := 63) rfl ?_); refine goesL_ (some 15) rfl rfl Try.func63 (by kernel_rfl) rfl #[.slice A t.f3.length c] rfl (by (try simp only [List.map_toArray, List.map_cons, List.map_nil]); first | done | rfl) ?_; have HX := Aside0.mk (show Below w.heap.size w (((w3.setCell ⟨go, 0, none⟩ (.int .i64 t.f0)).setCell ⟨go, 1, none⟩ (.string t.f1)).setCell ⟨go, 2, none⟩ (.int .i64 t.f2)) from below_set (below_set (below_set HB.out HGE_go.out) HGE_go.out) HGE_go.out); refine (IH.out A c (((w3.setCell ⟨go, 0, none⟩ (.int .i64 t.f0)).setCell ⟨go, 1, none⟩ (.string t.f1)).setCell ⟨go, 2, none⟩ (.int .i64 t.f2)) (Kd.C_below HC.out HX.out) HCC.out).mono ?_; rintro e w4 ⟨v4, rfl, ho0, hb⟩; refine ⟨_, rfl, ?_⟩; obtain ⟨A4, c4, rfl⟩ := Kd.S_slice ho0; have b1_ : (((w3.setCell ⟨go, 0, none⟩ (.int .i64 t.f0)).setCell ⟨go, 1, none⟩ (.string t.f1)).setCell ⟨go, 2, none⟩ (.int .i64 t.f2)).heap[go]? = some (.cells #[.int .i64 t.f0, .string t.f1, .int .i64 t.f2, .slice none 0 0] 29 (0, 0)) := (by refine blk_put (cs := #[.int .i64 t.f0, .string t.f1, .int .i64 0, .slice none 0 0]) ?_ 2 _ rfl; refine blk_put (cs := #[.int .i64 t.f0, .string (⟨#[]⟩ : ByteArray), .int .i64 0, .slice none 0 0]) ?_ 1 _ rfl; refine blk_put (cs := #[.int .i64 0, .string (⟨#[]⟩ : ByteArray), .int .i64 0, .slice none 0 0]) ?_ 0 _ rfl; exact BK_go.out); have b2_ : (((w3.setCell ⟨go, 0, none⟩ (.int .i64 t.f0)).setCell ⟨go, 1, none⟩ (.string t.f1)).setCell ⟨go, 2, none⟩ (.int .i64 t.f2)).heap[gr]? = some (.cells #[.int .i64 0, .string (⟨#[]⟩ : ByteArray), .int .i64 0, .slice none 0 0] 29 (0, 0)) := blk_far (blk_far (blk_far BK_gr.out HN_gr_go.out _) HN_gr_go.out _) HN_gr_go.out _; have q_ := Aside0.mk (blk_below b1_ hb); clear BK_go; have BK_go := q_; clear q_; have q_ := Aside0.mk (blk_below b2_ hb); clear BK_gr; have BK_gr := q_; clear q_; have HLO := Aside0.mk (show go < (((w3.setCell ⟨go, 0, none⟩ (.int .i64 t.f0)).setCell ⟨go, 1, none⟩ (.string t.f1)).setCell ⟨go, 2, none⟩ (.int .i64 t.f2)).heap.size from blk_lt b1_); have HLR := Aside0.mk (show gr < (((w3.setCell ⟨go, 0, none⟩ (.int .i64 t.f0)).setCell ⟨go, 1, none⟩ (.string t.f1)).setCell ⟨go, 2, none⟩ (.int .i64 t.f2)).heap.size from blk_lt b2_); have HS := Aside0.mk (Kd.S_mono (ok' := fun k_ => (((w3.setCell ⟨go, 0, none⟩ (.int .i64 t.f0)).setCell ⟨go, 1, none⟩ (.string t.f1)).setCell ⟨go, 2, none⟩ (.int .i64 t.f2)).heap.size ≤ k_) (Kd.S_bound ho0) (fun k_ hk_ => hk_.2.1)); have HB4 := Aside0.mk (below_step HX.out hb); clear b1_ b2_ ho0 hb; have hd_go_0 : w4.cell? ⟨go, 0, none⟩ = some (.int .i64 t.f0) := (blk_cell BK_go.out 0).trans rfl; have he_go_0 := blk_frozen BK_go.out 0; have hd_go_1 : w4.cell? ⟨go, 1, none⟩ = some (.string t.f1) := (blk_cell BK_go.out 1).trans rfl; have he_go_1 := blk_frozen BK_go.out 1; have hd_go_2 : w4.cell? ⟨go, 2, none⟩ = some (.int .i64 t.f2) := (blk_cell BK_go.out 2).trans rfl; have he_go_2 := blk_frozen BK_go.out 2; have hd_go_3 : w4.cell? ⟨go, 3, none⟩ = some (.slice none 0 0) := (blk_cell BK_go.out 3).trans rfl; have he_go_3 := blk_frozen BK_go.out 3; have hc_gr_0 : w4.cell? ⟨gr, 0, none⟩ = some (.int .i64 0) := (blk_cell BK_gr.out 0).trans rfl; have hf_gr_0 := blk_frozen BK_gr.out 0; have hc_gr_1 : w4.cell? ⟨gr, 1, none⟩ = some (.string (⟨#[]⟩ : ByteArray)) := (blk_cell BK_gr.out 1).trans rfl; have hf_gr_1 := blk_frozen BK_gr.out 1; have hc_gr_2 : w4.cell? ⟨gr, 2, none⟩ = some (.int .i64 0) := (blk_cell BK_gr.out 2).trans rfl; have hf_gr_2 := blk_frozen BK_gr.out 2; have hc_gr_3 : w4.cell? ⟨gr, 3, none⟩ = some (.slice none 0 0) := (blk_cell BK_gr.out 3).trans rfl; have hf_gr_3 := blk_frozen BK_gr.out 3; have hn3 := HN_gr_go.out; have hn4 := Ne.symm HN_gr_go.out))
  refine bodyPost_ret (results_cell_row rfl _ _ gr 29 #[.int .i64 t.f0, .string t.f1, .int .i64 t.f2, .slice A4 (tos29 t.f3).length c4] (0, 0) _ rfl (by refine blk_put (cs := #[.int .i64 t.f0, .string t.f1, .int .i64 t.f2, .slice none 0 0]) ?_ 3 _ rfl; refine blk_put (cs := #[.int .i64 t.f0, .string t.f1, .int .i64 0, .slice none 0 0]) ?_ 2 _ rfl; refine blk_put (cs := #[.int .i64 t.f0, .string (⟨#[]⟩ : ByteArray), .int .i64 0, .slice none 0 0]) ?_ 1 _ rfl; refine blk_put (cs := #[.int .i64 0, .string (⟨#[]⟩ : ByteArray), .int .i64 0, .slice none 0 0]) ?_ 0 _ rfl; exact blk_far BK_gr.out HN_gr_go.out _) Try.underlying29 rfl (by kernel_rfl)) rfl ?_
  have hne1 : ∀ k_, (((w3.setCell ⟨go, 0, none⟩ (.int .i64 t.f0)).setCell ⟨go, 1, none⟩ (.string t.f1)).setCell ⟨go, 2, none⟩ (.int .i64 t.f2)).heap.size ≤ k_ → k_ ≠ go := fun k_ hk_ e_ => by have := HLO.out; omega
  have hne2 : ∀ k_, (((w3.setCell ⟨go, 0, none⟩ (.int .i64 t.f0)).setCell ⟨go, 1, none⟩ (.string t.f1)).setCell ⟨go, 2, none⟩ (.int .i64 t.f2)).heap.size ≤ k_ → k_ ≠ gr := fun k_ hk_ e_ => by have := HLR.out; omega
  refine ⟨_, rfl, ?_, below_set (below_set (below_set (below_set (below_set HB4.out HGE_go.out) HGE_gr.out) HGE_gr.out) HGE_gr.out) HGE_gr.out⟩
  exact Kd.S_mono (Kd.S_lower (Kd.S_far (p := ⟨gr, 3, none⟩) (Kd.S_far (p := ⟨gr, 2, none⟩) (Kd.S_far (p := ⟨gr, 1, none⟩) (Kd.S_far (p := ⟨gr, 0, none⟩) (Kd.S_far (p := ⟨go, 3, none⟩) HS.out hne1 _) hne2 _) hne2 _) hne2 _) hne2 _) HX.out.size) (fun _ _ => trivial)
theorem toT_all (n : Nat) : (∀ t : S24, ht24 t ≤ n → wt24 t ≤ 1048576 → ToT t) ∧ (∀ xs : List S24, hts24 xs ≤ n → wts24 xs + xs.length ≤ 1048576 → ToOf xs) := by
  induction n with
  | zero =>
    refine ⟨fun t h => by rw [ht24_eq] at h; omega, fun xs h hw => to_step xs (by omega) (fun x hx => ?_)⟩
    have := hts24_mem hx
    have := ht24_eq x
    omega
  | succ n ih =>
    have h1 : ∀ t : S24, ht24 t ≤ n + 1 → wt24 t ≤ 1048576 → ToT t := fun t h hw => by
      rw [ht24_eq] at h
      rw [wt24_eq] at hw
      exact toT_step t (ih.2 t.f3 (by omega) (by omega))
    refine ⟨h1, fun xs h hw => to_step xs (by omega) (fun x hx => h1 x ?_ ?_)⟩
    · have := hts24_mem hx; omega
    · have := wts24_mem hx; omega
end
/-! #### markTerm -/
section
set_option linter.unusedSectionVars false
variable [fk_laws_szTerm] [fk_laws_toTerm] [fk_laws_eqTerm]
set_option maxHeartbeats 8000000 in
set_option maxRecDepth 100000 in
theorem markTerm_calls (mt : Int → ByteArray) (xs : List S29) (hM : MarkOf mt xs) (a0 : Int) (a1 : ByteArray) (a2 : Int) (A : Option Addr) (c : Nat) (k : Int) (w : World) (base : Nat) (ok : Nat → Prop) (hk : 0 < k) (hk2 : k + 3 * (cns29 xs : Int) ≤ 1000000000) (hbs : base ≤ w.heap.size) (hS : Kd.S kD29 29 w base ok (.slice A xs.length c) xs) :
    Calls Try.prog 29 #[.agg #[.int .i64 a0, .string a1, .int .i64 a2, .slice A xs.length c], .int .i64 k] w fun e w' => e = .returned (.int .i64 (k + 3 * (cns29 xs : Int))) ∧ Kd.S kD29 29 w' base ok (.slice A xs.length c) (mks29 mt xs k) ∧ Below base w w' ∧ Kept w w' ok := by
  have HS := Aside0.mk hS
  have HM := Aside0.mk hM
  have HK := Aside0.mk hk2
  clear hS hM hk2
  go_enter Try.func29, Try.ntmps29
  go_wp2_with (first
    | ((with_reducible refine gate_dst (N := 2) rfl ?_); refine box_event ?hg (N := 2) ?hd (cs := #[.int .i64 a0, .string a1, .int .i64 a2, .slice A xs.length c]) (t := 29) ?hr ?_; (case hd => rfl); (case hg => rfl); (case hr => first | (go_simp; done) | (go_simp; rfl)); intro gb hg w5 hbox hb; have HB := Aside0.mk hb; have hcz : w5.cell? ⟨gb, 3, none⟩ = some (.slice A xs.length c) := (blk_cell hbox 3).trans rfl; clear hg hbox hb)
    | ((with_reducible refine gate_callee (f := 66) rfl ?_); refine goesL_ (some 8) rfl rfl Try.func66 (by kernel_rfl) rfl #[.slice A xs.length c, .int .i64 k] rfl (by (try simp only [List.map_toArray, List.map_cons, List.map_nil]); first | done | rfl) ?_; refine (HM.out A c k _ base ok hk HK.out (Nat.le_trans hbs HB.out.size) (Kd.S_below HS.out HB.out)).mono ?_; rintro e w6 ⟨rfl, ho, hb, hkp⟩; refine ⟨_, rfl, ?_⟩))
  go_ret
  exact ⟨rfl, ho, (HB.out.mono hbs).trans hb, (Kept.of_below HB.out ok).then_ hkp (fun k hk => .inl hk)⟩
end
/-! #### szTerm tells what is left of the weight -/
def szr (w : Nat) (left : Int) : Int := if (w : Int) ≤ left then left - w else -1
theorem szS_ev (n : Nat) (xs : List S24) (hlen : xs.length ≤ 1048576)
    (IH : ∀ x ∈ xs, ∀ left : Int, 0 ≤ left → left ≤ 1048576 → Ev (fun k => (i_sz n).f k x.f0 x.f1 x.f2 x.f3 left) (szr (wt24 x) left)) (d : Nat) :
    ∀ (i : Nat) (left : Int), i ≤ xs.length → xs.length - i = d → 0 ≤ left → left ≤ 1048576 →
    Ev (fun k => @laws_szTermS.l0 (i_sz n) k xs left i) (szr (wts24 (xs.drop i)) left) := by
  induction d with
  | zero =>
    intro i left hi hd h0 h1
    refine Ev.step (f := fun _ => some left) (fun k => ?_) ?_
    · simp only [laws_szTermS.l0]; rw [if_neg (by omega)]
    · rw [List.drop_eq_nil_of_le (by omega), wts24]
      unfold szr; rw [if_pos (by simpa using h0)]
      simpa using Ev.now left
  | succ d ih =>
    intro i left hi hd h0 h1
    have hlt : i < xs.length := by omega
    refine Ev.step (f := fun k => ((i_sz n).f k xs[i].f0 xs[i].f1 xs[i].f2 xs[i].f3 left).bind fun t => if t < 0 then some (-1) else @laws_szTermS.l0 (i_sz n) k xs t ((i + 1 : Nat) : Int)) (fun k => ?_) ?_
    · simp only [laws_szTermS.l0]
      rw [if_pos (by omega), if_pos (by omega), rd24_at xs i hlt, next_i i _ hlt hlen]
    · refine Ev.bind (f := fun k t => if t < 0 then some (-1) else @laws_szTermS.l0 (i_sz n) k xs t ((i + 1 : Nat) : Int)) (IH xs[i] (List.getElem_mem hlt) left h0 h1) ?_
      rw [List.drop_eq_getElem_cons hlt, wts24]
      unfold szr
      by_cases hc : (wt24 xs[i] : Int) ≤ left
      · rw [if_pos hc]
        have h2 := ih (i + 1) (left - wt24 xs[i]) (by omega) (by omega) (by omega) (by omega)
        unfold szr at h2
        have e : (if ((wt24 xs[i] + wts24 (xs.drop (i + 1)) : Nat) : Int) ≤ left then left - ((wt24 xs[i] + wts24 (xs.drop (i + 1)) : Nat) : Int) else -1) = (if (wts24 (xs.drop (i + 1)) : Int) ≤ left - wt24 xs[i] then left - wt24 xs[i] - (wts24 (xs.drop (i + 1)) : Int) else -1) := by
          by_cases h3 : (wts24 (xs.drop (i + 1)) : Int) ≤ left - wt24 xs[i]
          · rw [if_pos h3, if_pos (by omega)]; omega
          · rw [if_neg h3, if_neg (by omega)]
        rw [e]
        exact Ev.congr (fun k => if_neg (by omega)) h2
      · rw [if_neg hc, if_neg (by omega)]
        exact Ev.congr (fun k => if_pos (by omega)) (Ev.now (-1))
theorem sz_ev (n : Nat) : ∀ (t : S24), ok24 t → ht24 t ≤ n → ∀ left : Int, 0 ≤ left → left ≤ 1048576 → Ev (fun k => (i_sz n).f k t.f0 t.f1 t.f2 t.f3 left) (szr (wt24 t) left) := by
  induction n with
  | zero => intro t _ h; rw [ht24_eq] at h; omega
  | succ n ih =>
    intro t ho h left h0 h1
    rw [ht24_eq] at h
    obtain ⟨o1, o2, o3⟩ := (ok24_eq t).1 ho
    show Ev (fun k => @laws_szTerm.f (i_sz n) k t.f0 t.f1 t.f2 t.f3 left) _
    unfold laws_szTerm.f
    have e1 : wrap64 (left - (t.f1.size : Int)) = left - t.f1.size := by unfold wrap64; omega
    rw [e1, wt24_eq]
    by_cases c1 : left - (t.f1.size : Int) < 0
    · refine Ev.congr (fun k => if_pos c1) ?_
      unfold szr; rw [if_neg (by omega)]; exact Ev.now _
    refine Ev.congr (fun k => if_neg c1) ?_
    have hS : Ev (fun k => @laws_szTermS.f (i_sz n) k t.f3 (left - (t.f1.size : Int))) (szr (t.f3.length + wts24 t.f3) (left - (t.f1.size : Int))) := by
      unfold laws_szTermS.f
      have e2 : wrap64 (left - (t.f1.size : Int) - (t.f3.length : Int)) = left - t.f1.size - t.f3.length := by unfold wrap64; omega
      rw [e2]
      by_cases c2 : left - (t.f1.size : Int) - (t.f3.length : Int) < 0
      · refine Ev.congr (fun k => if_pos c2) ?_
        unfold szr; rw [if_neg (by omega)]; exact Ev.now _
      · refine Ev.congr (fun k => if_neg c2) ?_
        have := szS_ev n t.f3 (by omega) (fun x hx left h0 h1 => ih x (oks24_mem hx o3) (by have := hts24_mem hx; omega) left h0 h1) t.f3.length 0 (left - t.f1.size - t.f3.length) (by omega) (by omega) (by omega) (by omega)
        rw [List.drop_zero] at this
        have e : szr (t.f3.length + wts24 t.f3) (left - (t.f1.size : Int)) = szr (wts24 t.f3) (left - t.f1.size - t.f3.length) := by
          unfold szr
          by_cases h3 : (wts24 t.f3 : Int) ≤ left - t.f1.size - t.f3.length
          · rw [if_pos h3, if_pos (by omega)]; omega
          · rw [if_neg h3, if_neg (by omega)]
        rw [e]; exact this
    refine Ev.bind (f := fun _ t => if t < 0 then some (-1) else some t) hS ?_
    have e : szr (t.f1.size + (t.f3.length + wts24 t.f3)) left = szr (t.f3.length + wts24 t.f3) (left - (t.f1.size : Int)) := by
      unfold szr
      by_cases h3 : ((t.f3.length + wts24 t.f3 : Nat) : Int) ≤ left - t.f1.size
      · rw [if_pos h3, if_pos (by omega)]; omega
      · rw [if_neg h3, if_neg (by omega)]
    rw [e]
    by_cases c3 : szr (t.f3.length + wts24 t.f3) (left - (t.f1.size : Int)) < 0
    · have : szr (t.f3.length + wts24 t.f3) (left - (t.f1.size : Int)) = -1 := by
        unfold szr at c3 ⊢; split at c3 <;> rename_i h
        · omega
        · rw [if_neg h]
      rw [this]; exact Ev.now _
    · exact Ev.congr (fun k => if_neg c3) (Ev.now _)
/-! #### toTerm is the copy -/
theorem toS_ev (n : Nat) (xs : List S24) (hlen : xs.length ≤ 1048576)
    (IH : ∀ x ∈ xs, Ev (fun k => (i_to n).f k x.f0 x.f1 x.f2 x.f3) ((to29 x).f0, (to29 x).f1, (to29 x).f2, (to29 x).f3)) (d : Nat) :
    ∀ (i : Nat) (ys : List S29), i ≤ xs.length → xs.length - i = d → ys.length = xs.length →
    Ev (fun k => @laws_toTermS.l0 (i_to n) k xs ys i) (ys.take i ++ (xs.drop i).map to29) := by
  induction d with
  | zero =>
    intro i ys hi hd hy
    refine Ev.step (f := fun _ => some ys) (fun k => ?_) ?_
    · simp only [laws_toTermS.l0]; rw [if_neg (by omega)]
    · rw [List.drop_eq_nil_of_le (by omega), List.take_of_length_le (by omega)]
      simpa using Ev.now ys
  | succ d ih =>
    intro i ys hi hd hy
    have hlt : i < xs.length := by omega
    refine Ev.step (f := fun k => ((i_to n).f k xs[i].f0 xs[i].f1 xs[i].f2 xs[i].f3).bind fun b => @laws_toTermS.l0 (i_to n) k xs (ys.set i ⟨b.1, b.2.1, b.2.2.1, b.2.2.2⟩) ((i + 1 : Nat) : Int)) (fun k => ?_) ?_
    · simp only [laws_toTermS.l0]
      rw [if_pos (by omega), if_pos (by omega), rd24_at xs i hlt, next_i i _ hlt hlen]
      have : (i : Int) < (ys.length : Int) := by omega
      simp only [if_pos this, Int.toNat_natCast]
    · refine Ev.bind (f := fun k b => @laws_toTermS.l0 (i_to n) k xs (ys.set i ⟨b.1, b.2.1, b.2.2.1, b.2.2.2⟩) ((i + 1 : Nat) : Int)) (IH xs[i] (List.getElem_mem hlt)) ?_
      have h2 := ih (i + 1) (ys.set i (to29 xs[i])) (by omega) (by omega) (by rw [List.length_set]; exact hy)
      have e : ys.take i ++ (xs.drop i).map to29 = (ys.set i (to29 xs[i])).take (i + 1) ++ (xs.drop (i + 1)).map to29 := by
        have hl : i < (ys.set i (to29 xs[i])).length := by rw [List.length_set]; omega
        rw [List.drop_eq_getElem_cons hlt, List.map_cons, List.take_succ_eq_append_getElem hl, List.getElem_set_self, List.take_set_of_le (Nat.le_refl i)]
        simp
      rw [e]
      show Ev (fun k => @laws_toTermS.l0 (i_to n) k xs (ys.set i ⟨(to29 xs[i]).f0, (to29 xs[i]).f1, (to29 xs[i]).f2, (to29 xs[i]).f3⟩) ((i + 1 : Nat) : Int)) _
      rw [eta29]; exact h2
theorem to_ev (n : Nat) : ∀ (t : S24), ht24 t ≤ n → wt24 t ≤ 1048576 → Ev (fun k => (i_to n).f k t.f0 t.f1 t.f2 t.f3) ((to29 t).f0, (to29 t).f1, (to29 t).f2, (to29 t).f3) := by
  induction n with
  | zero => intro t h; rw [ht24_eq] at h; omega
  | succ n ih =>
    intro t h hw
    rw [ht24_eq] at h
    rw [wt24_eq] at hw
    show Ev (fun k => @laws_toTerm.f (i_to n) k t.f0 t.f1 t.f2 t.f3) _
    rw [to29_eq]
    unfold laws_toTerm.f
    refine Ev.bind (f := fun _ t119 => some (t.f0, t.f1, t.f2, t119)) (a := tos29 t.f3) ?_ (Ev.now _)
    unfold laws_toTermS.f
    refine Ev.congr (fun k => by rw [if_pos (by omega), if_pos (by omega)]) ?_
    have := toS_ev n t.f3 (by omega) (fun x hx => ih x (by have := hts24_mem hx; omega) (by have := wts24_mem hx; omega)) t.f3.length 0 (List.replicate t.f3.length z29) (by omega) (by omega) (by simp)
    rw [List.take_zero, List.drop_zero, List.nil_append, ← tos29_map] at this
    exact this
/-! #### eqTerm tells true of what is the same -/
theorem eqS_ev (n : Nat) (xs : List S29) (hlen : xs.length ≤ 1048576)
    (IH : ∀ x ∈ xs, Ev (fun k => (i_eq n).f k x.f0 x.f1 x.f2 x.f3 x.f0 x.f1 x.f2 x.f3) true) (d : Nat) :
    ∀ (i : Nat), i ≤ xs.length → xs.length - i = d → Ev (fun k => @laws_eqTermS.l0 (i_eq n) k xs xs i) true := by
  induction d with
  | zero =>
    intro i hi hd
    refine Ev.step (f := fun _ => some true) (fun k => ?_) (Ev.now _)
    simp only [laws_eqTermS.l0]; rw [if_neg (by omega)]
  | succ d ih =>
    intro i hi hd
    have hlt : i < xs.length := by omega
    refine Ev.step (f := fun k => ((i_eq n).f k xs[i].f0 xs[i].f1 xs[i].f2 xs[i].f3 xs[i].f0 xs[i].f1 xs[i].f2 xs[i].f3).bind fun b => if b = true then @laws_eqTermS.l0 (i_eq n) k xs xs ((i + 1 : Nat) : Int) else some false) (fun k => ?_) ?_
    · simp only [laws_eqTermS.l0]
      rw [if_pos (by omega), if_pos (by omega), if_pos (by omega), rd29_at xs i hlt, next_i i _ hlt hlen]
    · refine Ev.bind (f := fun k b => if b = true then @laws_eqTermS.l0 (i_eq n) k xs xs ((i + 1 : Nat) : Int) else some false) (IH xs[i] (List.getElem_mem hlt)) ?_
      exact Ev.congr (fun k => if_pos rfl) (ih (i + 1) (by omega) (by omega))
theorem eq_ev (n : Nat) : ∀ (t : S29), ht29 t ≤ n → cn29 t ≤ 1048577 → Ev (fun k => (i_eq n).f k t.f0 t.f1 t.f2 t.f3 t.f0 t.f1 t.f2 t.f3) true := by
  induction n with
  | zero => intro t h; rw [ht29_eq] at h; omega
  | succ n ih =>
    intro t h hc
    rw [ht29_eq] at h
    rw [cn29_eq] at hc
    have hcm : ∀ (ts : List S29), (∀ x ∈ ts, cn29 x ≤ cns29 ts) ∧ ts.length ≤ cns29 ts := by
      intro ts
      induction ts with
      | nil => exact ⟨fun x hx => by simp at hx, by simp⟩
      | cons a l ihl =>
        rw [cns29]
        have := cn29_eq a
        refine ⟨fun x hx => ?_, by simp only [List.length_cons]; have := ihl.2; omega⟩
        rcases List.mem_cons.1 hx with rfl | hx
        · omega
        · have := ihl.1 x hx; omega
    show Ev (fun k => @laws_eqTerm.f (i_eq n) k t.f0 t.f1 t.f2 t.f3 t.f0 t.f1 t.f2 t.f3) _
    unfold laws_eqTerm.f
    refine Ev.congr (fun k => by rw [if_pos rfl, if_pos rfl, if_pos rfl]) ?_
    refine Ev.bind (f := fun _ b => if b = true then some true else some false) (a := true) ?_ (Ev.now _)
    unfold laws_eqTermS.f
    refine Ev.congr (fun k => if_pos rfl) ?_
    exact eqS_ev n t.f3 (by have := (hcm t.f3).2; omega) (fun x hx => ih x (by have := hts29_mem hx; omega) (by have := (hcm t.f3).1 x hx; omega)) t.f3.length 0 (by omega) (by omega)
/-! #### a term that came in, read as a tree -/
open Go.ChangeShapes Go.WideShapes
section
variable {H : Type} {enc : TypeId × Value → H} {w : World} {base : Nat} {spare : Nat → Bool} {held : Bool}
theorem list_of {α : Type} {Q : Nat → α → Prop} : ∀ (n : Nat), (∀ i, i < n → ∃ t, Q i t) → ∃ l : List α, l.length = n ∧ ∀ i t, l[i]? = some t → Q i t
  | 0, _ => ⟨[], rfl, fun i t h => by simp at h⟩
  | n + 1, h => by
    obtain ⟨l, hl, hq⟩ := list_of n (fun i hi => h i (by omega))
    obtain ⟨t, ht⟩ := h n (by omega)
    refine ⟨l ++ [t], by simp [hl], fun i t' hi => ?_⟩
    rcases Nat.lt_or_ge i n with h1 | h1
    · rw [List.getElem?_append_left (by omega)] at hi; exact hq i t' hi
    · rw [List.getElem?_append_right (by omega), hl] at hi
      have : i = n := by
        rcases Nat.eq_or_lt_of_le h1 with h2 | h2
        · exact h2.symm
        · rw [List.getElem?_eq_none (by simp; omega)] at hi; simp at hi
      subst this
      simp at hi; rw [← hi]; exact ht
theorem oks24_of {ts : List S24} (h : ∀ t ∈ ts, ok24 t) : oks24 ts := by
  induction ts with
  | nil => rw [oks24]; trivial
  | cons a l ih => rw [oks24]; exact ⟨h a (by simp), ih fun t ht => h t (by simp [ht])⟩
set_option maxRecDepth 100000 in
theorem open_T (fuel : Nat) : ∀ (cs : List Value) (x : DataW H × List MemPlace), DataW.trod enc Try.prog w base spare held fuel 24 cs = some x → ∃ t : S24, k24.K w t cs ∧ ok24 t := by
  induction fuel using Nat.strongRecOn with
  | _ fuel IH =>
    intro cs x h
    obtain ⟨xs, n, rfl, rfl, hlen, hxl, hf⟩ := DataW.trod_struct Try.underlying24 h
    have hC : Try.prog.cellsOf 24 = 4 := by kernel_rfl
    rw [hC] at hlen
    match cs, hlen, xs, hxl with
    | [c0, c1, c2, c3], _, [y0, y1, y2, y3], _ =>
      have C3 : Try.prog.cellsOf 3 = 1 := by kernel_rfl
      have C9 : Try.prog.cellsOf 9 = 1 := by kernel_rfl
      have C22 : Try.prog.cellsOf 22 = 1 := by kernel_rfl
      have g0 : DataW.trod enc Try.prog w base spare held n 3 [c0] = some y0 := by
        have g : DataW.trod enc Try.prog w base spare held n 3 (([c0, c1, c2, c3].drop 0).take (Try.prog.cellsOf 3)) = some y0 := hf 0 _ rfl
        rw [C3] at g
        exact g
      have g1 : DataW.trod enc Try.prog w base spare held n 9 [c1] = some y1 := by
        have g : DataW.trod enc Try.prog w base spare held n 9 (([c0, c1, c2, c3].drop 1).take (Try.prog.cellsOf 9)) = some y1 := hf 1 _ rfl
        rw [C9] at g
        exact g
      have g2 : DataW.trod enc Try.prog w base spare held n 3 [c2] = some y2 := by
        have g : DataW.trod enc Try.prog w base spare held n 3 (([c0, c1, c2, c3].drop 2).take (Try.prog.cellsOf 3)) = some y2 := hf 2 _ rfl
        rw [C3] at g
        exact g
      have g3 : DataW.trod enc Try.prog w base spare held n 22 [c3] = some y3 := by
        have g : DataW.trod enc Try.prog w base spare held n 22 (([c0, c1, c2, c3].drop 3).take (Try.prog.cellsOf 22)) = some y3 := hf 3 _ rfl
        rw [C22] at g
        exact g
      obtain ⟨a, ha, _, _⟩ := DataW.trod_int Try.underlying3 g0
      obtain ⟨nm, hn, _, hsz⟩ := DataW.trod_string Try.underlying9 g1
      obtain ⟨b, hb, _, _⟩ := DataW.trod_int Try.underlying3 g2
      simp only [List.cons.injEq, and_true] at ha hn hb
      subst ha hn hb
      have hm : maxLen = 9223372036854775807 := by decide +kernel
      rcases DataW.trod_slice Try.underlying22 g3 with ⟨h3, _⟩ | ⟨ad, len, cap, elems, rest, m, hm1, h3, _, _, hl, hcap, hel, hrd, _, _⟩
      · simp only [List.cons.injEq, and_true] at h3
        subst h3
        refine ⟨⟨a, nm, b, []⟩, k24_mk w ⟨a, nm, b, []⟩ (A3 := none) (c3 := 0) (Nat.le_refl _) ⟨rfl, by simp, fun h => by simp at h⟩, ?_⟩
        rw [ok24]; exact ⟨by omega, by simp, by rw [oks24]; trivial⟩
      · simp only [List.cons.injEq, and_true] at h3
        subst h3
        have hall : ∀ i, i < len → ∃ t : S24, ok24 t ∧ ∃ c : List Value, c.length = 4 ∧ k24.K w t c ∧ ∀ j u, c[j]? = some u → w.cell? (ad.add (i * 4 + j)) = some u := by
          intro i hi
          have h4 := hrd i hi
          rw [hC, List.getElem?_eq_getElem (by omega)] at h4
          obtain ⟨c, hc, ht⟩ := Option.bind_eq_some_iff.1 h4
          obtain ⟨t, hK, hok⟩ := IH m (by omega) c _ ht
          obtain ⟨_, hcl, hat⟩ := World.cells?_some hc
          refine ⟨t, hok, c, hcl, hK, fun j u hj => ?_⟩
          have hj4 : j < 4 := by
            rcases Nat.lt_or_ge j 4 with h | h
            · exact h
            · rw [List.getElem?_eq_none (by omega)] at hj; simp at hj
          rw [← hj, ← hat j hj4, Go.Deep.add_add]
        obtain ⟨l, hll, hq⟩ := list_of len hall
        have hoks : oks24 l := oks24_of fun t ht => by
          obtain ⟨i, hi, rfl⟩ := List.getElem_of_mem ht
          exact (hq i _ (List.getElem?_eq_getElem hi)).1
        have hlc : l.length ≤ cap := by omega
        have hk := k24_mk w ⟨a, nm, b, l⟩ (A3 := some ad) (c3 := cap) hlc ⟨rfl, by show l.length ≤ _; omega, fun _ => ⟨ad, rfl, fun j p hj => by
          obtain ⟨_, c, h1, h2, h3⟩ := hq j p hj
          exact ⟨c, h1, h2, h3⟩⟩⟩
        refine ⟨⟨a, nm, b, l⟩, ?_, ?_⟩
        · have : (⟨a, nm, b, l⟩ : S24).f3.length = len := hll
          rw [this] at hk; exact hk
        · rw [ok24]; exact ⟨by omega, by omega, hoks⟩
end
/-! #### the numbers of a term's variables, in order -/
mutual
def vsT : S29 → List Int → List Int
  | ⟨a, _, b, ks⟩, l => vsS ks (if a = 1 ∧ l.contains b = false then l ++ [b] else l)
def vsS : List S29 → List Int → List Int
  | [], l => l
  | t :: ts, l => vsS ts (vsT t l)
end
def hdV (t : S29) (l : List Int) : List Int := if t.f0 = 1 ∧ l.contains t.f2 = false then l ++ [t.f2] else l
theorem vsT_eq (t : S29) (l : List Int) : vsT t l = vsS t.f3 (hdV t l) := by cases t; rw [vsT]; rfl
theorem vsS_append : ∀ (ts us : List S29) (l : List Int), vsS (ts ++ us) l = vsS us (vsS ts l)
  | [], us, l => by rw [vsS, List.nil_append]
  | t :: ts, us, l => by rw [List.cons_append, vsS, vsS, vsS_append ts us]
theorem vsS_take (ts : List S29) (i : Nat) (h : i < ts.length) (l : List Int) : vsS (ts.take (i + 1)) l = vsT ts[i] (vsS (ts.take i) l) := by
  rw [List.take_succ_eq_append_getElem h, vsS_append, vsS, vsS]
theorem hdV_len (t : S29) (l : List Int) : (hdV t l).length ≤ l.length + 1 := by
  unfold hdV
  split
  · rw [List.length_append]; exact Nat.le_refl _
  · omega
theorem vs_len (n : Nat) : (∀ t l, ht29 t ≤ n → (vsT t l).length ≤ l.length + cn29 t) ∧ ∀ ts l, hts29 ts ≤ n → (vsS ts l).length ≤ l.length + cns29 ts := by
  induction n with
  | zero =>
    refine ⟨fun t l h => by rw [ht29_eq] at h; omega, fun ts l h => ?_⟩
    cases ts with
    | nil => rw [vsS]; omega
    | cons t ts => rw [hts29] at h; have := ht29_eq t; omega
  | succ n ih =>
    have h1 : ∀ t l, ht29 t ≤ n + 1 → (vsT t l).length ≤ l.length + cn29 t := fun t l h => by
      rw [ht29_eq] at h
      have h2 := ih.2 t.f3 (hdV t l) (by omega)
      have h3 := hdV_len t l
      rw [vsT_eq, cn29_eq]
      omega
    refine ⟨h1, fun ts => ?_⟩
    induction ts with
    | nil => intro l _; rw [vsS]; omega
    | cons t ts ih2 =>
      intro l h
      rw [hts29] at h
      have h2 := h1 t l (by omega)
      have h3 := ih2 (vsT t l) (by omega)
      rw [vsS, cns29]
      omega
theorem vsT_len (t : S29) (l : List Int) : (vsT t l).length ≤ l.length + cn29 t := (vs_len (ht29 t)).1 t l (Nat.le_refl _)
theorem vsS_len (ts : List S29) (l : List Int) : (vsS ts l).length ≤ l.length + cns29 ts := (vs_len (hts29 ts)).2 ts l (Nat.le_refl _)
theorem vi_wrap {i : Int} (h0 : -9223372036854775808 ≤ i) (h1 : i ≤ 9223372036854775807) : wrap64 i = i := by unfold wrap64; omega
theorem rdi_at (xs : List Int) (i : Nat) (h : i < xs.length) : rd xs (i : Int) = xs[i] := by unfold rd; simp [List.getD, h]
theorem int_index (xs : List Int) (v : Int) (hx : xs.length ≤ 4611686018427387000) (d : Nat) : ∀ (k i : Nat), i ≤ xs.length → xs.length - i = d → d < k →
    ∃ r, slices_Index_int_int.l0 k xs v xs.length i = some r ∧ decide (r ≥ 0) = (xs.drop i).contains v := by
  induction d with
  | zero =>
    intro k i hi hd hk
    obtain ⟨k, rfl⟩ : ∃ m, k = m + 1 := ⟨k - 1, by omega⟩
    refine ⟨-1, ?_, ?_⟩
    · simp only [slices_Index_int_int.l0]; rw [if_neg (by omega)]
    · rw [List.drop_eq_nil_of_le (by omega)]; rfl
  | succ d ih =>
    intro k i hi hd hk
    obtain ⟨k, rfl⟩ : ∃ m, k = m + 1 := ⟨k - 1, by omega⟩
    have hlt : i < xs.length := by omega
    rw [List.drop_eq_getElem_cons hlt, List.contains_cons]
    simp only [slices_Index_int_int.l0]
    rw [if_pos (by omega), if_pos (by omega), if_pos (by omega), rdi_at xs i hlt]
    by_cases h : v = xs[i]
    · rw [if_pos h]; exact ⟨i, rfl, by rw [show (v == xs[i]) = true from beq_iff_eq.2 h, Bool.true_or]; exact decide_eq_true (by omega)⟩
    · rw [if_neg h]
      obtain ⟨r, hr, h2⟩ := ih k (i + 1) (by omega) (by omega) (by omega)
      refine ⟨r, ?_, ?_⟩
      · rw [vi_wrap (by omega) (by omega)]; exact hr
      · rw [h2, show (v == xs[i]) = false from beq_eq_false_iff_ne.2 h, Bool.false_or]
theorem con_ok (xs : List Int) (v : Int) (hx : xs.length ≤ 4611686018427387000) : slices_Contains_int_int.f (xs.length + 1) xs v = some (xs.contains v) := by
  unfold slices_Contains_int_int.f slices_Index_int_int.f
  obtain ⟨r, hr, h2⟩ := int_index xs v hx xs.length (xs.length + 1) 0 (by omega) rfl (by omega)
  rw [show ((0 : Nat) : Int) = 0 from rfl] at hr
  rw [hr, Option.bind_some, h2, List.drop_zero]
theorem has_ok (xs : List Int) (v : Int) (hx : xs.length ≤ 4611686018427387000) : spec_l03Has.f (xs.length + 1) xs v = some (xs.contains v) := by
  have hl : ∀ (d k i : Nat), i ≤ xs.length → xs.length - i = d → d < k → spec_l03Has.l0 k xs v i = some ((xs.drop i).contains v) := by
    intro d
    induction d with
    | zero =>
      intro k i hi hd hk
      obtain ⟨k, rfl⟩ : ∃ m, k = m + 1 := ⟨k - 1, by omega⟩
      simp only [spec_l03Has.l0]
      rw [if_neg (by omega), List.drop_eq_nil_of_le (by omega)]; rfl
    | succ d ih =>
      intro k i hi hd hk
      obtain ⟨k, rfl⟩ : ∃ m, k = m + 1 := ⟨k - 1, by omega⟩
      have hlt : i < xs.length := by omega
      rw [List.drop_eq_getElem_cons hlt, List.contains_cons]
      simp only [spec_l03Has.l0]
      rw [if_pos (by omega), if_pos (by omega), rdi_at xs i hlt]
      by_cases h : xs[i] = v
      · rw [if_pos h, show (v == xs[i]) = true from beq_iff_eq.2 h.symm, Bool.true_or]
      · rw [if_neg h, show (v == xs[i]) = false from beq_eq_false_iff_ne.2 (fun e => h e.symm), Bool.false_or]
        rw [vi_wrap (by omega) (by omega)]
        exact ih k (i + 1) (by omega) (by omega) (by omega)
  unfold spec_l03Has.f
  have := hl xs.length (xs.length + 1) 0 (by omega) rfl (by omega)
  rw [List.drop_zero] at this
  exact this
theorem readI {e : Nat} {w : World} {base : Nat} {ok : Nat → Prop} {A : Option Addr} {n c : Nat} {xs : List Int} (h : Kd.R (Kd.int .i64) e w base ok (.slice A n c) xs) : n ≤ c ∧ Kd.C (Kd.int .i64) w A n xs := by
  obtain ⟨h1, h2, h3⟩ := Kd.R_reads' h
  rw [h1]
  exact ⟨by omega, h3⟩
/-! #### addVars, l03Vars, VarsOf -/
section
set_option linter.unusedSectionVars false
variable [fk_laws_szTerm] [fk_laws_toTerm] [fk_laws_eqTerm]
def AddT (t : S29) : Prop := ∀ (l : List Int) (v : Value) (A : Option Addr) (c : Nat) (w u : World) (P : Nat → Prop), l.length + cn29 t ≤ 4194304 → Kd.C k29 w A t.f3.length t.f3 → t.f3.length ≤ c → Below w.heap.size w u → Kd.R (Kd.int .i64) 3 u w.heap.size P v l →
  Calls Try.prog 78 #[v, .agg #[.int .i64 t.f0, .string t.f1, .int .i64 t.f2, .slice A t.f3.length c]] u fun e u' => ∃ v', e = .returned v' ∧ Kd.R (Kd.int .i64) 3 u' w.heap.size (fun k_ => P k_ ∨ u.heap.size ≤ k_) v' (vsT t l) ∧ Below w.heap.size w u' ∧ Kept u u' P
set_option maxHeartbeats 16000000 in
set_option maxRecDepth 100000 in
theorem add_step (t : S29) (ih : ∀ x ∈ t.f3, AddT x) : AddT t := by
  intro l v A c w u P hln hC hc hB hR
  obtain ⟨A0, c0, rfl⟩ := Kd.R_slice hR
  have IH := Aside0.mk ih
  have HLN := Aside0.mk hln
  have HC := Aside0.mk hC
  have HCC := Aside0.mk hc
  have HB := Aside0.mk hB
  have HWU := Aside0.mk hB.size
  have HK := Aside0.mk (Kept.refl u P)
  have HR0 := Aside0.mk (show Kd.R (Kd.int .i64) 3 u w.heap.size (fun k_ => P k_ ∨ u.heap.size ≤ k_) (.slice A0 l.length c0) (l) from Kd.R_mono hR (fun k_ hk_ => .inl hk_))
  have hcn := cn29_eq t
  have hmx := hC.2.1
  have HCN0 := con_ok l t.f2 (by omega)
  clear ih hln hC hc hB hR hcn
  by_cases c1 : t.f0 = 1
  · have d1 : (t.f0 == 1) = true := beq_iff_eq.2 c1
    have d2 : decide (t.f0 = 1) = true := decide_eq_true c1
    cases c2 : l.contains t.f2 with
    | true =>
      rw [c2] at HCN0
      have HCN := Aside0.mk HCN0
      clear HCN0
      go_enter Try.func78, Try.ntmps78
      go_wp2_with (first
        | ((with_reducible refine gate_dst (N := 3) rfl ?_); refine box_event ?hg3 (N := 3) ?hd3 (cs := #[.int .i64 t.f0, .string t.f1, .int .i64 t.f2, .slice A t.f3.length c]) (t := 29) ?hr3 ?_; (case hd3 => rfl); (case hg3 => rfl); (case hr3 => first | (go_simp; done) | (go_simp; rfl)); intro ga hg w1 hbox hb; have HG_ga := Aside0.mk (show u.heap.size ≤ ga from Nat.le_of_eq hg.symm); have BK_ga := Aside0.mk hbox; have HLT_ga := Aside0.mk (blk_lt hbox); have HR := Aside0.mk (show Kd.R (Kd.int .i64) 3 w1 w.heap.size (fun k_ => (P k_ ∨ u.heap.size ≤ k_) ∧ k_ ≠ ga) (.slice A0 l.length c0) (l) from Kd.R_mono (Kd.R_below (Kd.R_bound HR0.out) hb) (fun k_ hk_ => ⟨hk_.1, fun e_ => by have := hk_.2.2.1; omega⟩)); clear HR0; have q_ := Aside0.mk (below_step HB.out hb); clear HB; have HB := q_; clear q_; have q_ := Aside0.mk (Kept.below HK.out hb); clear HK; have HK := q_; clear q_; have hc_ga_0 : w1.cell? ⟨ga, 0, none⟩ = some (.int .i64 t.f0) := (blk_cell BK_ga.out 0).trans rfl; have fc_ga_0 := blk_frozen BK_ga.out 0; have hc_ga_1 : w1.cell? ⟨ga, 1, none⟩ = some (.string t.f1) := (blk_cell BK_ga.out 1).trans rfl; have fc_ga_1 := blk_frozen BK_ga.out 1; have hc_ga_2 : w1.cell? ⟨ga, 2, none⟩ = some (.int .i64 t.f2) := (blk_cell BK_ga.out 2).trans rfl; have fc_ga_2 := blk_frozen BK_ga.out 2; have hc_ga_3 : w1.cell? ⟨ga, 3, none⟩ = some (.slice A t.f3.length c) := (blk_cell BK_ga.out 3).trans rfl; have fc_ga_3 := blk_frozen BK_ga.out 3; clear hg hbox hb)
        | (go_at_call 109; refine (slices_Contains_int_int.calls (l.length + 1) A0 c0 l t.f2 true _ (readI HR.out).2 (readI HR.out).1 HCN.out).mono ?_; rintro e w2 ⟨rfl, hd⟩; have hb := hd.below; have q_ := Aside0.mk (blk_below BK_ga.out hb); clear BK_ga; have BK_ga := q_; clear q_; have q_ := Aside0.mk (Kd.R_below HR.out hb); clear HR; have HR := q_; clear q_; have q_ := Aside0.mk (below_step HB.out hb); clear HB; have HB := q_; clear q_; have q_ := Aside0.mk (Kept.below HK.out hb); clear HK; have HK := q_; clear q_; have q_ := Aside0.mk (Nat.lt_of_lt_of_le HLT_ga.out hb.size); clear HLT_ga; have HLT_ga := q_; clear q_; have he_ga_0 : w2.cell? ⟨ga, 0, none⟩ = some (.int .i64 t.f0) := (blk_cell BK_ga.out 0).trans rfl; have fe_ga_0 := blk_frozen BK_ga.out 0; have he_ga_1 : w2.cell? ⟨ga, 1, none⟩ = some (.string t.f1) := (blk_cell BK_ga.out 1).trans rfl; have fe_ga_1 := blk_frozen BK_ga.out 1; have he_ga_2 : w2.cell? ⟨ga, 2, none⟩ = some (.int .i64 t.f2) := (blk_cell BK_ga.out 2).trans rfl; have fe_ga_2 := blk_frozen BK_ga.out 2; have he_ga_3 : w2.cell? ⟨ga, 3, none⟩ = some (.slice A t.f3.length c) := (blk_cell BK_ga.out 3).trans rfl; have fe_ga_3 := blk_frozen BK_ga.out 3; clear hb hd))
      obtain ⟨l2, hl2⟩ : ∃ l2, l2 = l := ⟨_, rfl⟩
      have HL2 := Aside0.mk (show l2 = hdV t l by rw [hl2]; unfold hdV; rw [if_neg (fun z => by rw [c2] at z; exact absurd z.2 (by decide))])
      have HR1 := Aside0.mk (show Kd.R (Kd.int .i64) 3 _ w.heap.size (fun k_ => P k_ ∨ u.heap.size ≤ k_) _ (l2) from by rw [hl2]; exact Kd.R_mono HR.out (fun k_ hk_ => hk_.1))
      clear HR hl2
      go_loopg [0, 25] t.f3.length (fun m v0 vi u' => ∃ i : Nat, vi = .int .i64 i ∧ Aside0 (m + i = t.f3.length) ∧ Aside0 (Kd.R (Kd.int .i64) 3 u' w.heap.size (fun k_ => P k_ ∨ u.heap.size ≤ k_) v0 (vsS (t.f3.take i) l2)) ∧ Aside0 (Below w.heap.size w u') ∧ Aside0 (Kept u u' P))
      case atStart => exact ⟨0, rfl, ⟨by omega⟩, ⟨by simpa [vsS] using HR1.out⟩, HB, HK⟩
      case round =>
        clear HR1 HB HK BK_ga
        obtain ⟨i, rfl, hi, HR0, HB, HK⟩ := hrel
        obtain ⟨A1, c1, hv1⟩ := Kd.R_slice HR0.out
        obtain ⟨n1, hn1⟩ : ∃ n1, n1 = (vsS (t.f3.take i) l2).length := ⟨_, rfl⟩
        rw [← hn1] at hv1
        subst hv1
        have HN1 := Aside0.mk hn1
        clear hn1
        by_cases hlt : (i : Int) < (t.f3.length : Int)
        · have c3b0 : decide ((i : Int) < (t.f3.length : Int)) = true := decide_eq_true hlt
          have hlt' : i < t.f3.length := by omega
          have c3b1 : decide (i < t.f3.length) = true := decide_eq_true hlt'
          obtain ⟨ad, A3, c3, e1, hx0, hx1, hx2, hx3, hl3, hi3⟩ := at_T29 HC.out (i : Int) (by omega) hlt
          cases e1
          obtain ⟨x, hx⟩ : ∃ x, x = t.f3[i] := ⟨_, rfl⟩
          have hrd : rd_T29 t.f3 (i : Int) = x := by rw [hx]; exact rd29_at t.f3 i hlt'
          rw [hrd] at hx0 hx1 hx2 hx3 hl3 hi3
          have HX := Aside0.mk (show x ∈ t.f3 by rw [hx]; exact List.getElem_mem hlt')
          have HXI := Aside0.mk hx
          have HNX := Aside0.mk (show vsS (t.f3.take (i + 1)) l2 = vsT x (vsS (t.f3.take i) l2) by rw [hx]; exact vsS_take t.f3 i hlt' l2)
          have HCX := Aside0.mk hi3
          have HLX := Aside0.mk hl3
          clear hi3 hl3 hrd hx
          have HKU := Aside0.mk HK.out.1
          replace hx0 := (HB.out.cell (World.block_lt_of_cell? w _ hx0)).trans hx0
          replace hx1 := (HB.out.cell (World.block_lt_of_cell? w _ hx1)).trans hx1
          replace hx2 := (HB.out.cell (World.block_lt_of_cell? w _ hx2)).trans hx2
          replace hx3 := (HB.out.cell (World.block_lt_of_cell? w _ hx3)).trans hx3
          simp only [Int.toNat_natCast] at hx0 hx1 hx2 hx3
          have HBD := Aside0.mk (show (vsS (t.f3.take i) l2).length + cn29 x ≤ 4194304 by
            have h1_ := vsS_len (t.f3.take i) l2
            have h2_ := hdV_len t l
            have h3_ := HLN.out
            have h4_ := HL2.out
            have h5_ := cns29_append (t.f3.take i) (t.f3.drop i)
            rw [List.take_append_drop, List.drop_eq_getElem_cons hlt', cns29, ← HXI.out] at h5_
            rw [← h4_] at h2_
            have h6_ := cn29_eq t
            omega)
          go_wp2_with (first
            | ((with_reducible refine gate_dst (N := 6) rfl ?_); refine box_event ?hg6 (N := 6) ?hd6 (cs := #[.int .i64 0, .string (⟨#[]⟩ : ByteArray), .int .i64 0, .slice none 0 0]) (t := 29) ?hr6 ?_; (case hd6 => rfl); (case hg6 => rfl); (case hr6 => first | (go_simp; done) | (go_simp; rfl)); intro gk hg w5 hbox hb; have HG_gk := Aside0.mk (show wr.heap.size ≤ gk from Nat.le_of_eq hg.symm); have BK_gk := Aside0.mk hbox; have HR := Aside0.mk (Kd.R_mono (ok' := fun k_ => (P k_ ∨ u.heap.size ≤ k_) ∧ k_ ≠ gk) (Kd.R_below (Kd.R_bound HR0.out) hb) (fun k_ hk_ => ⟨hk_.1, fun e_ => by have := hk_.2.2.1; omega⟩)); clear HR0; have q_ := Aside0.mk (below_step HB.out hb); clear HB; have HB := q_; clear q_; have q_ := Aside0.mk (Kept.below HK.out hb); clear HK; have HK := q_; clear q_; have hx0_ := (hb.cell (World.block_lt_of_cell? wr _ hx0)).trans hx0; have hx1_ := (hb.cell (World.block_lt_of_cell? wr _ hx1)).trans hx1; have hx2_ := (hb.cell (World.block_lt_of_cell? wr _ hx2)).trans hx2; have hx3_ := (hb.cell (World.block_lt_of_cell? wr _ hx3)).trans hx3; clear hx0 hx1 hx2 hx3; have hz_gk_0 : w5.cell? ⟨gk, 0, none⟩ = some (.int .i64 0) := (blk_cell BK_gk.out 0).trans rfl; have fz_gk_0 := blk_frozen BK_gk.out 0; have hz_gk_1 : w5.cell? ⟨gk, 1, none⟩ = some (.string (⟨#[]⟩ : ByteArray)) := (blk_cell BK_gk.out 1).trans rfl; have fz_gk_1 := blk_frozen BK_gk.out 1; have hz_gk_2 : w5.cell? ⟨gk, 2, none⟩ = some (.int .i64 0) := (blk_cell BK_gk.out 2).trans rfl; have fz_gk_2 := blk_frozen BK_gk.out 2; have hz_gk_3 : w5.cell? ⟨gk, 3, none⟩ = some (.slice none 0 0) := (blk_cell BK_gk.out 3).trans rfl; have fz_gk_3 := blk_frozen BK_gk.out 3; clear hg hbox hb)
            | ((with_reducible refine gate_store (t := 29) (p := 6) rfl ?_); refine store_event (t := 29) (p := 6) (v := ?vo6) (w1 := ((((w5.setCell ⟨gk, 0, none⟩ (.int .i64 x.f0)).setCell ⟨gk, 1, none⟩ (.string x.f1)).setCell ⟨gk, 2, none⟩ (.int .i64 x.f2)).setCell ⟨gk, 3, none⟩ (.slice A3 x.f3.length c3))) ?hgs6 ?hos6 ?hns6 ?hrs6 ?_; (case hos6 => rfl); (case hgs6 => rfl); (case hns6 => rfl); (case hrs6 => first | (go_simp; done) | (go_simp; rfl)); intro w6 hw; subst hw; have HGU := Aside0.mk (show u.heap.size ≤ gk from Nat.le_trans HKU.out HG_gk.out); have HGW := Aside0.mk (show w.heap.size ≤ gk from Nat.le_trans HWU.out HGU.out); have BK6 := Aside0.mk (show ((((w5.setCell ⟨gk, 0, none⟩ (.int .i64 x.f0)).setCell ⟨gk, 1, none⟩ (.string x.f1)).setCell ⟨gk, 2, none⟩ (.int .i64 x.f2)).setCell ⟨gk, 3, none⟩ (.slice A3 x.f3.length c3)).heap[gk]? = some (.cells #[.int .i64 x.f0, .string x.f1, .int .i64 x.f2, .slice A3 x.f3.length c3] 29 (0, 0)) from by refine blk_put (cs := #[.int .i64 x.f0, .string x.f1, .int .i64 x.f2, .slice none 0 0]) ?_ 3 _ rfl; refine blk_put (cs := #[.int .i64 x.f0, .string x.f1, .int .i64 0, .slice none 0 0]) ?_ 2 _ rfl; refine blk_put (cs := #[.int .i64 x.f0, .string (⟨#[]⟩ : ByteArray), .int .i64 0, .slice none 0 0]) ?_ 1 _ rfl; refine blk_put (cs := #[.int .i64 0, .string (⟨#[]⟩ : ByteArray), .int .i64 0, .slice none 0 0]) ?_ 0 _ rfl; exact BK_gk.out); have nb_ := Aside0.mk (show Below w.heap.size w ((((w5.setCell ⟨gk, 0, none⟩ (.int .i64 x.f0)).setCell ⟨gk, 1, none⟩ (.string x.f1)).setCell ⟨gk, 2, none⟩ (.int .i64 x.f2)).setCell ⟨gk, 3, none⟩ (.slice A3 x.f3.length c3)) from (below_set (below_set (below_set (below_set HB.out HGW.out) HGW.out) HGW.out) HGW.out)); have nk_ := Aside0.mk (show Kept u ((((w5.setCell ⟨gk, 0, none⟩ (.int .i64 x.f0)).setCell ⟨gk, 1, none⟩ (.string x.f1)).setCell ⟨gk, 2, none⟩ (.int .i64 x.f2)).setCell ⟨gk, 3, none⟩ (.slice A3 x.f3.length c3)) P from (Kept.setCell (Kept.setCell (Kept.setCell (Kept.setCell HK.out (p := ⟨gk, 0, none⟩) (.inr HGU.out) _) (p := ⟨gk, 1, none⟩) (.inr HGU.out) _) (p := ⟨gk, 2, none⟩) (.inr HGU.out) _) (p := ⟨gk, 3, none⟩) (.inr HGU.out) _)); have nr_ := Aside0.mk (show Kd.R (Kd.int .i64) 3 ((((w5.setCell ⟨gk, 0, none⟩ (.int .i64 x.f0)).setCell ⟨gk, 1, none⟩ (.string x.f1)).setCell ⟨gk, 2, none⟩ (.int .i64 x.f2)).setCell ⟨gk, 3, none⟩ (.slice A3 x.f3.length c3)) w.heap.size (fun k_ => (P k_ ∨ u.heap.size ≤ k_) ∧ k_ ≠ gk) (.slice A1 n1 c1) (vsS (t.f3.take i) l2) from (Kd.R_far (p := ⟨gk, 3, none⟩) (Kd.R_far (p := ⟨gk, 2, none⟩) (Kd.R_far (p := ⟨gk, 1, none⟩) (Kd.R_far (p := ⟨gk, 0, none⟩) HR.out (fun k_ hk_ => hk_.2) _) (fun k_ hk_ => hk_.2) _) (fun k_ hk_ => hk_.2) _) (fun k_ hk_ => hk_.2) _)); clear HB HK HR BK_gk hz_gk_0 hz_gk_1 hz_gk_2 hz_gk_3 fz_gk_0 fz_gk_1 fz_gk_2 fz_gk_3; have HB := nb_; have HK := nk_; have HR := nr_; clear nb_ nk_ nr_; generalize ((((w5.setCell ⟨gk, 0, none⟩ (.int .i64 x.f0)).setCell ⟨gk, 1, none⟩ (.string x.f1)).setCell ⟨gk, 2, none⟩ (.int .i64 x.f2)).setCell ⟨gk, 3, none⟩ (.slice A3 x.f3.length c3)) = w7 at HB HK HR BK6 ⊢; have hy0 : w7.cell? ⟨gk, 0, none⟩ = some (.int .i64 x.f0) := (blk_cell BK6.out 0).trans rfl; have fy0 := blk_frozen BK6.out 0; have hy1 : w7.cell? ⟨gk, 1, none⟩ = some (.string x.f1) := (blk_cell BK6.out 1).trans rfl; have fy1 := blk_frozen BK6.out 1; have hy2 : w7.cell? ⟨gk, 2, none⟩ = some (.int .i64 x.f2) := (blk_cell BK6.out 2).trans rfl; have fy2 := blk_frozen BK6.out 2; have hy3 : w7.cell? ⟨gk, 3, none⟩ = some (.slice A3 x.f3.length c3) := (blk_cell BK6.out 3).trans rfl; have fy3 := blk_frozen BK6.out 3)
            | (go_at_call 78; refine (IH.out x HX.out (vsS (t.f3.take i) l2) (.slice A1 n1 c1) A3 c3 w w7 (fun k_ => P k_ ∨ u.heap.size ≤ k_) HBD.out HCX.out HLX.out HB.out (Kd.R_mono HR.out (fun k_ hk_ => hk_.1))).mono ?_; rintro e w8 ⟨v9, rfl, ho, hb, hk⟩))
          go_roundg (t.f3.length - (i + 1))
          case measure => have := hi.out; omega
          case rel => exact ⟨i + 1, by go_num, ⟨by have := hi.out; omega⟩, ⟨by rw [HNX.out]; exact Kd.R_mono ho (fun k_ hk_ => hk_.elim (fun z => z) (fun z => .inr (Nat.le_trans HK.out.1 z)))⟩, ⟨hb⟩, ⟨HK.out.then_ hk (fun k_ hk_ => hk_)⟩⟩
        · have c3b0 : decide ((i : Int) < (t.f3.length : Int)) = false := decide_eq_false hlt
          have c3b1 : decide (i < t.f3.length) = false := decide_eq_false (by omega)
          have hie : t.f3.take i = t.f3 := List.take_of_length_le (by omega)
          have HR2 := HR0.out
          rw [hie] at HR2
          have HRZ := Aside0.mk HR2
          clear HR2 hie
          go_wp2
          go_ret
          exact ⟨_, rfl, by rw [vsT_eq, ← HL2.out]; exact Kd.R_mono HRZ.out (fun k_ hk_ => hk_), HB.out, HK.out⟩
    | false =>
      rw [c2] at HCN0
      have HCN := Aside0.mk HCN0
      clear HCN0
      go_enter Try.func78, Try.ntmps78
      go_wp2_with (first
        | ((with_reducible refine gate_dst (N := 3) rfl ?_); refine box_event ?hg3 (N := 3) ?hd3 (cs := #[.int .i64 t.f0, .string t.f1, .int .i64 t.f2, .slice A t.f3.length c]) (t := 29) ?hr3 ?_; (case hd3 => rfl); (case hg3 => rfl); (case hr3 => first | (go_simp; done) | (go_simp; rfl)); intro ga hg w1 hbox hb; have HG_ga := Aside0.mk (show u.heap.size ≤ ga from Nat.le_of_eq hg.symm); have BK_ga := Aside0.mk hbox; have HLT_ga := Aside0.mk (blk_lt hbox); have HR := Aside0.mk (show Kd.R (Kd.int .i64) 3 w1 w.heap.size (fun k_ => (P k_ ∨ u.heap.size ≤ k_) ∧ k_ ≠ ga) (.slice A0 l.length c0) (l) from Kd.R_mono (Kd.R_below (Kd.R_bound HR0.out) hb) (fun k_ hk_ => ⟨hk_.1, fun e_ => by have := hk_.2.2.1; omega⟩)); clear HR0; have q_ := Aside0.mk (below_step HB.out hb); clear HB; have HB := q_; clear q_; have q_ := Aside0.mk (Kept.below HK.out hb); clear HK; have HK := q_; clear q_; have hc_ga_0 : w1.cell? ⟨ga, 0, none⟩ = some (.int .i64 t.f0) := (blk_cell BK_ga.out 0).trans rfl; have fc_ga_0 := blk_frozen BK_ga.out 0; have hc_ga_1 : w1.cell? ⟨ga, 1, none⟩ = some (.string t.f1) := (blk_cell BK_ga.out 1).trans rfl; have fc_ga_1 := blk_frozen BK_ga.out 1; have hc_ga_2 : w1.cell? ⟨ga, 2, none⟩ = some (.int .i64 t.f2) := (blk_cell BK_ga.out 2).trans rfl; have fc_ga_2 := blk_frozen BK_ga.out 2; have hc_ga_3 : w1.cell? ⟨ga, 3, none⟩ = some (.slice A t.f3.length c) := (blk_cell BK_ga.out 3).trans rfl; have fc_ga_3 := blk_frozen BK_ga.out 3; clear hg hbox hb)
        | (go_at_call 109; refine (slices_Contains_int_int.calls (l.length + 1) A0 c0 l t.f2 false _ (readI HR.out).2 (readI HR.out).1 HCN.out).mono ?_; rintro e w2 ⟨rfl, hd⟩; have hb := hd.below; have q_ := Aside0.mk (blk_below BK_ga.out hb); clear BK_ga; have BK_ga := q_; clear q_; have q_ := Aside0.mk (Kd.R_below HR.out hb); clear HR; have HR := q_; clear q_; have q_ := Aside0.mk (below_step HB.out hb); clear HB; have HB := q_; clear q_; have q_ := Aside0.mk (Kept.below HK.out hb); clear HK; have HK := q_; clear q_; have q_ := Aside0.mk (Nat.lt_of_lt_of_le HLT_ga.out hb.size); clear HLT_ga; have HLT_ga := q_; clear q_; have he_ga_0 : w2.cell? ⟨ga, 0, none⟩ = some (.int .i64 t.f0) := (blk_cell BK_ga.out 0).trans rfl; have fe_ga_0 := blk_frozen BK_ga.out 0; have he_ga_1 : w2.cell? ⟨ga, 1, none⟩ = some (.string t.f1) := (blk_cell BK_ga.out 1).trans rfl; have fe_ga_1 := blk_frozen BK_ga.out 1; have he_ga_2 : w2.cell? ⟨ga, 2, none⟩ = some (.int .i64 t.f2) := (blk_cell BK_ga.out 2).trans rfl; have fe_ga_2 := blk_frozen BK_ga.out 2; have he_ga_3 : w2.cell? ⟨ga, 3, none⟩ = some (.slice A t.f3.length c) := (blk_cell BK_ga.out 3).trans rfl; have fe_ga_3 := blk_frozen BK_ga.out 3; clear hb hd)
        | ((with_reducible refine gate_builtin (b := .append) (xs := #[.tmp 17, .tmp 20]) rfl ?_); at_builtin; refine Kd.R_append (Kd.int .i64) (w0 := w) w.heap.size rfl (.tmp 17) (.tmp 20) 44 3 (.int .i64 0) 8 rfl Try.underlying44 info3 rfl (by decide) (by omega) (.slice A0 l.length c0) l t.f2 [.int .i64 t.f2] (fun k_ => (P k_ ∨ u.heap.size ≤ k_) ∧ k_ ≠ ga) (fun _ => False) rfl rfl ?aP (fun _ hk => hk.elim) ?aF ?aO ?aB ?aS ?aL ?_; (case aP => exact rfl); (case aB => exact HB.out); (case aF => exact (fun k_ hk_ => ⟨.inr (Nat.le_trans HK.out.1 hk_), fun e_ => by have := HLT_ga.out; omega⟩)); (case aO => exact HR.out); (case aS => exact (below_size HB.out)); (case aL => have := HLN.out; omega); intro v5 w3 ho hbl hg hat; have q_ := Aside0.mk (blk_grown BK_ga.out hg (fun e_ => (HR.out.1 ga e_.symm).2 rfl)); clear BK_ga; have BK_ga := q_; clear q_; have q_ := Aside0.mk (Kept.of_grown hg HK.out (fun k_ hk_ => (HR.out.1 k_ hk_).1)); clear HK; have HK := q_; clear q_; clear HB HR; have HB := Aside0.mk hbl; have HR := Aside0.mk ho; have hh_ga_0 : w3.cell? ⟨ga, 0, none⟩ = some (.int .i64 t.f0) := (blk_cell BK_ga.out 0).trans rfl; have fh_ga_0 := blk_frozen BK_ga.out 0; have hh_ga_1 : w3.cell? ⟨ga, 1, none⟩ = some (.string t.f1) := (blk_cell BK_ga.out 1).trans rfl; have fh_ga_1 := blk_frozen BK_ga.out 1; have hh_ga_2 : w3.cell? ⟨ga, 2, none⟩ = some (.int .i64 t.f2) := (blk_cell BK_ga.out 2).trans rfl; have fh_ga_2 := blk_frozen BK_ga.out 2; have hh_ga_3 : w3.cell? ⟨ga, 3, none⟩ = some (.slice A t.f3.length c) := (blk_cell BK_ga.out 3).trans rfl; have fh_ga_3 := blk_frozen BK_ga.out 3; clear ho hbl hg hat))
      obtain ⟨l2, hl2⟩ : ∃ l2, l2 = l ++ [t.f2] := ⟨_, rfl⟩
      have HL2 := Aside0.mk (show l2 = hdV t l by rw [hl2]; unfold hdV; rw [if_pos ⟨c1, c2⟩])
      have HR1 := Aside0.mk (show Kd.R (Kd.int .i64) 3 _ w.heap.size (fun k_ => P k_ ∨ u.heap.size ≤ k_) _ (l2) from by rw [hl2]; exact Kd.R_mono HR.out (fun k_ hk_ => hk_.1))
      clear HR hl2
      go_loopg [0, 25] t.f3.length (fun m v0 vi u' => ∃ i : Nat, vi = .int .i64 i ∧ Aside0 (m + i = t.f3.length) ∧ Aside0 (Kd.R (Kd.int .i64) 3 u' w.heap.size (fun k_ => P k_ ∨ u.heap.size ≤ k_) v0 (vsS (t.f3.take i) l2)) ∧ Aside0 (Below w.heap.size w u') ∧ Aside0 (Kept u u' P))
      case atStart => exact ⟨0, rfl, ⟨by omega⟩, ⟨by simpa [vsS] using HR1.out⟩, HB, HK⟩
      case round =>
        clear HR1 HB HK BK_ga
        obtain ⟨i, rfl, hi, HR0, HB, HK⟩ := hrel
        obtain ⟨A1, c1, hv1⟩ := Kd.R_slice HR0.out
        obtain ⟨n1, hn1⟩ : ∃ n1, n1 = (vsS (t.f3.take i) l2).length := ⟨_, rfl⟩
        rw [← hn1] at hv1
        subst hv1
        have HN1 := Aside0.mk hn1
        clear hn1
        by_cases hlt : (i : Int) < (t.f3.length : Int)
        · have c3b0 : decide ((i : Int) < (t.f3.length : Int)) = true := decide_eq_true hlt
          have hlt' : i < t.f3.length := by omega
          have c3b1 : decide (i < t.f3.length) = true := decide_eq_true hlt'
          obtain ⟨ad, A3, c3, e1, hx0, hx1, hx2, hx3, hl3, hi3⟩ := at_T29 HC.out (i : Int) (by omega) hlt
          cases e1
          obtain ⟨x, hx⟩ : ∃ x, x = t.f3[i] := ⟨_, rfl⟩
          have hrd : rd_T29 t.f3 (i : Int) = x := by rw [hx]; exact rd29_at t.f3 i hlt'
          rw [hrd] at hx0 hx1 hx2 hx3 hl3 hi3
          have HX := Aside0.mk (show x ∈ t.f3 by rw [hx]; exact List.getElem_mem hlt')
          have HXI := Aside0.mk hx
          have HNX := Aside0.mk (show vsS (t.f3.take (i + 1)) l2 = vsT x (vsS (t.f3.take i) l2) by rw [hx]; exact vsS_take t.f3 i hlt' l2)
          have HCX := Aside0.mk hi3
          have HLX := Aside0.mk hl3
          clear hi3 hl3 hrd hx
          have HKU := Aside0.mk HK.out.1
          replace hx0 := (HB.out.cell (World.block_lt_of_cell? w _ hx0)).trans hx0
          replace hx1 := (HB.out.cell (World.block_lt_of_cell? w _ hx1)).trans hx1
          replace hx2 := (HB.out.cell (World.block_lt_of_cell? w _ hx2)).trans hx2
          replace hx3 := (HB.out.cell (World.block_lt_of_cell? w _ hx3)).trans hx3
          simp only [Int.toNat_natCast] at hx0 hx1 hx2 hx3
          have HBD := Aside0.mk (show (vsS (t.f3.take i) l2).length + cn29 x ≤ 4194304 by
            have h1_ := vsS_len (t.f3.take i) l2
            have h2_ := hdV_len t l
            have h3_ := HLN.out
            have h4_ := HL2.out
            have h5_ := cns29_append (t.f3.take i) (t.f3.drop i)
            rw [List.take_append_drop, List.drop_eq_getElem_cons hlt', cns29, ← HXI.out] at h5_
            rw [← h4_] at h2_
            have h6_ := cn29_eq t
            omega)
          go_wp2_with (first
            | ((with_reducible refine gate_dst (N := 6) rfl ?_); refine box_event ?hg6 (N := 6) ?hd6 (cs := #[.int .i64 0, .string (⟨#[]⟩ : ByteArray), .int .i64 0, .slice none 0 0]) (t := 29) ?hr6 ?_; (case hd6 => rfl); (case hg6 => rfl); (case hr6 => first | (go_simp; done) | (go_simp; rfl)); intro gk hg w5 hbox hb; have HG_gk := Aside0.mk (show wr.heap.size ≤ gk from Nat.le_of_eq hg.symm); have BK_gk := Aside0.mk hbox; have HR := Aside0.mk (Kd.R_mono (ok' := fun k_ => (P k_ ∨ u.heap.size ≤ k_) ∧ k_ ≠ gk) (Kd.R_below (Kd.R_bound HR0.out) hb) (fun k_ hk_ => ⟨hk_.1, fun e_ => by have := hk_.2.2.1; omega⟩)); clear HR0; have q_ := Aside0.mk (below_step HB.out hb); clear HB; have HB := q_; clear q_; have q_ := Aside0.mk (Kept.below HK.out hb); clear HK; have HK := q_; clear q_; have hx0_ := (hb.cell (World.block_lt_of_cell? wr _ hx0)).trans hx0; have hx1_ := (hb.cell (World.block_lt_of_cell? wr _ hx1)).trans hx1; have hx2_ := (hb.cell (World.block_lt_of_cell? wr _ hx2)).trans hx2; have hx3_ := (hb.cell (World.block_lt_of_cell? wr _ hx3)).trans hx3; clear hx0 hx1 hx2 hx3; have hz_gk_0 : w5.cell? ⟨gk, 0, none⟩ = some (.int .i64 0) := (blk_cell BK_gk.out 0).trans rfl; have fz_gk_0 := blk_frozen BK_gk.out 0; have hz_gk_1 : w5.cell? ⟨gk, 1, none⟩ = some (.string (⟨#[]⟩ : ByteArray)) := (blk_cell BK_gk.out 1).trans rfl; have fz_gk_1 := blk_frozen BK_gk.out 1; have hz_gk_2 : w5.cell? ⟨gk, 2, none⟩ = some (.int .i64 0) := (blk_cell BK_gk.out 2).trans rfl; have fz_gk_2 := blk_frozen BK_gk.out 2; have hz_gk_3 : w5.cell? ⟨gk, 3, none⟩ = some (.slice none 0 0) := (blk_cell BK_gk.out 3).trans rfl; have fz_gk_3 := blk_frozen BK_gk.out 3; clear hg hbox hb)
            | ((with_reducible refine gate_store (t := 29) (p := 6) rfl ?_); refine store_event (t := 29) (p := 6) (v := ?vo6) (w1 := ((((w5.setCell ⟨gk, 0, none⟩ (.int .i64 x.f0)).setCell ⟨gk, 1, none⟩ (.string x.f1)).setCell ⟨gk, 2, none⟩ (.int .i64 x.f2)).setCell ⟨gk, 3, none⟩ (.slice A3 x.f3.length c3))) ?hgs6 ?hos6 ?hns6 ?hrs6 ?_; (case hos6 => rfl); (case hgs6 => rfl); (case hns6 => rfl); (case hrs6 => first | (go_simp; done) | (go_simp; rfl)); intro w6 hw; subst hw; have HGU := Aside0.mk (show u.heap.size ≤ gk from Nat.le_trans HKU.out HG_gk.out); have HGW := Aside0.mk (show w.heap.size ≤ gk from Nat.le_trans HWU.out HGU.out); have BK6 := Aside0.mk (show ((((w5.setCell ⟨gk, 0, none⟩ (.int .i64 x.f0)).setCell ⟨gk, 1, none⟩ (.string x.f1)).setCell ⟨gk, 2, none⟩ (.int .i64 x.f2)).setCell ⟨gk, 3, none⟩ (.slice A3 x.f3.length c3)).heap[gk]? = some (.cells #[.int .i64 x.f0, .string x.f1, .int .i64 x.f2, .slice A3 x.f3.length c3] 29 (0, 0)) from by refine blk_put (cs := #[.int .i64 x.f0, .string x.f1, .int .i64 x.f2, .slice none 0 0]) ?_ 3 _ rfl; refine blk_put (cs := #[.int .i64 x.f0, .string x.f1, .int .i64 0, .slice none 0 0]) ?_ 2 _ rfl; refine blk_put (cs := #[.int .i64 x.f0, .string (⟨#[]⟩ : ByteArray), .int .i64 0, .slice none 0 0]) ?_ 1 _ rfl; refine blk_put (cs := #[.int .i64 0, .string (⟨#[]⟩ : ByteArray), .int .i64 0, .slice none 0 0]) ?_ 0 _ rfl; exact BK_gk.out); have nb_ := Aside0.mk (show Below w.heap.size w ((((w5.setCell ⟨gk, 0, none⟩ (.int .i64 x.f0)).setCell ⟨gk, 1, none⟩ (.string x.f1)).setCell ⟨gk, 2, none⟩ (.int .i64 x.f2)).setCell ⟨gk, 3, none⟩ (.slice A3 x.f3.length c3)) from (below_set (below_set (below_set (below_set HB.out HGW.out) HGW.out) HGW.out) HGW.out)); have nk_ := Aside0.mk (show Kept u ((((w5.setCell ⟨gk, 0, none⟩ (.int .i64 x.f0)).setCell ⟨gk, 1, none⟩ (.string x.f1)).setCell ⟨gk, 2, none⟩ (.int .i64 x.f2)).setCell ⟨gk, 3, none⟩ (.slice A3 x.f3.length c3)) P from (Kept.setCell (Kept.setCell (Kept.setCell (Kept.setCell HK.out (p := ⟨gk, 0, none⟩) (.inr HGU.out) _) (p := ⟨gk, 1, none⟩) (.inr HGU.out) _) (p := ⟨gk, 2, none⟩) (.inr HGU.out) _) (p := ⟨gk, 3, none⟩) (.inr HGU.out) _)); have nr_ := Aside0.mk (show Kd.R (Kd.int .i64) 3 ((((w5.setCell ⟨gk, 0, none⟩ (.int .i64 x.f0)).setCell ⟨gk, 1, none⟩ (.string x.f1)).setCell ⟨gk, 2, none⟩ (.int .i64 x.f2)).setCell ⟨gk, 3, none⟩ (.slice A3 x.f3.length c3)) w.heap.size (fun k_ => (P k_ ∨ u.heap.size ≤ k_) ∧ k_ ≠ gk) (.slice A1 n1 c1) (vsS (t.f3.take i) l2) from (Kd.R_far (p := ⟨gk, 3, none⟩) (Kd.R_far (p := ⟨gk, 2, none⟩) (Kd.R_far (p := ⟨gk, 1, none⟩) (Kd.R_far (p := ⟨gk, 0, none⟩) HR.out (fun k_ hk_ => hk_.2) _) (fun k_ hk_ => hk_.2) _) (fun k_ hk_ => hk_.2) _) (fun k_ hk_ => hk_.2) _)); clear HB HK HR BK_gk hz_gk_0 hz_gk_1 hz_gk_2 hz_gk_3 fz_gk_0 fz_gk_1 fz_gk_2 fz_gk_3; have HB := nb_; have HK := nk_; have HR := nr_; clear nb_ nk_ nr_; generalize ((((w5.setCell ⟨gk, 0, none⟩ (.int .i64 x.f0)).setCell ⟨gk, 1, none⟩ (.string x.f1)).setCell ⟨gk, 2, none⟩ (.int .i64 x.f2)).setCell ⟨gk, 3, none⟩ (.slice A3 x.f3.length c3)) = w7 at HB HK HR BK6 ⊢; have hy0 : w7.cell? ⟨gk, 0, none⟩ = some (.int .i64 x.f0) := (blk_cell BK6.out 0).trans rfl; have fy0 := blk_frozen BK6.out 0; have hy1 : w7.cell? ⟨gk, 1, none⟩ = some (.string x.f1) := (blk_cell BK6.out 1).trans rfl; have fy1 := blk_frozen BK6.out 1; have hy2 : w7.cell? ⟨gk, 2, none⟩ = some (.int .i64 x.f2) := (blk_cell BK6.out 2).trans rfl; have fy2 := blk_frozen BK6.out 2; have hy3 : w7.cell? ⟨gk, 3, none⟩ = some (.slice A3 x.f3.length c3) := (blk_cell BK6.out 3).trans rfl; have fy3 := blk_frozen BK6.out 3)
            | (go_at_call 78; refine (IH.out x HX.out (vsS (t.f3.take i) l2) (.slice A1 n1 c1) A3 c3 w w7 (fun k_ => P k_ ∨ u.heap.size ≤ k_) HBD.out HCX.out HLX.out HB.out (Kd.R_mono HR.out (fun k_ hk_ => hk_.1))).mono ?_; rintro e w8 ⟨v9, rfl, ho, hb, hk⟩))
          go_roundg (t.f3.length - (i + 1))
          case measure => have := hi.out; omega
          case rel => exact ⟨i + 1, by go_num, ⟨by have := hi.out; omega⟩, ⟨by rw [HNX.out]; exact Kd.R_mono ho (fun k_ hk_ => hk_.elim (fun z => z) (fun z => .inr (Nat.le_trans HK.out.1 z)))⟩, ⟨hb⟩, ⟨HK.out.then_ hk (fun k_ hk_ => hk_)⟩⟩
        · have c3b0 : decide ((i : Int) < (t.f3.length : Int)) = false := decide_eq_false hlt
          have c3b1 : decide (i < t.f3.length) = false := decide_eq_false (by omega)
          have hie : t.f3.take i = t.f3 := List.take_of_length_le (by omega)
          have HR2 := HR0.out
          rw [hie] at HR2
          have HRZ := Aside0.mk HR2
          clear HR2 hie
          go_wp2
          go_ret
          exact ⟨_, rfl, by rw [vsT_eq, ← HL2.out]; exact Kd.R_mono HRZ.out (fun k_ hk_ => hk_), HB.out, HK.out⟩
  · have d1 : (t.f0 == 1) = false := beq_eq_false_iff_ne.2 c1
    have d2 : decide (t.f0 = 1) = false := decide_eq_false c1
    clear HCN0
    go_enter Try.func78, Try.ntmps78
    go_wp2_with (((with_reducible refine gate_dst (N := 3) rfl ?_); refine box_event ?hg3 (N := 3) ?hd3 (cs := #[.int .i64 t.f0, .string t.f1, .int .i64 t.f2, .slice A t.f3.length c]) (t := 29) ?hr3 ?_; (case hd3 => rfl); (case hg3 => rfl); (case hr3 => first | (go_simp; done) | (go_simp; rfl)); intro ga hg w1 hbox hb; have HG_ga := Aside0.mk (show u.heap.size ≤ ga from Nat.le_of_eq hg.symm); have BK_ga := Aside0.mk hbox; have HLT_ga := Aside0.mk (blk_lt hbox); have HR := Aside0.mk (show Kd.R (Kd.int .i64) 3 w1 w.heap.size (fun k_ => (P k_ ∨ u.heap.size ≤ k_) ∧ k_ ≠ ga) (.slice A0 l.length c0) (l) from Kd.R_mono (Kd.R_below (Kd.R_bound HR0.out) hb) (fun k_ hk_ => ⟨hk_.1, fun e_ => by have := hk_.2.2.1; omega⟩)); clear HR0; have q_ := Aside0.mk (below_step HB.out hb); clear HB; have HB := q_; clear q_; have q_ := Aside0.mk (Kept.below HK.out hb); clear HK; have HK := q_; clear q_; have hc_ga_0 : w1.cell? ⟨ga, 0, none⟩ = some (.int .i64 t.f0) := (blk_cell BK_ga.out 0).trans rfl; have fc_ga_0 := blk_frozen BK_ga.out 0; have hc_ga_1 : w1.cell? ⟨ga, 1, none⟩ = some (.string t.f1) := (blk_cell BK_ga.out 1).trans rfl; have fc_ga_1 := blk_frozen BK_ga.out 1; have hc_ga_2 : w1.cell? ⟨ga, 2, none⟩ = some (.int .i64 t.f2) := (blk_cell BK_ga.out 2).trans rfl; have fc_ga_2 := blk_frozen BK_ga.out 2; have hc_ga_3 : w1.cell? ⟨ga, 3, none⟩ = some (.slice A t.f3.length c) := (blk_cell BK_ga.out 3).trans rfl; have fc_ga_3 := blk_frozen BK_ga.out 3; clear hg hbox hb))
    obtain ⟨l2, hl2⟩ : ∃ l2, l2 = l := ⟨_, rfl⟩
    have HL2 := Aside0.mk (show l2 = hdV t l by rw [hl2]; unfold hdV; rw [if_neg (fun z => by exact c1 z.1)])
    have HR1 := Aside0.mk (show Kd.R (Kd.int .i64) 3 _ w.heap.size (fun k_ => P k_ ∨ u.heap.size ≤ k_) _ (l2) from by rw [hl2]; exact Kd.R_mono HR.out (fun k_ hk_ => hk_.1))
    clear HR hl2
    go_loopg [0, 25] t.f3.length (fun m v0 vi u' => ∃ i : Nat, vi = .int .i64 i ∧ Aside0 (m + i = t.f3.length) ∧ Aside0 (Kd.R (Kd.int .i64) 3 u' w.heap.size (fun k_ => P k_ ∨ u.heap.size ≤ k_) v0 (vsS (t.f3.take i) l2)) ∧ Aside0 (Below w.heap.size w u') ∧ Aside0 (Kept u u' P))
    case atStart => exact ⟨0, rfl, ⟨by omega⟩, ⟨by simpa [vsS] using HR1.out⟩, HB, HK⟩
    case round =>
      clear HR1 HB HK BK_ga
      obtain ⟨i, rfl, hi, HR0, HB, HK⟩ := hrel
      obtain ⟨A1, c1, hv1⟩ := Kd.R_slice HR0.out
      obtain ⟨n1, hn1⟩ : ∃ n1, n1 = (vsS (t.f3.take i) l2).length := ⟨_, rfl⟩
      rw [← hn1] at hv1
      subst hv1
      have HN1 := Aside0.mk hn1
      clear hn1
      by_cases hlt : (i : Int) < (t.f3.length : Int)
      · have c3b0 : decide ((i : Int) < (t.f3.length : Int)) = true := decide_eq_true hlt
        have hlt' : i < t.f3.length := by omega
        have c3b1 : decide (i < t.f3.length) = true := decide_eq_true hlt'
        obtain ⟨ad, A3, c3, e1, hx0, hx1, hx2, hx3, hl3, hi3⟩ := at_T29 HC.out (i : Int) (by omega) hlt
        cases e1
        obtain ⟨x, hx⟩ : ∃ x, x = t.f3[i] := ⟨_, rfl⟩
        have hrd : rd_T29 t.f3 (i : Int) = x := by rw [hx]; exact rd29_at t.f3 i hlt'
        rw [hrd] at hx0 hx1 hx2 hx3 hl3 hi3
        have HX := Aside0.mk (show x ∈ t.f3 by rw [hx]; exact List.getElem_mem hlt')
        have HXI := Aside0.mk hx
        have HNX := Aside0.mk (show vsS (t.f3.take (i + 1)) l2 = vsT x (vsS (t.f3.take i) l2) by rw [hx]; exact vsS_take t.f3 i hlt' l2)
        have HCX := Aside0.mk hi3
        have HLX := Aside0.mk hl3
        clear hi3 hl3 hrd hx
        have HKU := Aside0.mk HK.out.1
        replace hx0 := (HB.out.cell (World.block_lt_of_cell? w _ hx0)).trans hx0
        replace hx1 := (HB.out.cell (World.block_lt_of_cell? w _ hx1)).trans hx1
        replace hx2 := (HB.out.cell (World.block_lt_of_cell? w _ hx2)).trans hx2
        replace hx3 := (HB.out.cell (World.block_lt_of_cell? w _ hx3)).trans hx3
        simp only [Int.toNat_natCast] at hx0 hx1 hx2 hx3
        have HBD := Aside0.mk (show (vsS (t.f3.take i) l2).length + cn29 x ≤ 4194304 by
          have h1_ := vsS_len (t.f3.take i) l2
          have h2_ := hdV_len t l
          have h3_ := HLN.out
          have h4_ := HL2.out
          have h5_ := cns29_append (t.f3.take i) (t.f3.drop i)
          rw [List.take_append_drop, List.drop_eq_getElem_cons hlt', cns29, ← HXI.out] at h5_
          rw [← h4_] at h2_
          have h6_ := cn29_eq t
          omega)
        go_wp2_with (first
          | ((with_reducible refine gate_dst (N := 6) rfl ?_); refine box_event ?hg6 (N := 6) ?hd6 (cs := #[.int .i64 0, .string (⟨#[]⟩ : ByteArray), .int .i64 0, .slice none 0 0]) (t := 29) ?hr6 ?_; (case hd6 => rfl); (case hg6 => rfl); (case hr6 => first | (go_simp; done) | (go_simp; rfl)); intro gk hg w5 hbox hb; have HG_gk := Aside0.mk (show wr.heap.size ≤ gk from Nat.le_of_eq hg.symm); have BK_gk := Aside0.mk hbox; have HR := Aside0.mk (Kd.R_mono (ok' := fun k_ => (P k_ ∨ u.heap.size ≤ k_) ∧ k_ ≠ gk) (Kd.R_below (Kd.R_bound HR0.out) hb) (fun k_ hk_ => ⟨hk_.1, fun e_ => by have := hk_.2.2.1; omega⟩)); clear HR0; have q_ := Aside0.mk (below_step HB.out hb); clear HB; have HB := q_; clear q_; have q_ := Aside0.mk (Kept.below HK.out hb); clear HK; have HK := q_; clear q_; have hx0_ := (hb.cell (World.block_lt_of_cell? wr _ hx0)).trans hx0; have hx1_ := (hb.cell (World.block_lt_of_cell? wr _ hx1)).trans hx1; have hx2_ := (hb.cell (World.block_lt_of_cell? wr _ hx2)).trans hx2; have hx3_ := (hb.cell (World.block_lt_of_cell? wr _ hx3)).trans hx3; clear hx0 hx1 hx2 hx3; have hz_gk_0 : w5.cell? ⟨gk, 0, none⟩ = some (.int .i64 0) := (blk_cell BK_gk.out 0).trans rfl; have fz_gk_0 := blk_frozen BK_gk.out 0; have hz_gk_1 : w5.cell? ⟨gk, 1, none⟩ = some (.string (⟨#[]⟩ : ByteArray)) := (blk_cell BK_gk.out 1).trans rfl; have fz_gk_1 := blk_frozen BK_gk.out 1; have hz_gk_2 : w5.cell? ⟨gk, 2, none⟩ = some (.int .i64 0) := (blk_cell BK_gk.out 2).trans rfl; have fz_gk_2 := blk_frozen BK_gk.out 2; have hz_gk_3 : w5.cell? ⟨gk, 3, none⟩ = some (.slice none 0 0) := (blk_cell BK_gk.out 3).trans rfl; have fz_gk_3 := blk_frozen BK_gk.out 3; clear hg hbox hb)
          | ((with_reducible refine gate_store (t := 29) (p := 6) rfl ?_); refine store_event (t := 29) (p := 6) (v := ?vo6) (w1 := ((((w5.setCell ⟨gk, 0, none⟩ (.int .i64 x.f0)).setCell ⟨gk, 1, none⟩ (.string x.f1)).setCell ⟨gk, 2, none⟩ (.int .i64 x.f2)).setCell ⟨gk, 3, none⟩ (.slice A3 x.f3.length c3))) ?hgs6 ?hos6 ?hns6 ?hrs6 ?_; (case hos6 => rfl); (case hgs6 => rfl); (case hns6 => rfl); (case hrs6 => first | (go_simp; done) | (go_simp; rfl)); intro w6 hw; subst hw; have HGU := Aside0.mk (show u.heap.size ≤ gk from Nat.le_trans HKU.out HG_gk.out); have HGW := Aside0.mk (show w.heap.size ≤ gk from Nat.le_trans HWU.out HGU.out); have BK6 := Aside0.mk (show ((((w5.setCell ⟨gk, 0, none⟩ (.int .i64 x.f0)).setCell ⟨gk, 1, none⟩ (.string x.f1)).setCell ⟨gk, 2, none⟩ (.int .i64 x.f2)).setCell ⟨gk, 3, none⟩ (.slice A3 x.f3.length c3)).heap[gk]? = some (.cells #[.int .i64 x.f0, .string x.f1, .int .i64 x.f2, .slice A3 x.f3.length c3] 29 (0, 0)) from by refine blk_put (cs := #[.int .i64 x.f0, .string x.f1, .int .i64 x.f2, .slice none 0 0]) ?_ 3 _ rfl; refine blk_put (cs := #[.int .i64 x.f0, .string x.f1, .int .i64 0, .slice none 0 0]) ?_ 2 _ rfl; refine blk_put (cs := #[.int .i64 x.f0, .string (⟨#[]⟩ : ByteArray), .int .i64 0, .slice none 0 0]) ?_ 1 _ rfl; refine blk_put (cs := #[.int .i64 0, .string (⟨#[]⟩ : ByteArray), .int .i64 0, .slice none 0 0]) ?_ 0 _ rfl; exact BK_gk.out); have nb_ := Aside0.mk (show Below w.heap.size w ((((w5.setCell ⟨gk, 0, none⟩ (.int .i64 x.f0)).setCell ⟨gk, 1, none⟩ (.string x.f1)).setCell ⟨gk, 2, none⟩ (.int .i64 x.f2)).setCell ⟨gk, 3, none⟩ (.slice A3 x.f3.length c3)) from (below_set (below_set (below_set (below_set HB.out HGW.out) HGW.out) HGW.out) HGW.out)); have nk_ := Aside0.mk (show Kept u ((((w5.setCell ⟨gk, 0, none⟩ (.int .i64 x.f0)).setCell ⟨gk, 1, none⟩ (.string x.f1)).setCell ⟨gk, 2, none⟩ (.int .i64 x.f2)).setCell ⟨gk, 3, none⟩ (.slice A3 x.f3.length c3)) P from (Kept.setCell (Kept.setCell (Kept.setCell (Kept.setCell HK.out (p := ⟨gk, 0, none⟩) (.inr HGU.out) _) (p := ⟨gk, 1, none⟩) (.inr HGU.out) _) (p := ⟨gk, 2, none⟩) (.inr HGU.out) _) (p := ⟨gk, 3, none⟩) (.inr HGU.out) _)); have nr_ := Aside0.mk (show Kd.R (Kd.int .i64) 3 ((((w5.setCell ⟨gk, 0, none⟩ (.int .i64 x.f0)).setCell ⟨gk, 1, none⟩ (.string x.f1)).setCell ⟨gk, 2, none⟩ (.int .i64 x.f2)).setCell ⟨gk, 3, none⟩ (.slice A3 x.f3.length c3)) w.heap.size (fun k_ => (P k_ ∨ u.heap.size ≤ k_) ∧ k_ ≠ gk) (.slice A1 n1 c1) (vsS (t.f3.take i) l2) from (Kd.R_far (p := ⟨gk, 3, none⟩) (Kd.R_far (p := ⟨gk, 2, none⟩) (Kd.R_far (p := ⟨gk, 1, none⟩) (Kd.R_far (p := ⟨gk, 0, none⟩) HR.out (fun k_ hk_ => hk_.2) _) (fun k_ hk_ => hk_.2) _) (fun k_ hk_ => hk_.2) _) (fun k_ hk_ => hk_.2) _)); clear HB HK HR BK_gk hz_gk_0 hz_gk_1 hz_gk_2 hz_gk_3 fz_gk_0 fz_gk_1 fz_gk_2 fz_gk_3; have HB := nb_; have HK := nk_; have HR := nr_; clear nb_ nk_ nr_; generalize ((((w5.setCell ⟨gk, 0, none⟩ (.int .i64 x.f0)).setCell ⟨gk, 1, none⟩ (.string x.f1)).setCell ⟨gk, 2, none⟩ (.int .i64 x.f2)).setCell ⟨gk, 3, none⟩ (.slice A3 x.f3.length c3)) = w7 at HB HK HR BK6 ⊢; have hy0 : w7.cell? ⟨gk, 0, none⟩ = some (.int .i64 x.f0) := (blk_cell BK6.out 0).trans rfl; have fy0 := blk_frozen BK6.out 0; have hy1 : w7.cell? ⟨gk, 1, none⟩ = some (.string x.f1) := (blk_cell BK6.out 1).trans rfl; have fy1 := blk_frozen BK6.out 1; have hy2 : w7.cell? ⟨gk, 2, none⟩ = some (.int .i64 x.f2) := (blk_cell BK6.out 2).trans rfl; have fy2 := blk_frozen BK6.out 2; have hy3 : w7.cell? ⟨gk, 3, none⟩ = some (.slice A3 x.f3.length c3) := (blk_cell BK6.out 3).trans rfl; have fy3 := blk_frozen BK6.out 3)
          | (go_at_call 78; refine (IH.out x HX.out (vsS (t.f3.take i) l2) (.slice A1 n1 c1) A3 c3 w w7 (fun k_ => P k_ ∨ u.heap.size ≤ k_) HBD.out HCX.out HLX.out HB.out (Kd.R_mono HR.out (fun k_ hk_ => hk_.1))).mono ?_; rintro e w8 ⟨v9, rfl, ho, hb, hk⟩))
        go_roundg (t.f3.length - (i + 1))
        case measure => have := hi.out; omega
        case rel => exact ⟨i + 1, by go_num, ⟨by have := hi.out; omega⟩, ⟨by rw [HNX.out]; exact Kd.R_mono ho (fun k_ hk_ => hk_.elim (fun z => z) (fun z => .inr (Nat.le_trans HK.out.1 z)))⟩, ⟨hb⟩, ⟨HK.out.then_ hk (fun k_ hk_ => hk_)⟩⟩
      · have c3b0 : decide ((i : Int) < (t.f3.length : Int)) = false := decide_eq_false hlt
        have c3b1 : decide (i < t.f3.length) = false := decide_eq_false (by omega)
        have hie : t.f3.take i = t.f3 := List.take_of_length_le (by omega)
        have HR2 := HR0.out
        rw [hie] at HR2
        have HRZ := Aside0.mk HR2
        clear HR2 hie
        go_wp2
        go_ret
        exact ⟨_, rfl, by rw [vsT_eq, ← HL2.out]; exact Kd.R_mono HRZ.out (fun k_ hk_ => hk_), HB.out, HK.out⟩
theorem add_all (n : Nat) : ∀ t, ht29 t ≤ n → AddT t := by
  induction n with
  | zero => intro t h; rw [ht29_eq] at h; omega
  | succ n ih => intro t h; rw [ht29_eq] at h; exact add_step t (fun x hx => ih x (by have := hts29_mem hx; omega))
def L03T (t : S29) : Prop := ∀ (l : List Int) (v : Value) (A : Option Addr) (c : Nat) (w u : World) (P : Nat → Prop), l.length + cn29 t ≤ 4194304 → Kd.C k29 w A t.f3.length t.f3 → t.f3.length ≤ c → Below w.heap.size w u → Kd.R (Kd.int .i64) 3 u w.heap.size P v l →
  Calls Try.prog 77 #[.agg #[.int .i64 t.f0, .string t.f1, .int .i64 t.f2, .slice A t.f3.length c], v] u fun e u' => ∃ v', e = .returned v' ∧ Kd.R (Kd.int .i64) 3 u' w.heap.size (fun k_ => P k_ ∨ u.heap.size ≤ k_) v' (vsT t l) ∧ Below w.heap.size w u' ∧ Kept u u' P
set_option maxHeartbeats 16000000 in
set_option maxRecDepth 100000 in
theorem l03v_step (t : S29) (ih : ∀ x ∈ t.f3, L03T x) : L03T t := by
  intro l v A c w u P hln hC hc hB hR
  obtain ⟨A0, c0, rfl⟩ := Kd.R_slice hR
  have IH := Aside0.mk ih
  have HLN := Aside0.mk hln
  have HC := Aside0.mk hC
  have HCC := Aside0.mk hc
  have HB := Aside0.mk hB
  have HWU := Aside0.mk hB.size
  have HK := Aside0.mk (Kept.refl u P)
  have HR0 := Aside0.mk (show Kd.R (Kd.int .i64) 3 u w.heap.size (fun k_ => P k_ ∨ u.heap.size ≤ k_) (.slice A0 l.length c0) (l) from Kd.R_mono hR (fun k_ hk_ => .inl hk_))
  have hcn := cn29_eq t
  have hmx := hC.2.1
  have HCN0 := has_ok l t.f2 (by omega)
  clear ih hln hC hc hB hR hcn
  by_cases c1 : t.f0 = 1
  · have d1 : (t.f0 == 1) = true := beq_iff_eq.2 c1
    have d2 : decide (t.f0 = 1) = true := decide_eq_true c1
    cases c2 : l.contains t.f2 with
    | true =>
      rw [c2] at HCN0
      have HCN := Aside0.mk HCN0
      clear HCN0
      go_enter Try.func77, Try.ntmps77
      go_wp2_with (first
        | ((with_reducible refine gate_dst (N := 2) rfl ?_); refine box_event ?hg2 (N := 2) ?hd2 (cs := #[.int .i64 t.f0, .string t.f1, .int .i64 t.f2, .slice A t.f3.length c]) (t := 29) ?hr2 ?_; (case hd2 => rfl); (case hg2 => rfl); (case hr2 => first | (go_simp; done) | (go_simp; rfl)); intro ga hg w1 hbox hb; have HG_ga := Aside0.mk (show u.heap.size ≤ ga from Nat.le_of_eq hg.symm); have BK_ga := Aside0.mk hbox; have HLT_ga := Aside0.mk (blk_lt hbox); have HR := Aside0.mk (show Kd.R (Kd.int .i64) 3 w1 w.heap.size (fun k_ => (P k_ ∨ u.heap.size ≤ k_) ∧ k_ ≠ ga) (.slice A0 l.length c0) (l) from Kd.R_mono (Kd.R_below (Kd.R_bound HR0.out) hb) (fun k_ hk_ => ⟨hk_.1, fun e_ => by have := hk_.2.2.1; omega⟩)); clear HR0; have q_ := Aside0.mk (below_step HB.out hb); clear HB; have HB := q_; clear q_; have q_ := Aside0.mk (Kept.below HK.out hb); clear HK; have HK := q_; clear q_; have hc_ga_0 : w1.cell? ⟨ga, 0, none⟩ = some (.int .i64 t.f0) := (blk_cell BK_ga.out 0).trans rfl; have fc_ga_0 := blk_frozen BK_ga.out 0; have hc_ga_1 : w1.cell? ⟨ga, 1, none⟩ = some (.string t.f1) := (blk_cell BK_ga.out 1).trans rfl; have fc_ga_1 := blk_frozen BK_ga.out 1; have hc_ga_2 : w1.cell? ⟨ga, 2, none⟩ = some (.int .i64 t.f2) := (blk_cell BK_ga.out 2).trans rfl; have fc_ga_2 := blk_frozen BK_ga.out 2; have hc_ga_3 : w1.cell? ⟨ga, 3, none⟩ = some (.slice A t.f3.length c) := (blk_cell BK_ga.out 3).trans rfl; have fc_ga_3 := blk_frozen BK_ga.out 3; clear hg hbox hb)
        | (go_at_call 108; refine (spec_l03Has.calls (l.length + 1) A0 c0 l t.f2 true _ (readI HR.out).2 (readI HR.out).1 HCN.out).mono ?_; rintro e w2 ⟨rfl, hd⟩; have hb := hd.below; have q_ := Aside0.mk (blk_below BK_ga.out hb); clear BK_ga; have BK_ga := q_; clear q_; have q_ := Aside0.mk (Kd.R_below HR.out hb); clear HR; have HR := q_; clear q_; have q_ := Aside0.mk (below_step HB.out hb); clear HB; have HB := q_; clear q_; have q_ := Aside0.mk (Kept.below HK.out hb); clear HK; have HK := q_; clear q_; have q_ := Aside0.mk (Nat.lt_of_lt_of_le HLT_ga.out hb.size); clear HLT_ga; have HLT_ga := q_; clear q_; have he_ga_0 : w2.cell? ⟨ga, 0, none⟩ = some (.int .i64 t.f0) := (blk_cell BK_ga.out 0).trans rfl; have fe_ga_0 := blk_frozen BK_ga.out 0; have he_ga_1 : w2.cell? ⟨ga, 1, none⟩ = some (.string t.f1) := (blk_cell BK_ga.out 1).trans rfl; have fe_ga_1 := blk_frozen BK_ga.out 1; have he_ga_2 : w2.cell? ⟨ga, 2, none⟩ = some (.int .i64 t.f2) := (blk_cell BK_ga.out 2).trans rfl; have fe_ga_2 := blk_frozen BK_ga.out 2; have he_ga_3 : w2.cell? ⟨ga, 3, none⟩ = some (.slice A t.f3.length c) := (blk_cell BK_ga.out 3).trans rfl; have fe_ga_3 := blk_frozen BK_ga.out 3; clear hb hd))
      obtain ⟨l2, hl2⟩ : ∃ l2, l2 = l := ⟨_, rfl⟩
      have HL2 := Aside0.mk (show l2 = hdV t l by rw [hl2]; unfold hdV; rw [if_neg (fun z => by rw [c2] at z; exact absurd z.2 (by decide))])
      have HR1 := Aside0.mk (show Kd.R (Kd.int .i64) 3 _ w.heap.size (fun k_ => (P k_ ∨ u.heap.size ≤ k_) ∧ k_ ≠ ga) _ (l2) from by rw [hl2]; exact Kd.R_mono HR.out (fun k_ hk_ => hk_))
      clear HR hl2
      go_loopg [1, 5] t.f3.length (fun m v0 vi u' => ∃ i : Nat, vi = .int .i64 i ∧ Aside0 (m + i = t.f3.length) ∧ Aside0 (Kd.R (Kd.int .i64) 3 u' w.heap.size (fun k_ => (P k_ ∨ u.heap.size ≤ k_) ∧ k_ ≠ ga) v0 (vsS (t.f3.take i) l2)) ∧ Aside0 (Below w.heap.size w u') ∧ Aside0 (Kept u u' P) ∧ Aside0 (u'.heap[ga]? = some (.cells #[.int .i64 t.f0, .string t.f1, .int .i64 t.f2, .slice A t.f3.length c] 29 (0, 0))))
      case atStart => exact ⟨0, rfl, ⟨by omega⟩, ⟨by simpa [vsS] using HR1.out⟩, HB, HK, BK_ga⟩
      case round =>
        clear HR1 HB HK BK_ga
        obtain ⟨i, rfl, hi, HR0, HB, HK, BK_ga⟩ := hrel
        obtain ⟨A1, c1, hv1⟩ := Kd.R_slice HR0.out
        obtain ⟨n1, hn1⟩ : ∃ n1, n1 = (vsS (t.f3.take i) l2).length := ⟨_, rfl⟩
        rw [← hn1] at hv1
        subst hv1
        have HN1 := Aside0.mk hn1
        clear hn1
        by_cases hlt : (i : Int) < (t.f3.length : Int)
        · have c3b0 : decide ((i : Int) < (t.f3.length : Int)) = true := decide_eq_true hlt
          have hlt' : i < t.f3.length := by omega
          have c3b1 : decide (i < t.f3.length) = true := decide_eq_true hlt'
          obtain ⟨ad, A3, c3, e1, hx0, hx1, hx2, hx3, hl3, hi3⟩ := at_T29 HC.out (i : Int) (by omega) hlt
          cases e1
          obtain ⟨x, hx⟩ : ∃ x, x = t.f3[i] := ⟨_, rfl⟩
          have hrd : rd_T29 t.f3 (i : Int) = x := by rw [hx]; exact rd29_at t.f3 i hlt'
          rw [hrd] at hx0 hx1 hx2 hx3 hl3 hi3
          have HX := Aside0.mk (show x ∈ t.f3 by rw [hx]; exact List.getElem_mem hlt')
          have HXI := Aside0.mk hx
          have HNX := Aside0.mk (show vsS (t.f3.take (i + 1)) l2 = vsT x (vsS (t.f3.take i) l2) by rw [hx]; exact vsS_take t.f3 i hlt' l2)
          have HCX := Aside0.mk hi3
          have HLX := Aside0.mk hl3
          clear hi3 hl3 hrd hx
          have HKU := Aside0.mk HK.out.1
          replace hx0 := (HB.out.cell (World.block_lt_of_cell? w _ hx0)).trans hx0
          replace hx1 := (HB.out.cell (World.block_lt_of_cell? w _ hx1)).trans hx1
          replace hx2 := (HB.out.cell (World.block_lt_of_cell? w _ hx2)).trans hx2
          replace hx3 := (HB.out.cell (World.block_lt_of_cell? w _ hx3)).trans hx3
          simp only [Int.toNat_natCast] at hx0 hx1 hx2 hx3
          have HBD := Aside0.mk (show (vsS (t.f3.take i) l2).length + cn29 x ≤ 4194304 by
            have h1_ := vsS_len (t.f3.take i) l2
            have h2_ := hdV_len t l
            have h3_ := HLN.out
            have h4_ := HL2.out
            have h5_ := cns29_append (t.f3.take i) (t.f3.drop i)
            rw [List.take_append_drop, List.drop_eq_getElem_cons hlt', cns29, ← HXI.out] at h5_
            rw [← h4_] at h2_
            have h6_ := cn29_eq t
            omega)
          have HLT_ga := Aside0.mk (blk_lt BK_ga.out)
          have hc0 : wr.cell? ⟨ga, 0, none⟩ = some (.int .i64 t.f0) := (blk_cell BK_ga.out 0).trans rfl
          have hc1 : wr.cell? ⟨ga, 1, none⟩ = some (.string t.f1) := (blk_cell BK_ga.out 1).trans rfl
          have hc2 : wr.cell? ⟨ga, 2, none⟩ = some (.int .i64 t.f2) := (blk_cell BK_ga.out 2).trans rfl
          have hc3 : wr.cell? ⟨ga, 3, none⟩ = some (.slice (some ad) t.f3.length c) := (blk_cell BK_ga.out 3).trans rfl
          have hf0 := blk_frozen BK_ga.out 0
          have hf1 := blk_frozen BK_ga.out 1
          have hf2 := blk_frozen BK_ga.out 2
          have hf3 := blk_frozen BK_ga.out 3
          go_wp2_with (go_at_call 77; refine (IH.out x HX.out (vsS (t.f3.take i) l2) (.slice A1 n1 c1) A3 c3 w wr (fun k_ => (P k_ ∨ u.heap.size ≤ k_) ∧ k_ ≠ ga) HBD.out HCX.out HLX.out HB.out HR0.out).mono ?_; rintro e w8 ⟨v9, rfl, ho, hb, hk⟩; have BK8 := Aside0.mk (blk_kept BK_ga.out hk (fun z => z.2 rfl)))
          go_roundg (t.f3.length - (i + 1))
          case measure => have := hi.out; omega
          case rel => exact ⟨i + 1, by go_num, ⟨by have := hi.out; omega⟩, ⟨by rw [HNX.out]; exact Kd.R_mono ho (fun k_ hk_ => hk_.elim (fun z => z) (fun z => ⟨.inr (Nat.le_trans HKU.out z), fun e_ => by have := HLT_ga.out; omega⟩))⟩, ⟨hb⟩, ⟨HK.out.then_ hk (fun k_ hk_ => hk_.1)⟩, BK8⟩
        · have c3b0 : decide ((i : Int) < (t.f3.length : Int)) = false := decide_eq_false hlt
          have c3b1 : decide (i < t.f3.length) = false := decide_eq_false (by omega)
          have hc0 : wr.cell? ⟨ga, 0, none⟩ = some (.int .i64 t.f0) := (blk_cell BK_ga.out 0).trans rfl
          have hc1 : wr.cell? ⟨ga, 1, none⟩ = some (.string t.f1) := (blk_cell BK_ga.out 1).trans rfl
          have hc2 : wr.cell? ⟨ga, 2, none⟩ = some (.int .i64 t.f2) := (blk_cell BK_ga.out 2).trans rfl
          have hc3 : wr.cell? ⟨ga, 3, none⟩ = some (.slice A t.f3.length c) := (blk_cell BK_ga.out 3).trans rfl
          have hf0 := blk_frozen BK_ga.out 0
          have hf1 := blk_frozen BK_ga.out 1
          have hf2 := blk_frozen BK_ga.out 2
          have hf3 := blk_frozen BK_ga.out 3
          have hie : t.f3.take i = t.f3 := List.take_of_length_le (by omega)
          have HR2 := HR0.out
          rw [hie] at HR2
          have HRZ := Aside0.mk HR2
          clear HR2 hie
          go_wp2
          go_ret
          exact ⟨_, rfl, by rw [vsT_eq, ← HL2.out]; exact Kd.R_mono HRZ.out (fun k_ hk_ => hk_.1), HB.out, HK.out⟩
    | false =>
      rw [c2] at HCN0
      have HCN := Aside0.mk HCN0
      clear HCN0
      go_enter Try.func77, Try.ntmps77
      go_wp2_with (first
        | ((with_reducible refine gate_dst (N := 2) rfl ?_); refine box_event ?hg2 (N := 2) ?hd2 (cs := #[.int .i64 t.f0, .string t.f1, .int .i64 t.f2, .slice A t.f3.length c]) (t := 29) ?hr2 ?_; (case hd2 => rfl); (case hg2 => rfl); (case hr2 => first | (go_simp; done) | (go_simp; rfl)); intro ga hg w1 hbox hb; have HG_ga := Aside0.mk (show u.heap.size ≤ ga from Nat.le_of_eq hg.symm); have BK_ga := Aside0.mk hbox; have HLT_ga := Aside0.mk (blk_lt hbox); have HR := Aside0.mk (show Kd.R (Kd.int .i64) 3 w1 w.heap.size (fun k_ => (P k_ ∨ u.heap.size ≤ k_) ∧ k_ ≠ ga) (.slice A0 l.length c0) (l) from Kd.R_mono (Kd.R_below (Kd.R_bound HR0.out) hb) (fun k_ hk_ => ⟨hk_.1, fun e_ => by have := hk_.2.2.1; omega⟩)); clear HR0; have q_ := Aside0.mk (below_step HB.out hb); clear HB; have HB := q_; clear q_; have q_ := Aside0.mk (Kept.below HK.out hb); clear HK; have HK := q_; clear q_; have hc_ga_0 : w1.cell? ⟨ga, 0, none⟩ = some (.int .i64 t.f0) := (blk_cell BK_ga.out 0).trans rfl; have fc_ga_0 := blk_frozen BK_ga.out 0; have hc_ga_1 : w1.cell? ⟨ga, 1, none⟩ = some (.string t.f1) := (blk_cell BK_ga.out 1).trans rfl; have fc_ga_1 := blk_frozen BK_ga.out 1; have hc_ga_2 : w1.cell? ⟨ga, 2, none⟩ = some (.int .i64 t.f2) := (blk_cell BK_ga.out 2).trans rfl; have fc_ga_2 := blk_frozen BK_ga.out 2; have hc_ga_3 : w1.cell? ⟨ga, 3, none⟩ = some (.slice A t.f3.length c) := (blk_cell BK_ga.out 3).trans rfl; have fc_ga_3 := blk_frozen BK_ga.out 3; clear hg hbox hb)
        | (go_at_call 108; refine (spec_l03Has.calls (l.length + 1) A0 c0 l t.f2 false _ (readI HR.out).2 (readI HR.out).1 HCN.out).mono ?_; rintro e w2 ⟨rfl, hd⟩; have hb := hd.below; have q_ := Aside0.mk (blk_below BK_ga.out hb); clear BK_ga; have BK_ga := q_; clear q_; have q_ := Aside0.mk (Kd.R_below HR.out hb); clear HR; have HR := q_; clear q_; have q_ := Aside0.mk (below_step HB.out hb); clear HB; have HB := q_; clear q_; have q_ := Aside0.mk (Kept.below HK.out hb); clear HK; have HK := q_; clear q_; have q_ := Aside0.mk (Nat.lt_of_lt_of_le HLT_ga.out hb.size); clear HLT_ga; have HLT_ga := q_; clear q_; have he_ga_0 : w2.cell? ⟨ga, 0, none⟩ = some (.int .i64 t.f0) := (blk_cell BK_ga.out 0).trans rfl; have fe_ga_0 := blk_frozen BK_ga.out 0; have he_ga_1 : w2.cell? ⟨ga, 1, none⟩ = some (.string t.f1) := (blk_cell BK_ga.out 1).trans rfl; have fe_ga_1 := blk_frozen BK_ga.out 1; have he_ga_2 : w2.cell? ⟨ga, 2, none⟩ = some (.int .i64 t.f2) := (blk_cell BK_ga.out 2).trans rfl; have fe_ga_2 := blk_frozen BK_ga.out 2; have he_ga_3 : w2.cell? ⟨ga, 3, none⟩ = some (.slice A t.f3.length c) := (blk_cell BK_ga.out 3).trans rfl; have fe_ga_3 := blk_frozen BK_ga.out 3; clear hb hd)
        | ((with_reducible refine gate_builtin (b := .append) (xs := #[.tmp 16, .tmp 19]) rfl ?_); at_builtin; refine Kd.R_append (Kd.int .i64) (w0 := w) w.heap.size rfl (.tmp 16) (.tmp 19) 44 3 (.int .i64 0) 8 rfl Try.underlying44 info3 rfl (by decide) (by omega) (.slice A0 l.length c0) l t.f2 [.int .i64 t.f2] (fun k_ => (P k_ ∨ u.heap.size ≤ k_) ∧ k_ ≠ ga) (fun _ => False) rfl rfl ?aP (fun _ hk => hk.elim) ?aF ?aO ?aB ?aS ?aL ?_; (case aP => exact rfl); (case aB => exact HB.out); (case aF => exact (fun k_ hk_ => ⟨.inr (Nat.le_trans HK.out.1 hk_), fun e_ => by have := HLT_ga.out; omega⟩)); (case aO => exact HR.out); (case aS => exact (below_size HB.out)); (case aL => have := HLN.out; omega); intro v5 w3 ho hbl hg hat; have q_ := Aside0.mk (blk_grown BK_ga.out hg (fun e_ => (HR.out.1 ga e_.symm).2 rfl)); clear BK_ga; have BK_ga := q_; clear q_; have q_ := Aside0.mk (Kept.of_grown hg HK.out (fun k_ hk_ => (HR.out.1 k_ hk_).1)); clear HK; have HK := q_; clear q_; clear HB HR; have HB := Aside0.mk hbl; have HR := Aside0.mk ho; have hh_ga_0 : w3.cell? ⟨ga, 0, none⟩ = some (.int .i64 t.f0) := (blk_cell BK_ga.out 0).trans rfl; have fh_ga_0 := blk_frozen BK_ga.out 0; have hh_ga_1 : w3.cell? ⟨ga, 1, none⟩ = some (.string t.f1) := (blk_cell BK_ga.out 1).trans rfl; have fh_ga_1 := blk_frozen BK_ga.out 1; have hh_ga_2 : w3.cell? ⟨ga, 2, none⟩ = some (.int .i64 t.f2) := (blk_cell BK_ga.out 2).trans rfl; have fh_ga_2 := blk_frozen BK_ga.out 2; have hh_ga_3 : w3.cell? ⟨ga, 3, none⟩ = some (.slice A t.f3.length c) := (blk_cell BK_ga.out 3).trans rfl; have fh_ga_3 := blk_frozen BK_ga.out 3; clear ho hbl hg hat))
      obtain ⟨l2, hl2⟩ : ∃ l2, l2 = l ++ [t.f2] := ⟨_, rfl⟩
      have HL2 := Aside0.mk (show l2 = hdV t l by rw [hl2]; unfold hdV; rw [if_pos ⟨c1, c2⟩])
      have HR1 := Aside0.mk (show Kd.R (Kd.int .i64) 3 _ w.heap.size (fun k_ => (P k_ ∨ u.heap.size ≤ k_) ∧ k_ ≠ ga) _ (l2) from by rw [hl2]; exact Kd.R_mono HR.out (fun k_ hk_ => hk_))
      clear HR hl2
      go_loopg [1, 5] t.f3.length (fun m v0 vi u' => ∃ i : Nat, vi = .int .i64 i ∧ Aside0 (m + i = t.f3.length) ∧ Aside0 (Kd.R (Kd.int .i64) 3 u' w.heap.size (fun k_ => (P k_ ∨ u.heap.size ≤ k_) ∧ k_ ≠ ga) v0 (vsS (t.f3.take i) l2)) ∧ Aside0 (Below w.heap.size w u') ∧ Aside0 (Kept u u' P) ∧ Aside0 (u'.heap[ga]? = some (.cells #[.int .i64 t.f0, .string t.f1, .int .i64 t.f2, .slice A t.f3.length c] 29 (0, 0))))
      case atStart => exact ⟨0, rfl, ⟨by omega⟩, ⟨by simpa [vsS] using HR1.out⟩, HB, HK, BK_ga⟩
      case round =>
        clear HR1 HB HK BK_ga
        obtain ⟨i, rfl, hi, HR0, HB, HK, BK_ga⟩ := hrel
        obtain ⟨A1, c1, hv1⟩ := Kd.R_slice HR0.out
        obtain ⟨n1, hn1⟩ : ∃ n1, n1 = (vsS (t.f3.take i) l2).length := ⟨_, rfl⟩
        rw [← hn1] at hv1
        subst hv1
        have HN1 := Aside0.mk hn1
        clear hn1
        by_cases hlt : (i : Int) < (t.f3.length : Int)
        · have c3b0 : decide ((i : Int) < (t.f3.length : Int)) = true := decide_eq_true hlt
          have hlt' : i < t.f3.length := by omega
          have c3b1 : decide (i < t.f3.length) = true := decide_eq_true hlt'
          obtain ⟨ad, A3, c3, e1, hx0, hx1, hx2, hx3, hl3, hi3⟩ := at_T29 HC.out (i : Int) (by omega) hlt
          cases e1
          obtain ⟨x, hx⟩ : ∃ x, x = t.f3[i] := ⟨_, rfl⟩
          have hrd : rd_T29 t.f3 (i : Int) = x := by rw [hx]; exact rd29_at t.f3 i hlt'
          rw [hrd] at hx0 hx1 hx2 hx3 hl3 hi3
          have HX := Aside0.mk (show x ∈ t.f3 by rw [hx]; exact List.getElem_mem hlt')
          have HXI := Aside0.mk hx
          have HNX := Aside0.mk (show vsS (t.f3.take (i + 1)) l2 = vsT x (vsS (t.f3.take i) l2) by rw [hx]; exact vsS_take t.f3 i hlt' l2)
          have HCX := Aside0.mk hi3
          have HLX := Aside0.mk hl3
          clear hi3 hl3 hrd hx
          have HKU := Aside0.mk HK.out.1
          replace hx0 := (HB.out.cell (World.block_lt_of_cell? w _ hx0)).trans hx0
          replace hx1 := (HB.out.cell (World.block_lt_of_cell? w _ hx1)).trans hx1
          replace hx2 := (HB.out.cell (World.block_lt_of_cell? w _ hx2)).trans hx2
          replace hx3 := (HB.out.cell (World.block_lt_of_cell? w _ hx3)).trans hx3
          simp only [Int.toNat_natCast] at hx0 hx1 hx2 hx3
          have HBD := Aside0.mk (show (vsS (t.f3.take i) l2).length + cn29 x ≤ 4194304 by
            have h1_ := vsS_len (t.f3.take i) l2
            have h2_ := hdV_len t l
            have h3_ := HLN.out
            have h4_ := HL2.out
            have h5_ := cns29_append (t.f3.take i) (t.f3.drop i)
            rw [List.take_append_drop, List.drop_eq_getElem_cons hlt', cns29, ← HXI.out] at h5_
            rw [← h4_] at h2_
            have h6_ := cn29_eq t
            omega)
          have HLT_ga := Aside0.mk (blk_lt BK_ga.out)
          have hc0 : wr.cell? ⟨ga, 0, none⟩ = some (.int .i64 t.f0) := (blk_cell BK_ga.out 0).trans rfl
          have hc1 : wr.cell? ⟨ga, 1, none⟩ = some (.string t.f1) := (blk_cell BK_ga.out 1).trans rfl
          have hc2 : wr.cell? ⟨ga, 2, none⟩ = some (.int .i64 t.f2) := (blk_cell BK_ga.out 2).trans rfl
          have hc3 : wr.cell? ⟨ga, 3, none⟩ = some (.slice (some ad) t.f3.length c) := (blk_cell BK_ga.out 3).trans rfl
          have hf0 := blk_frozen BK_ga.out 0
          have hf1 := blk_frozen BK_ga.out 1
          have hf2 := blk_frozen BK_ga.out 2
          have hf3 := blk_frozen BK_ga.out 3
          go_wp2_with (go_at_call 77; refine (IH.out x HX.out (vsS (t.f3.take i) l2) (.slice A1 n1 c1) A3 c3 w wr (fun k_ => (P k_ ∨ u.heap.size ≤ k_) ∧ k_ ≠ ga) HBD.out HCX.out HLX.out HB.out HR0.out).mono ?_; rintro e w8 ⟨v9, rfl, ho, hb, hk⟩; have BK8 := Aside0.mk (blk_kept BK_ga.out hk (fun z => z.2 rfl)))
          go_roundg (t.f3.length - (i + 1))
          case measure => have := hi.out; omega
          case rel => exact ⟨i + 1, by go_num, ⟨by have := hi.out; omega⟩, ⟨by rw [HNX.out]; exact Kd.R_mono ho (fun k_ hk_ => hk_.elim (fun z => z) (fun z => ⟨.inr (Nat.le_trans HKU.out z), fun e_ => by have := HLT_ga.out; omega⟩))⟩, ⟨hb⟩, ⟨HK.out.then_ hk (fun k_ hk_ => hk_.1)⟩, BK8⟩
        · have c3b0 : decide ((i : Int) < (t.f3.length : Int)) = false := decide_eq_false hlt
          have c3b1 : decide (i < t.f3.length) = false := decide_eq_false (by omega)
          have hc0 : wr.cell? ⟨ga, 0, none⟩ = some (.int .i64 t.f0) := (blk_cell BK_ga.out 0).trans rfl
          have hc1 : wr.cell? ⟨ga, 1, none⟩ = some (.string t.f1) := (blk_cell BK_ga.out 1).trans rfl
          have hc2 : wr.cell? ⟨ga, 2, none⟩ = some (.int .i64 t.f2) := (blk_cell BK_ga.out 2).trans rfl
          have hc3 : wr.cell? ⟨ga, 3, none⟩ = some (.slice A t.f3.length c) := (blk_cell BK_ga.out 3).trans rfl
          have hf0 := blk_frozen BK_ga.out 0
          have hf1 := blk_frozen BK_ga.out 1
          have hf2 := blk_frozen BK_ga.out 2
          have hf3 := blk_frozen BK_ga.out 3
          have hie : t.f3.take i = t.f3 := List.take_of_length_le (by omega)
          have HR2 := HR0.out
          rw [hie] at HR2
          have HRZ := Aside0.mk HR2
          clear HR2 hie
          go_wp2
          go_ret
          exact ⟨_, rfl, by rw [vsT_eq, ← HL2.out]; exact Kd.R_mono HRZ.out (fun k_ hk_ => hk_.1), HB.out, HK.out⟩
  · have d1 : (t.f0 == 1) = false := beq_eq_false_iff_ne.2 c1
    have d2 : decide (t.f0 = 1) = false := decide_eq_false c1
    clear HCN0
    go_enter Try.func77, Try.ntmps77
    go_wp2_with (((with_reducible refine gate_dst (N := 2) rfl ?_); refine box_event ?hg2 (N := 2) ?hd2 (cs := #[.int .i64 t.f0, .string t.f1, .int .i64 t.f2, .slice A t.f3.length c]) (t := 29) ?hr2 ?_; (case hd2 => rfl); (case hg2 => rfl); (case hr2 => first | (go_simp; done) | (go_simp; rfl)); intro ga hg w1 hbox hb; have HG_ga := Aside0.mk (show u.heap.size ≤ ga from Nat.le_of_eq hg.symm); have BK_ga := Aside0.mk hbox; have HLT_ga := Aside0.mk (blk_lt hbox); have HR := Aside0.mk (show Kd.R (Kd.int .i64) 3 w1 w.heap.size (fun k_ => (P k_ ∨ u.heap.size ≤ k_) ∧ k_ ≠ ga) (.slice A0 l.length c0) (l) from Kd.R_mono (Kd.R_below (Kd.R_bound HR0.out) hb) (fun k_ hk_ => ⟨hk_.1, fun e_ => by have := hk_.2.2.1; omega⟩)); clear HR0; have q_ := Aside0.mk (below_step HB.out hb); clear HB; have HB := q_; clear q_; have q_ := Aside0.mk (Kept.below HK.out hb); clear HK; have HK := q_; clear q_; have hc_ga_0 : w1.cell? ⟨ga, 0, none⟩ = some (.int .i64 t.f0) := (blk_cell BK_ga.out 0).trans rfl; have fc_ga_0 := blk_frozen BK_ga.out 0; have hc_ga_1 : w1.cell? ⟨ga, 1, none⟩ = some (.string t.f1) := (blk_cell BK_ga.out 1).trans rfl; have fc_ga_1 := blk_frozen BK_ga.out 1; have hc_ga_2 : w1.cell? ⟨ga, 2, none⟩ = some (.int .i64 t.f2) := (blk_cell BK_ga.out 2).trans rfl; have fc_ga_2 := blk_frozen BK_ga.out 2; have hc_ga_3 : w1.cell? ⟨ga, 3, none⟩ = some (.slice A t.f3.length c) := (blk_cell BK_ga.out 3).trans rfl; have fc_ga_3 := blk_frozen BK_ga.out 3; clear hg hbox hb))
    obtain ⟨l2, hl2⟩ : ∃ l2, l2 = l := ⟨_, rfl⟩
    have HL2 := Aside0.mk (show l2 = hdV t l by rw [hl2]; unfold hdV; rw [if_neg (fun z => by exact c1 z.1)])
    have HR1 := Aside0.mk (show Kd.R (Kd.int .i64) 3 _ w.heap.size (fun k_ => (P k_ ∨ u.heap.size ≤ k_) ∧ k_ ≠ ga) _ (l2) from by rw [hl2]; exact Kd.R_mono HR.out (fun k_ hk_ => hk_))
    clear HR hl2
    go_loopg [1, 5] t.f3.length (fun m v0 vi u' => ∃ i : Nat, vi = .int .i64 i ∧ Aside0 (m + i = t.f3.length) ∧ Aside0 (Kd.R (Kd.int .i64) 3 u' w.heap.size (fun k_ => (P k_ ∨ u.heap.size ≤ k_) ∧ k_ ≠ ga) v0 (vsS (t.f3.take i) l2)) ∧ Aside0 (Below w.heap.size w u') ∧ Aside0 (Kept u u' P) ∧ Aside0 (u'.heap[ga]? = some (.cells #[.int .i64 t.f0, .string t.f1, .int .i64 t.f2, .slice A t.f3.length c] 29 (0, 0))))
    case atStart => exact ⟨0, rfl, ⟨by omega⟩, ⟨by simpa [vsS] using HR1.out⟩, HB, HK, BK_ga⟩
    case round =>
      clear HR1 HB HK BK_ga
      obtain ⟨i, rfl, hi, HR0, HB, HK, BK_ga⟩ := hrel
      obtain ⟨A1, c1, hv1⟩ := Kd.R_slice HR0.out
      obtain ⟨n1, hn1⟩ : ∃ n1, n1 = (vsS (t.f3.take i) l2).length := ⟨_, rfl⟩
      rw [← hn1] at hv1
      subst hv1
      have HN1 := Aside0.mk hn1
      clear hn1
      by_cases hlt : (i : Int) < (t.f3.length : Int)
      · have c3b0 : decide ((i : Int) < (t.f3.length : Int)) = true := decide_eq_true hlt
        have hlt' : i < t.f3.length := by omega
        have c3b1 : decide (i < t.f3.length) = true := decide_eq_true hlt'
        obtain ⟨ad, A3, c3, e1, hx0, hx1, hx2, hx3, hl3, hi3⟩ := at_T29 HC.out (i : Int) (by omega) hlt
        cases e1
        obtain ⟨x, hx⟩ : ∃ x, x = t.f3[i] := ⟨_, rfl⟩
        have hrd : rd_T29 t.f3 (i : Int) = x := by rw [hx]; exact rd29_at t.f3 i hlt'
        rw [hrd] at hx0 hx1 hx2 hx3 hl3 hi3
        have HX := Aside0.mk (show x ∈ t.f3 by rw [hx]; exact List.getElem_mem hlt')
        have HXI := Aside0.mk hx
        have HNX := Aside0.mk (show vsS (t.f3.take (i + 1)) l2 = vsT x (vsS (t.f3.take i) l2) by rw [hx]; exact vsS_take t.f3 i hlt' l2)
        have HCX := Aside0.mk hi3
        have HLX := Aside0.mk hl3
        clear hi3 hl3 hrd hx
        have HKU := Aside0.mk HK.out.1
        replace hx0 := (HB.out.cell (World.block_lt_of_cell? w _ hx0)).trans hx0
        replace hx1 := (HB.out.cell (World.block_lt_of_cell? w _ hx1)).trans hx1
        replace hx2 := (HB.out.cell (World.block_lt_of_cell? w _ hx2)).trans hx2
        replace hx3 := (HB.out.cell (World.block_lt_of_cell? w _ hx3)).trans hx3
        simp only [Int.toNat_natCast] at hx0 hx1 hx2 hx3
        have HBD := Aside0.mk (show (vsS (t.f3.take i) l2).length + cn29 x ≤ 4194304 by
          have h1_ := vsS_len (t.f3.take i) l2
          have h2_ := hdV_len t l
          have h3_ := HLN.out
          have h4_ := HL2.out
          have h5_ := cns29_append (t.f3.take i) (t.f3.drop i)
          rw [List.take_append_drop, List.drop_eq_getElem_cons hlt', cns29, ← HXI.out] at h5_
          rw [← h4_] at h2_
          have h6_ := cn29_eq t
          omega)
        have HLT_ga := Aside0.mk (blk_lt BK_ga.out)
        have hc0 : wr.cell? ⟨ga, 0, none⟩ = some (.int .i64 t.f0) := (blk_cell BK_ga.out 0).trans rfl
        have hc1 : wr.cell? ⟨ga, 1, none⟩ = some (.string t.f1) := (blk_cell BK_ga.out 1).trans rfl
        have hc2 : wr.cell? ⟨ga, 2, none⟩ = some (.int .i64 t.f2) := (blk_cell BK_ga.out 2).trans rfl
        have hc3 : wr.cell? ⟨ga, 3, none⟩ = some (.slice (some ad) t.f3.length c) := (blk_cell BK_ga.out 3).trans rfl
        have hf0 := blk_frozen BK_ga.out 0
        have hf1 := blk_frozen BK_ga.out 1
        have hf2 := blk_frozen BK_ga.out 2
        have hf3 := blk_frozen BK_ga.out 3
        go_wp2_with (go_at_call 77; refine (IH.out x HX.out (vsS (t.f3.take i) l2) (.slice A1 n1 c1) A3 c3 w wr (fun k_ => (P k_ ∨ u.heap.size ≤ k_) ∧ k_ ≠ ga) HBD.out HCX.out HLX.out HB.out HR0.out).mono ?_; rintro e w8 ⟨v9, rfl, ho, hb, hk⟩; have BK8 := Aside0.mk (blk_kept BK_ga.out hk (fun z => z.2 rfl)))
        go_roundg (t.f3.length - (i + 1))
        case measure => have := hi.out; omega
        case rel => exact ⟨i + 1, by go_num, ⟨by have := hi.out; omega⟩, ⟨by rw [HNX.out]; exact Kd.R_mono ho (fun k_ hk_ => hk_.elim (fun z => z) (fun z => ⟨.inr (Nat.le_trans HKU.out z), fun e_ => by have := HLT_ga.out; omega⟩))⟩, ⟨hb⟩, ⟨HK.out.then_ hk (fun k_ hk_ => hk_.1)⟩, BK8⟩
      · have c3b0 : decide ((i : Int) < (t.f3.length : Int)) = false := decide_eq_false hlt
        have c3b1 : decide (i < t.f3.length) = false := decide_eq_false (by omega)
        have hc0 : wr.cell? ⟨ga, 0, none⟩ = some (.int .i64 t.f0) := (blk_cell BK_ga.out 0).trans rfl
        have hc1 : wr.cell? ⟨ga, 1, none⟩ = some (.string t.f1) := (blk_cell BK_ga.out 1).trans rfl
        have hc2 : wr.cell? ⟨ga, 2, none⟩ = some (.int .i64 t.f2) := (blk_cell BK_ga.out 2).trans rfl
        have hc3 : wr.cell? ⟨ga, 3, none⟩ = some (.slice A t.f3.length c) := (blk_cell BK_ga.out 3).trans rfl
        have hf0 := blk_frozen BK_ga.out 0
        have hf1 := blk_frozen BK_ga.out 1
        have hf2 := blk_frozen BK_ga.out 2
        have hf3 := blk_frozen BK_ga.out 3
        have hie : t.f3.take i = t.f3 := List.take_of_length_le (by omega)
        have HR2 := HR0.out
        rw [hie] at HR2
        have HRZ := Aside0.mk HR2
        clear HR2 hie
        go_wp2
        go_ret
        exact ⟨_, rfl, by rw [vsT_eq, ← HL2.out]; exact Kd.R_mono HRZ.out (fun k_ hk_ => hk_.1), HB.out, HK.out⟩
theorem l03v_all (n : Nat) : ∀ t, ht29 t ≤ n → L03T t := by
  induction n with
  | zero => intro t h; rw [ht29_eq] at h; omega
  | succ n ih => intro t h; rw [ht29_eq] at h; exact l03v_step t (fun x hx => ih x (by have := hts29_mem hx; omega))
set_option maxHeartbeats 8000000 in
set_option maxRecDepth 100000 in
theorem varsof_calls (t : S29) (A : Option Addr) (c : Nat) (w : World) (hcn : cn29 t ≤ 4194304) (hC : Kd.C k29 w A t.f3.length t.f3) (hc : t.f3.length ≤ c) :
    Calls Try.prog 34 #[.agg #[.int .i64 t.f0, .string t.f1, .int .i64 t.f2, .slice A t.f3.length c]] w fun e w' => ∃ v, e = .returned v ∧ Kd.R (Kd.int .i64) 3 w' w.heap.size (fun _ => True) v (vsT t []) ∧ Below w.heap.size w w' := by
  have IH := Aside0.mk (add_all (ht29 t) t (Nat.le_refl _))
  have HBD := Aside0.mk (show ([] : List Int).length + cn29 t ≤ 4194304 by simpa using hcn)
  have HC := Aside0.mk hC
  have HCC := Aside0.mk hc
  have HB := Aside0.mk (Below.refl w.heap.size w)
  clear hcn hC hc
  go_enter Try.func34, Try.ntmps34
  go_wp2_with (first
    | ((with_reducible refine gate_dst (N := 1) rfl ?_); refine box_event ?hg1 (N := 1) ?hd1 (cs := #[.int .i64 t.f0, .string t.f1, .int .i64 t.f2, .slice A t.f3.length c]) (t := 29) ?hr1 ?_; (case hd1 => rfl); (case hg1 => rfl); (case hr1 => first | (go_simp; done) | (go_simp; rfl)); intro ga hg w1 hbox hb; have HG_ga := Aside0.mk hg; have BK_ga := Aside0.mk hbox; have q_ := Aside0.mk (below_step HB.out hb); have HGE_ga := Aside0.mk (show w.heap.size ≤ ga by have := HB.out.size; omega); clear HB; have HB := q_; clear q_; have HLT_ga := Aside0.mk (blk_lt hbox); have hc_ga_0 : w1.cell? ⟨ga, 0, none⟩ = some (.int .i64 t.f0) := (blk_cell BK_ga.out 0).trans rfl; have fc_ga_0 := blk_frozen BK_ga.out 0; have hc_ga_1 : w1.cell? ⟨ga, 1, none⟩ = some (.string t.f1) := (blk_cell BK_ga.out 1).trans rfl; have fc_ga_1 := blk_frozen BK_ga.out 1; have hc_ga_2 : w1.cell? ⟨ga, 2, none⟩ = some (.int .i64 t.f2) := (blk_cell BK_ga.out 2).trans rfl; have fc_ga_2 := blk_frozen BK_ga.out 2; have hc_ga_3 : w1.cell? ⟨ga, 3, none⟩ = some (.slice A t.f3.length c) := (blk_cell BK_ga.out 3).trans rfl; have fc_ga_3 := blk_frozen BK_ga.out 3; clear hg hbox hb)
    | (go_at_call 78; refine (IH.out [] (.slice none 0 0) A c w _ (fun _ => False) HBD.out HC.out HCC.out HB.out (Kd.R_nil _ _ _ _ _)).mono ?_; rintro e w4 ⟨v4, rfl, ho, hb, _⟩))
  go_ret
  exact ⟨_, rfl, Kd.R_mono ho (fun _ _ => trivial), hb⟩
set_option maxHeartbeats 8000000 in
set_option maxRecDepth 100000 in
theorem svarsof_calls (t : S29) (A : Option Addr) (c : Nat) (w : World) (hcn : cn29 t ≤ 4194304) (hC : Kd.C k29 w A t.f3.length t.f3) (hc : t.f3.length ≤ c) :
    Calls Try.prog 33 #[.agg #[.int .i64 t.f0, .string t.f1, .int .i64 t.f2, .slice A t.f3.length c]] w fun e w' => ∃ v, e = .returned v ∧ Kd.R (Kd.int .i64) 3 w' w.heap.size (fun _ => True) v (vsT t []) ∧ Below w.heap.size w w' := by
  have IH := Aside0.mk (l03v_all (ht29 t) t (Nat.le_refl _))
  have HBD := Aside0.mk (show ([] : List Int).length + cn29 t ≤ 4194304 by simpa using hcn)
  have HC := Aside0.mk hC
  have HCC := Aside0.mk hc
  have HB := Aside0.mk (Below.refl w.heap.size w)
  clear hcn hC hc
  go_enter Try.func33, Try.ntmps33
  go_wp2_with (first
    | ((with_reducible refine gate_dst (N := 1) rfl ?_); refine box_event ?hg1 (N := 1) ?hd1 (cs := #[.int .i64 t.f0, .string t.f1, .int .i64 t.f2, .slice A t.f3.length c]) (t := 29) ?hr1 ?_; (case hd1 => rfl); (case hg1 => rfl); (case hr1 => first | (go_simp; done) | (go_simp; rfl)); intro ga hg w1 hbox hb; have HG_ga := Aside0.mk hg; have BK_ga := Aside0.mk hbox; have q_ := Aside0.mk (below_step HB.out hb); have HGE_ga := Aside0.mk (show w.heap.size ≤ ga by have := HB.out.size; omega); clear HB; have HB := q_; clear q_; have HLT_ga := Aside0.mk (blk_lt hbox); have hc_ga_0 : w1.cell? ⟨ga, 0, none⟩ = some (.int .i64 t.f0) := (blk_cell BK_ga.out 0).trans rfl; have fc_ga_0 := blk_frozen BK_ga.out 0; have hc_ga_1 : w1.cell? ⟨ga, 1, none⟩ = some (.string t.f1) := (blk_cell BK_ga.out 1).trans rfl; have fc_ga_1 := blk_frozen BK_ga.out 1; have hc_ga_2 : w1.cell? ⟨ga, 2, none⟩ = some (.int .i64 t.f2) := (blk_cell BK_ga.out 2).trans rfl; have fc_ga_2 := blk_frozen BK_ga.out 2; have hc_ga_3 : w1.cell? ⟨ga, 3, none⟩ = some (.slice A t.f3.length c) := (blk_cell BK_ga.out 3).trans rfl; have fc_ga_3 := blk_frozen BK_ga.out 3; clear hg hbox hb)
    | ((with_reducible refine gate_dst (N := 4) rfl ?_); refine Kd.R_lit (Kd.int .i64) _ 3 ?hg (N := 4) ?hd (xs := ([] : List Int)) (inner := []) (ok := fun _ => True) (okp := fun _ => True) ?hr ?hp (fun _ hk => hk) trivial (Below.refl _ _) (Nat.le_refl _) (by simp) ?_; (case hd => rfl); (case hg => rfl); (case hr => first | (go_simp; done) | (go_simp; rfl)); (case hp => exact (Reps.none _ _)); intro v2 w2 ho hb hg_ hnew_; clear hg_ hnew_; have HR := Aside0.mk (Kd.R_lower ho HB.out.size); have q_ := Aside0.mk (below_step HB.out hb); clear HB; have HB := q_; clear q_ ho hb)
    | (go_at_call 77; refine (IH.out [] v2 A c w _ (fun _ => True) HBD.out HC.out HCC.out HB.out HR.out).mono ?_; rintro e w4 ⟨v4, rfl, ho, hb, _⟩))
  go_ret
  exact ⟨_, rfl, Kd.R_mono ho (fun _ _ => trivial), hb⟩
end
/-! #### rows of ints: marked, held, compared -/
def mkI : List Int → Int → List Int
  | [], _ => []
  | _ :: l, k => k :: mkI l (k + 1)
theorem mkI_length : ∀ (l : List Int) (k : Int), (mkI l k).length = l.length
  | [], _ => rfl
  | _ :: l, k => by rw [mkI, List.length_cons, List.length_cons, mkI_length l]
theorem mkI_append : ∀ (l m : List Int) (k : Int), mkI (l ++ m) k = mkI l k ++ mkI m (k + l.length)
  | [], m, k => by rw [mkI, List.nil_append, List.nil_append, List.length_nil]; congr 1; omega
  | _ :: l, m, k => by rw [List.cons_append, mkI, mkI, List.cons_append, mkI_append l m, List.length_cons]; congr 3; push_cast; omega
theorem mkI_set (xs : List Int) (k : Int) (i : Nat) (h : i < xs.length) : (mkI (xs.take i) k ++ xs.drop i).set i (k + i) = mkI (xs.take (i + 1)) k ++ xs.drop (i + 1) := by
  have hl : (mkI (xs.take i) k).length = i := by rw [mkI_length, List.length_take]; omega
  rw [List.set_append_right _ _ (by omega), hl, Nat.sub_self, List.drop_eq_getElem_cons h, List.set_cons_zero, List.take_succ_eq_append_getElem h, mkI_append, mkI, mkI, List.append_assoc, List.length_take, Nat.min_eq_left (by omega)]
  rfl
theorem mkI_get : ∀ (l : List Int) (k : Int) (i : Nat) (h : i < l.length), (mkI l k)[i]'(by rw [mkI_length]; exact h) = k + i
  | _ :: l, k, 0, _ => by simp [mkI]
  | _ :: l, k, i + 1, h => by
    simp only [mkI, List.getElem_cons_succ]
    rw [mkI_get l _ i (by simpa using h)]
    push_cast; omega
theorem markI_ok (xs : List Int) (hx : xs.length ≤ 4194304) (k0 : Int) (h0 : 0 < k0) (h1 : k0 ≤ 1000000000) : laws_markIntS.f (xs.length + 1) xs k0 = some (k0 + xs.length, mkI xs k0) := by
  have hl : ∀ (d k i : Nat), i ≤ xs.length → xs.length - i = d → d < k → laws_markIntS.l0 k (mkI (xs.take i) k0 ++ xs.drop i) (k0 + i) i = some (k0 + xs.length, mkI xs k0) := by
    intro d
    induction d with
    | zero =>
      intro k i hi hd hk
      obtain ⟨k, rfl⟩ : ∃ m, k = m + 1 := ⟨k - 1, by omega⟩
      have hie : i = xs.length := by omega
      simp only [laws_markIntS.l0]
      have hlen : (mkI (xs.take i) k0 ++ xs.drop i).length = xs.length := by rw [List.length_append, mkI_length, List.length_take, List.length_drop]; omega
      rw [if_neg (by omega), hie, List.take_length, List.drop_length, List.append_nil]
    | succ d ih =>
      intro k i hi hd hk
      obtain ⟨k, rfl⟩ : ∃ m, k = m + 1 := ⟨k - 1, by omega⟩
      have hlt : i < xs.length := by omega
      have hlen : (mkI (xs.take i) k0 ++ xs.drop i).length = xs.length := by rw [List.length_append, mkI_length, List.length_take, List.length_drop]; omega
      simp only [laws_markIntS.l0]
      rw [if_pos (by omega), if_pos (by omega), Int.toNat_natCast, mkI_set xs k0 i hlt, vi_wrap (by omega) (by omega), vi_wrap (by omega) (by omega)]
      have := ih k (i + 1) (by omega) (by omega) (by omega)
      rw [show k0 + (i : Int) + 1 = k0 + ((i + 1 : Nat) : Int) by push_cast; omega, show (i : Int) + 1 = ((i + 1 : Nat) : Int) by omega]
      exact this
  unfold laws_markIntS.f
  have := hl xs.length (xs.length + 1) 0 (by omega) rfl (by omega)
  rw [List.take_zero, mkI, List.nil_append, List.drop_zero] at this
  simpa using this
theorem heldI_ok (xs : List Int) (hx : xs.length ≤ 4194304) (k0 : Int) (h0 : 0 < k0) (h1 : k0 ≤ 1000000000) : laws_heldIntS.f (xs.length + 1) (mkI xs k0) k0 = some (k0 + xs.length) := by
  have hl : ∀ (d k i : Nat), i ≤ xs.length → xs.length - i = d → d < k → laws_heldIntS.l0 k (mkI xs k0) (k0 + i) i = some (k0 + xs.length) := by
    intro d
    induction d with
    | zero =>
      intro k i hi hd hk
      obtain ⟨k, rfl⟩ : ∃ m, k = m + 1 := ⟨k - 1, by omega⟩
      simp only [laws_heldIntS.l0]
      rw [if_neg (by rw [mkI_length]; omega), show i = xs.length by omega]
    | succ d ih =>
      intro k i hi hd hk
      obtain ⟨k, rfl⟩ : ∃ m, k = m + 1 := ⟨k - 1, by omega⟩
      have hlt : i < xs.length := by omega
      simp only [laws_heldIntS.l0]
      rw [if_pos (by rw [mkI_length]; omega), if_pos (by omega), rdi_at _ i (by rw [mkI_length]; exact hlt), mkI_get xs k0 i hlt, if_pos rfl, vi_wrap (by omega) (by omega), vi_wrap (by omega) (by omega)]
      have := ih k (i + 1) (by omega) (by omega) (by omega)
      rw [show k0 + (i : Int) + 1 = k0 + ((i + 1 : Nat) : Int) by push_cast; omega, show (i : Int) + 1 = ((i + 1 : Nat) : Int) by omega]
      exact this
  unfold laws_heldIntS.f
  have := hl xs.length (xs.length + 1) 0 (by omega) rfl (by omega)
  simpa using this
theorem eqI_ok (xs : List Int) (hx : xs.length ≤ 4194304) : laws_eqIntS.f (xs.length + 1) xs xs = some true := by
  have hl : ∀ (d k i : Nat), i ≤ xs.length → xs.length - i = d → d < k → laws_eqIntS.l0 k xs xs i = some true := by
    intro d
    induction d with
    | zero =>
      intro k i hi hd hk
      obtain ⟨k, rfl⟩ : ∃ m, k = m + 1 := ⟨k - 1, by omega⟩
      simp only [laws_eqIntS.l0]
      rw [if_neg (by omega)]
    | succ d ih =>
      intro k i hi hd hk
      obtain ⟨k, rfl⟩ : ∃ m, k = m + 1 := ⟨k - 1, by omega⟩
      have hlt : i < xs.length := by omega
      simp only [laws_eqIntS.l0]
      rw [if_pos (by omega), if_pos (by omega), if_pos (by omega), if_pos trivial, vi_wrap (by omega) (by omega)]
      exact ih k (i + 1) (by omega) (by omega) (by omega)
  unfold laws_eqIntS.f
  rw [if_pos rfl]
  exact hl xs.length (xs.length + 1) 0 (by omega) rfl (by omega)
/-! #### markIntS, over any base -/
section
set_option linter.unusedSectionVars false
variable [fk_laws_szTerm] [fk_laws_toTerm] [fk_laws_eqTerm]
set_option maxHeartbeats 8000000 in
set_option maxRecDepth 100000 in
theorem markI_calls (xs : List Int) (hx : xs.length ≤ 4194304) (A : Option Addr) (c : Nat) (w : World) (base : Nat) (ok : Nat → Prop) (hbs : base ≤ w.heap.size) (hR : Kd.R (Kd.int .i64) 3 w base ok (.slice A xs.length c) xs) :
    Calls Try.prog 36 #[.slice A xs.length c, .int .i64 1] w fun e w' => e = .returned (.int .i64 (1 + (xs.length : Int))) ∧ Kd.R (Kd.int .i64) 3 w' base ok (.slice A xs.length c) (mkI xs 1) ∧ Below base w w' ∧ Kept w w' ok := by
  have HR := Aside0.mk hR
  clear hR
  go_enter Try.func36, Try.ntmps36
  go_wp2
  go_loopg [1, 5] xs.length (fun m v1 v5 w' => ∃ i : Nat, v5 = .int .i64 i ∧ v1 = .int .i64 (1 + (i : Int)) ∧ Aside0 (m + i = xs.length) ∧ Aside0 (Kd.R (Kd.int .i64) 3 w' base ok (.slice A xs.length c) (mkI (xs.take i) 1 ++ xs.drop i)) ∧ Aside0 (Below base w w') ∧ Aside0 (Kept w w' ok))
  case atStart => exact ⟨0, rfl, by simp, ⟨by omega⟩, ⟨by simpa [mkI] using HR.out⟩, ⟨Below.refl _ _⟩, ⟨Kept.refl _ _⟩⟩
  case round =>
    clear HR
    obtain ⟨i, rfl, rfl, hi, HR, HB, HK⟩ := hrel
    by_cases hlt : (i : Int) < (xs.length : Int)
    · have c3b0 : decide ((i : Int) < (xs.length : Int)) = true := decide_eq_true hlt
      have hlt' : i < xs.length := by omega
      have c3b1 : decide (i < xs.length) = true := decide_eq_true hlt'
      have hlen : (mkI (xs.take i) 1 ++ xs.drop i).length = xs.length := by rw [List.length_append, mkI_length, List.length_take, List.length_drop]; omega
      obtain ⟨g, hA, hgb⟩ : ∃ g, A = some ⟨g, 0, none⟩ ∧ base ≤ g := by
        obtain ⟨g, cap, e, hb, _⟩ := Kd.R_form HR.out (by omega)
        injection e with e1
        exact ⟨g, e1, hb⟩
      subst hA
      have HG := Aside0.mk hgb
      clear hgb
      obtain ⟨hx0, hf0⟩ := Kd.R_celln (0 : Int) HR.out (i : Int) (by omega) hlt
      have HP := Kd.R_putg HR.out (i : Int) (1 + (i : Int))
      rw [Int.toNat_natCast] at hx0 hf0 HP
      rw [mkI_set xs 1 i hlt'] at HP
      have HPP := Aside0.mk HP
      clear HP hlen
      go_wp2_with ((with_reducible refine gate_store (t := 3) (p := 15) rfl ?_); refine store_event (t := 3) (p := 15) (v := ?vo) (w1 := (wr.setCell ⟨g, i, none⟩ (.int .i64 (1 + (i : Int))))) ?hg ?ho ?hn ?hr ?_; (case ho => rfl); (case hg => rfl); (case hn => rfl); (case hr => first | (go_simp; done) | (go_simp; rfl)); intro w8 hw; subst hw)
      go_roundg (xs.length - (i + 1))
      case measure => have := hi.out; omega
      case rel => exact ⟨i + 1, by go_num, by (first | (go_num; done) | (rw [vi_wrap (by omega) (by omega)]; congr 1; push_cast; omega) | (congr 1; push_cast; omega)), ⟨by have := hi.out; omega⟩, ⟨HPP.out.1⟩, ⟨HB.out.setCell HG.out _⟩, ⟨Kept.of_grown HPP.out.2 HK.out (fun k_ e_ => .inl (HR.out.1 k_ e_))⟩⟩
    · have c3b0 : decide ((i : Int) < (xs.length : Int)) = false := decide_eq_false hlt
      have c3b1 : decide (i < xs.length) = false := decide_eq_false (by omega)
      have hie : i = xs.length := by have := hi.out; omega
      subst hie
      have HZ := HR.out
      rw [List.take_length, List.drop_length, List.append_nil] at HZ
      have HY := Aside0.mk HZ
      clear HZ
      go_wp2
      go_ret
      exact ⟨rfl, HY.out, HB.out, HK.out⟩
end
/-! #### the law FnExactVarsOf, step by step, for any callees that tell what they should -/
section
set_option linter.unusedSectionVars false
variable [fk_laws_szTerm] [fk_laws_toTerm] [fk_laws_eqTerm]
def lw8_10_T : Bool × List (List Nat × List Nat) := (true, [([], []), ([], []), ([1], [1]), ([0, 2, 2], [0, 2]), ([3], [3])])
def lw8_10_B : List Nat := [0, 0, 2, 7, 15]
theorem lw8_10_tab : rtab .any (opsOf Try.f8 10) = lw8_10_T := by kernel_rfl
theorem lw8_10_bits : waitsOk lw8_10_T.2 lw8_10_B = true := by kernel_rfl

set_option maxHeartbeats 32000000 in
set_option maxRecDepth 100000 in
theorem va_walk (t : S24) (A_T : Option Addr) (c_T : Nat) (left1 m m2 : Int) (xs ys : List Int) (xt yt : List S29) (w : World)
    (hm : 0 ≤ m)
    (hm2 : 0 ≤ m2)
    (hl1 : 0 ≤ left1)
    (hlT : t.f3.length ≤ c_T)
    (hCT : Kd.C k24 w A_T t.f3.length t.f3)
    (c15 : ∀ W A c, t.f3.length ≤ c → Kd.C k24 W A t.f3.length t.f3 → Calls Try.prog 15 #[.agg #[.int .i64 t.f0, .string t.f1, .int .i64 t.f2, .slice A t.f3.length c], .int .i64 1048576] W fun e W' => e = .returned (.int .i64 left1) ∧ Below W.heap.size W W')
    (c17 : ∀ W A c, t.f3.length ≤ c → Kd.C k24 W A t.f3.length t.f3 → Calls Try.prog 17 #[.agg #[.int .i64 t.f0, .string t.f1, .int .i64 t.f2, .slice A t.f3.length c]] W fun e W' => ∃ v, e = .returned (.agg #[.int .i64 t.f0, .string t.f1, .int .i64 t.f2, v]) ∧ Kd.S kD29 29 W' W.heap.size (fun _ => True) v xt ∧ Below W.heap.size W W')
    (c33 : ∀ W A c, xt.length ≤ c → Kd.C k29 W A xt.length xt → Calls Try.prog 33 #[.agg #[.int .i64 t.f0, .string t.f1, .int .i64 t.f2, .slice A xt.length c]] W fun e W' => ∃ v, e = .returned v ∧ Kd.R (Kd.int .i64) 3 W' W.heap.size (fun _ => True) v xs ∧ Below W.heap.size W W')
    (c34 : ∀ W A c, xt.length ≤ c → Kd.C k29 W A xt.length xt → Calls Try.prog 34 #[.agg #[.int .i64 t.f0, .string t.f1, .int .i64 t.f2, .slice A xt.length c]] W fun e W' => ∃ v, e = .returned v ∧ Kd.R (Kd.int .i64) 3 W' W.heap.size (fun _ => True) v xs ∧ Below W.heap.size W W')
    (c35 : ∀ W A c B d, xs.length ≤ c → Kd.C (Kd.int .i64) W A xs.length xs → xs.length ≤ d → Kd.C (Kd.int .i64) W B xs.length xs → Calls Try.prog 35 #[.slice A xs.length c, .slice B xs.length d] W fun e W' => e = .returned (.bool true) ∧ Below W.heap.size W W')
    (d19 : ∀ W A c B d, xt.length ≤ c → Kd.C k29 W A xt.length xt → xt.length ≤ d → Kd.C k29 W B xt.length xt → Calls Try.prog 19 #[.agg #[.int .i64 t.f0, .string t.f1, .int .i64 t.f2, .slice A xt.length c], .agg #[.int .i64 t.f0, .string t.f1, .int .i64 t.f2, .slice B xt.length d]] W fun e W' => e = .returned (.bool true) ∧ Below W.heap.size W W')
    (d29 : ∀ W base ok A c, base ≤ W.heap.size → Kd.S kD29 29 W base ok (.slice A xt.length c) xt → Calls Try.prog 29 #[.agg #[.int .i64 t.f0, .string t.f1, .int .i64 t.f2, .slice A xt.length c], .int .i64 1] W fun e W' => e = .returned (.int .i64 m2) ∧ Kd.S kD29 29 W' base ok (.slice A xt.length c) yt ∧ Below base W W' ∧ Kept W W' ok)
    (c36 : ∀ W base ok A c, base ≤ W.heap.size → Kd.R (Kd.int .i64) 3 W base ok (.slice A xs.length c) xs → Calls Try.prog 36 #[.slice A xs.length c, .int .i64 1] W fun e W' => e = .returned (.int .i64 m) ∧ Kd.R (Kd.int .i64) 3 W' base ok (.slice A xs.length c) ys ∧ Below base W W' ∧ Kept W W' ok)
    (c37 : ∀ W A c, xs.length ≤ c → Kd.C (Kd.int .i64) W A xs.length ys → Calls Try.prog 37 #[.slice A xs.length c, .int .i64 1] W fun e W' => e = .returned (.int .i64 m) ∧ Below W.heap.size W W') :
    Calls Try.prog 8 #[.agg #[.int .i64 t.f0, .string t.f1, .int .i64 t.f2, .slice A_T t.f3.length c_T]] w fun e w' => e = .returned (.bool true) ∧ Below w.heap.size w w' := by
  have HL_T := Aside0.mk hlT
  have HC_T := Aside0.mk hCT
  clear hlT hCT
  have cm0 : decide (m < 0) = false := decide_eq_false (by omega)
  have cm1 : (m != m) = false := by simp
  have cm2 : decide (m2 < 0) = false := decide_eq_false (by omega)
  have cl1 : decide (left1 < 0) = false := decide_eq_false (by omega)
  clear hm hm2 hl1
  have HB := Aside0.mk (Below.refl w.heap.size w)
  go_enter Try.func8, Try.ntmps8
  go_wp2_with (first
    | ((with_reducible refine gate_dst (N := 1) rfl ?_); refine box_event ?hg1 (N := 1) ?hd1 (cs := #[.int .i64 t.f0, .string t.f1, .int .i64 t.f2, .slice A_T t.f3.length c_T]) (t := 24) ?hr1 ?_; (case hd1 => rfl); (case hg1 => rfl); (case hr1 => first | (go_simp; done) | (go_simp; rfl)); intro g_b1 hg w1 hbox hb; have HG_b1 := Aside0.mk hg; have HL_b1 := Aside0.mk (blk_lt hbox); have CH0 := Aside0.mk hb.size; have n0_ := Aside0.mk (below_step HB.out hb); clear HB; have HB := n0_; clear n0_; have BK_b1 := Aside0.mk hbox; clear hg hbox hb; have hc_b1_0 : w1.cell? ⟨g_b1, 0, none⟩ = some (.int .i64 t.f0) := (blk_cell BK_b1.out 0).trans rfl; have hc_b1_1 : w1.cell? ⟨g_b1, 1, none⟩ = some (.string t.f1) := (blk_cell BK_b1.out 1).trans rfl; have hc_b1_2 : w1.cell? ⟨g_b1, 2, none⟩ = some (.int .i64 t.f2) := (blk_cell BK_b1.out 2).trans rfl; have hc_b1_3 : w1.cell? ⟨g_b1, 3, none⟩ = some (.slice A_T t.f3.length c_T) := (blk_cell BK_b1.out 3).trans rfl)
    | ((with_reducible refine gate_callee (f := 15) rfl ?_); refine goesL_ (some 13) rfl rfl Try.func15 (by kernel_rfl) rfl #[.agg #[.int .i64 t.f0, .string t.f1, .int .i64 t.f2, .slice A_T t.f3.length c_T], .int .i64 1048576] rfl (by (try simp only [List.map_toArray, List.map_cons, List.map_nil]); first | done | rfl) ?_; refine (c15 _ _ _ HL_T.out (Kd.C_below HC_T.out HB.out)).mono ?_; rintro e w2 ⟨rfl, hb⟩; refine ⟨_, rfl, ?_⟩; have CH1 := Aside0.mk hb.size; have n0_ := Aside0.mk (below_step HB.out hb); have n1_ := Aside0.mk (blk_below BK_b1.out hb); clear HB BK_b1; have HB := n0_; have BK_b1 := n1_; clear n0_ n1_; clear hb; clear hc_b1_0 hc_b1_1 hc_b1_2 hc_b1_3; have hc_b1_0 : w2.cell? ⟨g_b1, 0, none⟩ = some (.int .i64 t.f0) := (blk_cell BK_b1.out 0).trans rfl; have hc_b1_1 : w2.cell? ⟨g_b1, 1, none⟩ = some (.string t.f1) := (blk_cell BK_b1.out 1).trans rfl; have hc_b1_2 : w2.cell? ⟨g_b1, 2, none⟩ = some (.int .i64 t.f2) := (blk_cell BK_b1.out 2).trans rfl; have hc_b1_3 : w2.cell? ⟨g_b1, 3, none⟩ = some (.slice A_T t.f3.length c_T) := (blk_cell BK_b1.out 3).trans rfl)
    | ((with_reducible refine gate_callee (f := 17) rfl ?_); refine goesL_ (some 17) rfl rfl Try.func17 (by kernel_rfl) rfl #[.agg #[.int .i64 t.f0, .string t.f1, .int .i64 t.f2, .slice A_T t.f3.length c_T]] rfl (by (try simp only [List.map_toArray, List.map_cons, List.map_nil]); first | done | rfl) ?_; refine (c17 _ _ _ HL_T.out (Kd.C_below HC_T.out HB.out)).mono ?_; rintro e w3 ⟨v_f0, rfl, ho_f0, hb⟩; refine ⟨_, rfl, ?_⟩; have CH2 := Aside0.mk hb.size; have HW_f0 := Aside0.mk HB.out.size; have n0_ := Aside0.mk (below_step HB.out hb); have n1_ := Aside0.mk (blk_below BK_b1.out hb); clear HB BK_b1; have HB := n0_; have BK_b1 := n1_; clear n0_ n1_; obtain ⟨A_f0, c_f0, rfl⟩ := Kd.S_slice ho_f0; have RW_f0 := Aside0.mk (Kd.S_mono (ok' := fun k_ => w2.heap.size ≤ k_ ∧ k_ < w3.heap.size) (Kd.S_bound ho_f0) (fun k_ hk_ => ⟨hk_.2.1, hk_.2.2.1⟩)); clear hb ho_f0; clear hc_b1_0 hc_b1_1 hc_b1_2 hc_b1_3; have hc_b1_0 : w3.cell? ⟨g_b1, 0, none⟩ = some (.int .i64 t.f0) := (blk_cell BK_b1.out 0).trans rfl; have hc_b1_1 : w3.cell? ⟨g_b1, 1, none⟩ = some (.string t.f1) := (blk_cell BK_b1.out 1).trans rfl; have hc_b1_2 : w3.cell? ⟨g_b1, 2, none⟩ = some (.int .i64 t.f2) := (blk_cell BK_b1.out 2).trans rfl; have hc_b1_3 : w3.cell? ⟨g_b1, 3, none⟩ = some (.slice A_T t.f3.length c_T) := (blk_cell BK_b1.out 3).trans rfl)
    | ((with_reducible refine gate_callee (f := 33) rfl ?_); refine goesL_ (some 18) rfl rfl Try.func33 (by kernel_rfl) rfl #[.agg #[.int .i64 t.f0, .string t.f1, .int .i64 t.f2, .slice A_f0 xt.length c_f0]] rfl (by (try simp only [List.map_toArray, List.map_cons, List.map_nil]); first | done | rfl) ?_; refine (c33 _ _ _ (readS RW_f0.out).1 (readS RW_f0.out).2).mono ?_; rintro e w4 ⟨v_w0, rfl, ho_w0, hb⟩; refine ⟨_, rfl, ?_⟩; have CH3 := Aside0.mk hb.size; have HW_w0 := Aside0.mk HB.out.size; have n0_ := Aside0.mk (below_step HB.out hb); have n1_ := Aside0.mk (blk_below BK_b1.out hb); have n2_ := Aside0.mk (Kd.S_below RW_f0.out hb); clear HB BK_b1 RW_f0; have HB := n0_; have BK_b1 := n1_; have RW_f0 := n2_; clear n0_ n1_ n2_; obtain ⟨A_w0, c_w0, rfl⟩ := Kd.R_slice ho_w0; have RW_w0 := Aside0.mk (Kd.R_mono (ok' := fun k_ => w3.heap.size ≤ k_ ∧ k_ < w4.heap.size) (Kd.R_bound ho_w0) (fun k_ hk_ => ⟨hk_.2.1, hk_.2.2.1⟩)); clear hb ho_w0; clear RW_f0; clear hc_b1_0 hc_b1_1 hc_b1_2 hc_b1_3; have hc_b1_0 : w4.cell? ⟨g_b1, 0, none⟩ = some (.int .i64 t.f0) := (blk_cell BK_b1.out 0).trans rfl; have hc_b1_1 : w4.cell? ⟨g_b1, 1, none⟩ = some (.string t.f1) := (blk_cell BK_b1.out 1).trans rfl; have hc_b1_2 : w4.cell? ⟨g_b1, 2, none⟩ = some (.int .i64 t.f2) := (blk_cell BK_b1.out 2).trans rfl; have hc_b1_3 : w4.cell? ⟨g_b1, 3, none⟩ = some (.slice A_T t.f3.length c_T) := (blk_cell BK_b1.out 3).trans rfl)
    | ((with_reducible refine gate_callee (f := 17) rfl ?_); refine goesL_ (some 20) rfl rfl Try.func17 (by kernel_rfl) rfl #[.agg #[.int .i64 t.f0, .string t.f1, .int .i64 t.f2, .slice A_T t.f3.length c_T]] rfl (by (try simp only [List.map_toArray, List.map_cons, List.map_nil]); first | done | rfl) ?_; refine (c17 _ _ _ HL_T.out (Kd.C_below HC_T.out HB.out)).mono ?_; rintro e w5 ⟨v_x0, rfl, ho_x0, hb⟩; refine ⟨_, rfl, ?_⟩; have CH4 := Aside0.mk hb.size; have HW_x0 := Aside0.mk HB.out.size; have n0_ := Aside0.mk (below_step HB.out hb); have n1_ := Aside0.mk (blk_below BK_b1.out hb); have n2_ := Aside0.mk (Kd.R_below RW_w0.out hb); clear HB BK_b1 RW_w0; have HB := n0_; have BK_b1 := n1_; have RW_w0 := n2_; clear n0_ n1_ n2_; obtain ⟨A_x0, c_x0, rfl⟩ := Kd.S_slice ho_x0; have RW_x0 := Aside0.mk (Kd.S_mono (ok' := fun k_ => w4.heap.size ≤ k_ ∧ k_ < w5.heap.size) (Kd.S_bound ho_x0) (fun k_ hk_ => ⟨hk_.2.1, hk_.2.2.1⟩)); clear hb ho_x0; clear hc_b1_0 hc_b1_1 hc_b1_2 hc_b1_3; have hc_b1_0 : w5.cell? ⟨g_b1, 0, none⟩ = some (.int .i64 t.f0) := (blk_cell BK_b1.out 0).trans rfl; have hc_b1_1 : w5.cell? ⟨g_b1, 1, none⟩ = some (.string t.f1) := (blk_cell BK_b1.out 1).trans rfl; have hc_b1_2 : w5.cell? ⟨g_b1, 2, none⟩ = some (.int .i64 t.f2) := (blk_cell BK_b1.out 2).trans rfl; have hc_b1_3 : w5.cell? ⟨g_b1, 3, none⟩ = some (.slice A_T t.f3.length c_T) := (blk_cell BK_b1.out 3).trans rfl)
    | ((with_reducible refine gate_dst (N := 5) rfl ?_); refine box_event ?hg5 (N := 5) ?hd5 (cs := #[.int .i64 0, .string (⟨#[]⟩ : ByteArray), .int .i64 0, .slice none 0 0]) (t := 29) ?hr5 ?_; (case hd5 => rfl); (case hg5 => rfl); (case hr5 => first | (go_simp; done) | (go_simp; rfl)); intro g_b5 hg z_b5 hbox hb; have HG_b5 := Aside0.mk hg; have BB_b5 := Aside0.mk hbox; have HBB_b5 := Aside0.mk hb; have hz_b5_0 : z_b5.cell? ⟨g_b5, 0, none⟩ = some (.int .i64 0) := (blk_cell BB_b5.out 0).trans rfl; have hf_b5_0 := blk_frozen BB_b5.out 0; have hz_b5_1 : z_b5.cell? ⟨g_b5, 1, none⟩ = some (.string (⟨#[]⟩ : ByteArray)) := (blk_cell BB_b5.out 1).trans rfl; have hf_b5_1 := blk_frozen BB_b5.out 1; have hz_b5_2 : z_b5.cell? ⟨g_b5, 2, none⟩ = some (.int .i64 0) := (blk_cell BB_b5.out 2).trans rfl; have hf_b5_2 := blk_frozen BB_b5.out 2; have hz_b5_3 : z_b5.cell? ⟨g_b5, 3, none⟩ = some (.slice none 0 0) := (blk_cell BB_b5.out 3).trans rfl; have hf_b5_3 := blk_frozen BB_b5.out 3; clear hg hbox hb)
    | ((with_reducible refine gate_store (t := 29) (p := 5) rfl ?_); refine store_event (t := 29) (p := 5) (v := ?vo5) (w1 := ((((z_b5.setCell ⟨g_b5, 0, none⟩ (.int .i64 t.f0)).setCell ⟨g_b5, 1, none⟩ (.string t.f1)).setCell ⟨g_b5, 2, none⟩ (.int .i64 t.f2)).setCell ⟨g_b5, 3, none⟩ (.slice A_x0 xt.length c_x0))) ?hgs5 ?hos5 ?hns5 ?hrs5 ?_; (case hos5 => rfl); (case hgs5 => rfl); (case hns5 => rfl); (case hrs5 => first | (go_simp; done) | (go_simp; rfl)); intro w6 hw; have hb : Below w5.heap.size w5 w6 := (by rw [hw]; exact (below_set (below_set (below_set (below_set HBB_b5.out (by have := HG_b5.out; omega)) (by have := HG_b5.out; omega)) (by have := HG_b5.out; omega)) (by have := HG_b5.out; omega))); have CH5 := Aside0.mk hb.size; have n0_ := Aside0.mk (below_step HB.out hb); have n1_ := Aside0.mk (blk_below BK_b1.out hb); have n2_ := Aside0.mk (Kd.R_below RW_w0.out hb); have n3_ := Aside0.mk (Kd.S_below RW_x0.out hb); clear HB BK_b1 RW_w0 RW_x0; have HB := n0_; have BK_b1 := n1_; have RW_w0 := n2_; have RW_x0 := n3_; clear n0_ n1_ n2_ n3_; have BK_b5 : Aside0 (w6.heap[g_b5]? = some (.cells #[.int .i64 t.f0, .string t.f1, .int .i64 t.f2, .slice A_x0 xt.length c_x0] 29 (0, 0))) := ⟨by rw [hw]; refine blk_put (cs := #[.int .i64 t.f0, .string t.f1, .int .i64 t.f2, .slice none 0 0]) ?_ 3 _ rfl; refine blk_put (cs := #[.int .i64 t.f0, .string t.f1, .int .i64 0, .slice none 0 0]) ?_ 2 _ rfl; refine blk_put (cs := #[.int .i64 t.f0, .string (⟨#[]⟩ : ByteArray), .int .i64 0, .slice none 0 0]) ?_ 1 _ rfl; refine blk_put (cs := #[.int .i64 0, .string (⟨#[]⟩ : ByteArray), .int .i64 0, .slice none 0 0]) ?_ 0 _ rfl; exact BB_b5.out⟩; have HL_b5 := Aside0.mk (show g_b5 < w6.heap.size from blk_lt BK_b5.out); clear hb hw hz_b5_0 hf_b5_0 hz_b5_1 hf_b5_1 hz_b5_2 hf_b5_2 hz_b5_3 hf_b5_3; clear hc_b1_0 hc_b1_1 hc_b1_2 hc_b1_3; have hc_b1_0 : w6.cell? ⟨g_b1, 0, none⟩ = some (.int .i64 t.f0) := (blk_cell BK_b1.out 0).trans rfl; have hc_b1_1 : w6.cell? ⟨g_b1, 1, none⟩ = some (.string t.f1) := (blk_cell BK_b1.out 1).trans rfl; have hc_b1_2 : w6.cell? ⟨g_b1, 2, none⟩ = some (.int .i64 t.f2) := (blk_cell BK_b1.out 2).trans rfl; have hc_b1_3 : w6.cell? ⟨g_b1, 3, none⟩ = some (.slice A_T t.f3.length c_T) := (blk_cell BK_b1.out 3).trans rfl; have hc_b5_0 : w6.cell? ⟨g_b5, 0, none⟩ = some (.int .i64 t.f0) := (blk_cell BK_b5.out 0).trans rfl; have hc_b5_1 : w6.cell? ⟨g_b5, 1, none⟩ = some (.string t.f1) := (blk_cell BK_b5.out 1).trans rfl; have hc_b5_2 : w6.cell? ⟨g_b5, 2, none⟩ = some (.int .i64 t.f2) := (blk_cell BK_b5.out 2).trans rfl; have hc_b5_3 : w6.cell? ⟨g_b5, 3, none⟩ = some (.slice A_x0 xt.length c_x0) := (blk_cell BK_b5.out 3).trans rfl)
    | ((with_reducible refine gate_callee (f := 34) rfl ?_); refine goesL_ (some 22) rfl rfl Try.func34 (by kernel_rfl) rfl #[.agg #[.int .i64 t.f0, .string t.f1, .int .i64 t.f2, .slice A_x0 xt.length c_x0]] rfl (by (try simp only [List.map_toArray, List.map_cons, List.map_nil]); first | done | rfl) ?_; refine (c34 _ _ _ (readS RW_x0.out).1 (readS RW_x0.out).2).mono ?_; rintro e w7 ⟨v_g0, rfl, ho_g0, hb⟩; refine ⟨_, rfl, ?_⟩; have CH6 := Aside0.mk hb.size; have HW_g0 := Aside0.mk HB.out.size; have n0_ := Aside0.mk (below_step HB.out hb); have n1_ := Aside0.mk (blk_below BK_b1.out hb); have n2_ := Aside0.mk (blk_below BK_b5.out hb); have n3_ := Aside0.mk (Kd.R_below RW_w0.out hb); have n4_ := Aside0.mk (Kd.S_below RW_x0.out hb); clear HB BK_b1 BK_b5 RW_w0 RW_x0; have HB := n0_; have BK_b1 := n1_; have BK_b5 := n2_; have RW_w0 := n3_; have RW_x0 := n4_; clear n0_ n1_ n2_ n3_ n4_; obtain ⟨A_g0, c_g0, rfl⟩ := Kd.R_slice ho_g0; have RW_g0 := Aside0.mk (Kd.R_mono (ok' := fun k_ => w6.heap.size ≤ k_ ∧ k_ < w7.heap.size) (Kd.R_bound ho_g0) (fun k_ hk_ => ⟨hk_.2.1, hk_.2.2.1⟩)); clear hb ho_g0; clear hc_b1_0 hc_b1_1 hc_b1_2 hc_b1_3 hc_b5_0 hc_b5_1 hc_b5_2 hc_b5_3; have hc_b1_0 : w7.cell? ⟨g_b1, 0, none⟩ = some (.int .i64 t.f0) := (blk_cell BK_b1.out 0).trans rfl; have hc_b1_1 : w7.cell? ⟨g_b1, 1, none⟩ = some (.string t.f1) := (blk_cell BK_b1.out 1).trans rfl; have hc_b1_2 : w7.cell? ⟨g_b1, 2, none⟩ = some (.int .i64 t.f2) := (blk_cell BK_b1.out 2).trans rfl; have hc_b1_3 : w7.cell? ⟨g_b1, 3, none⟩ = some (.slice A_T t.f3.length c_T) := (blk_cell BK_b1.out 3).trans rfl; have hc_b5_0 : w7.cell? ⟨g_b5, 0, none⟩ = some (.int .i64 t.f0) := (blk_cell BK_b5.out 0).trans rfl; have hc_b5_1 : w7.cell? ⟨g_b5, 1, none⟩ = some (.string t.f1) := (blk_cell BK_b5.out 1).trans rfl; have hc_b5_2 : w7.cell? ⟨g_b5, 2, none⟩ = some (.int .i64 t.f2) := (blk_cell BK_b5.out 2).trans rfl; have hc_b5_3 : w7.cell? ⟨g_b5, 3, none⟩ = some (.slice A_x0 xt.length c_x0) := (blk_cell BK_b5.out 3).trans rfl)
    | ((with_reducible refine gate_callee (f := 35) rfl ?_); refine goesL_ (some 25) rfl rfl Try.func35 (by kernel_rfl) rfl #[.slice A_g0 xs.length c_g0, .slice A_w0 xs.length c_w0] rfl (by (try simp only [List.map_toArray, List.map_cons, List.map_nil]); first | done | rfl) ?_; refine (c35 _ _ _ _ _ (readI RW_g0.out).1 (readI RW_g0.out).2 (readI RW_w0.out).1 (readI RW_w0.out).2).mono ?_; rintro e w8 ⟨rfl, hb⟩; refine ⟨_, rfl, ?_⟩; have CH7 := Aside0.mk hb.size; have n0_ := Aside0.mk (below_step HB.out hb); have n1_ := Aside0.mk (blk_below BK_b1.out hb); have n2_ := Aside0.mk (blk_below BK_b5.out hb); have n3_ := Aside0.mk (Kd.R_below RW_w0.out hb); have n4_ := Aside0.mk (Kd.S_below RW_x0.out hb); have n5_ := Aside0.mk (Kd.R_below RW_g0.out hb); clear HB BK_b1 BK_b5 RW_w0 RW_x0 RW_g0; have HB := n0_; have BK_b1 := n1_; have BK_b5 := n2_; have RW_w0 := n3_; have RW_x0 := n4_; have RW_g0 := n5_; clear n0_ n1_ n2_ n3_ n4_ n5_; clear hb; clear hc_b1_0 hc_b1_1 hc_b1_2 hc_b1_3 hc_b5_0 hc_b5_1 hc_b5_2 hc_b5_3; have hc_b1_0 : w8.cell? ⟨g_b1, 0, none⟩ = some (.int .i64 t.f0) := (blk_cell BK_b1.out 0).trans rfl; have hc_b1_1 : w8.cell? ⟨g_b1, 1, none⟩ = some (.string t.f1) := (blk_cell BK_b1.out 1).trans rfl; have hc_b1_2 : w8.cell? ⟨g_b1, 2, none⟩ = some (.int .i64 t.f2) := (blk_cell BK_b1.out 2).trans rfl; have hc_b1_3 : w8.cell? ⟨g_b1, 3, none⟩ = some (.slice A_T t.f3.length c_T) := (blk_cell BK_b1.out 3).trans rfl; have hc_b5_0 : w8.cell? ⟨g_b5, 0, none⟩ = some (.int .i64 t.f0) := (blk_cell BK_b5.out 0).trans rfl; have hc_b5_1 : w8.cell? ⟨g_b5, 1, none⟩ = some (.string t.f1) := (blk_cell BK_b5.out 1).trans rfl; have hc_b5_2 : w8.cell? ⟨g_b5, 2, none⟩ = some (.int .i64 t.f2) := (blk_cell BK_b5.out 2).trans rfl; have hc_b5_3 : w8.cell? ⟨g_b5, 3, none⟩ = some (.slice A_x0 xt.length c_x0) := (blk_cell BK_b5.out 3).trans rfl))
  have hb := below_drew (Below.refl w8.heap.size w8)
  have CH8 := Aside0.mk (show w8.heap.size ≤ w8.drew.heap.size from hb.size)
  have n0_ := Aside0.mk (below_step HB.out hb)
  have n1_ := Aside0.mk (blk_below BK_b1.out hb)
  have n2_ := Aside0.mk (blk_below BK_b5.out hb)
  have n3_ := Aside0.mk (Kd.R_below RW_w0.out hb)
  have n4_ := Aside0.mk (Kd.S_below RW_x0.out hb)
  have n5_ := Aside0.mk (Kd.R_below RW_g0.out hb)
  clear HB BK_b1 BK_b5 RW_w0 RW_x0 RW_g0
  have HB := n0_
  have BK_b1 := n1_
  have BK_b5 := n2_
  have RW_w0 := n3_
  have RW_x0 := n4_
  have RW_g0 := n5_
  clear n0_ n1_ n2_ n3_ n4_ n5_
  clear hb
  clear hc_b1_0 hc_b1_1 hc_b1_2 hc_b1_3 hc_b5_0 hc_b5_1 hc_b5_2 hc_b5_3
  refine start_ (n := 5) (S := fun w' => w'.cell? ⟨g_b5, 0, none⟩ = some (.int .i64 t.f0) ∧ w'.cell? ⟨g_b5, 1, none⟩ = some (.string t.f1) ∧ w'.cell? ⟨g_b5, 2, none⟩ = some (.int .i64 t.f2) ∧ w'.cell? ⟨g_b5, 3, none⟩ = some (.slice A_x0 xt.length c_x0) ∧ w'.cell? ⟨g_b1, 0, none⟩ = some (.int .i64 t.f0) ∧ w'.cell? ⟨g_b1, 1, none⟩ = some (.string t.f1) ∧ w'.cell? ⟨g_b1, 2, none⟩ = some (.int .i64 t.f2) ∧ w'.cell? ⟨g_b1, 3, none⟩ = some (.slice A_T t.f3.length c_T)) (ds := []) #[false, false, false, false, false] (by kernel_rfl) rfl rfl ⟨(blk_cell BK_b5.out 0).trans rfl, (blk_cell BK_b5.out 1).trans rfl, (blk_cell BK_b5.out 2).trans rfl, (blk_cell BK_b5.out 3).trans rfl, (blk_cell BK_b1.out 0).trans rfl, (blk_cell BK_b1.out 1).trans rfl, (blk_cell BK_b1.out 2).trans rfl, (blk_cell BK_b1.out 3).trans rfl⟩ (fun hHeld => ?_); refine with_tabW lw8_10_tab lw8_10_bits (fun HT_ HW_ => ?_)
  generalize w8.drew = w9 at HB BK_b1 BK_b5 RW_w0 RW_x0 RW_g0 CH8 hHeld ⊢
  refine take_ (i := 0) (N := some 27) (v := ?_) (a' := ?_) #[true, false, false, false, false] rfl rfl (take_ofW HT_.out HW_.out (by kernel_rfl)) (fun _ _ _ h => h) (Or.inl ⟨by rfl, ?_⟩) hHeld ?_ ?_
  rotate_left
  · rintro w' ⟨s0, s1, s2, s3, s4, s5, s6, s7⟩
    go_simp
    with_reducible rfl
  rotate_left
  · simp only [Act.put, List.setIfInBounds_toArray, List.set_cons_zero, List.set_cons_succ, i64_w, i32_w]
    rfl
  refine take_ (i := 1) (N := some 28) (v := ?_) (a' := ?_) #[true, true, false, false, false] rfl rfl (take_ofW HT_.out HW_.out (by kernel_rfl)) (fun _ _ _ h => h) (Or.inl ⟨by rfl, ?_⟩) hHeld ?_ ?_
  rotate_left
  · rintro w' ⟨s0, s1, s2, s3, s4, s5, s6, s7⟩
    go_simp
    with_reducible rfl
  rotate_left
  · simp only [Act.put, List.setIfInBounds_toArray, List.set_cons_zero, List.set_cons_succ, i64_w, i32_w]
    rfl
  refine one_ (i := 2) (N := some 29) #[true, true, true, false, false] rfl rfl (one_of HT_.out (by kernel_rfl)) (by decide) (fun K hK => ?_)
  refine goes_ Try.func17 (by kernel_rfl) rfl #[.agg #[.int .i64 t.f0, .string t.f1, .int .i64 t.f2, .slice A_T t.f3.length c_T]] (by rfl) rfl rfl (by (try simp only [List.map_toArray, List.map_cons, List.map_nil]); first | done | rfl) ?_
  refine (c17 _ _ _ HL_T.out (Kd.C_below HC_T.out HB.out)).mono ?_
  rintro e w10 ⟨v_f1, rfl, ho_f1, hb⟩
  refine ⟨_, rfl, ?_⟩
  have CH9 := Aside0.mk hb.size
  have HW_f1 := Aside0.mk HB.out.size
  have n0_ := Aside0.mk (below_step HB.out hb)
  have n1_ := Aside0.mk (blk_below BK_b1.out hb)
  have n2_ := Aside0.mk (blk_below BK_b5.out hb)
  have n3_ := Aside0.mk (Kd.R_below RW_w0.out hb)
  have n4_ := Aside0.mk (Kd.S_below RW_x0.out hb)
  have n5_ := Aside0.mk (Kd.R_below RW_g0.out hb)
  clear HB BK_b1 BK_b5 RW_w0 RW_x0 RW_g0
  have HB := n0_
  have BK_b1 := n1_
  have BK_b5 := n2_
  have RW_w0 := n3_
  have RW_x0 := n4_
  have RW_g0 := n5_
  clear n0_ n1_ n2_ n3_ n4_ n5_
  obtain ⟨A_f1, c_f1, rfl⟩ := Kd.S_slice ho_f1
  have RW_f1 := Aside0.mk (Kd.S_mono (ok' := fun k_ => w9.heap.size ≤ k_ ∧ k_ < w10.heap.size) (Kd.S_bound ho_f1) (fun k_ hk_ => ⟨hk_.2.1, hk_.2.2.1⟩))
  clear hb ho_f1
  refine hK.out _ _ ⟨(blk_cell BK_b5.out 0).trans rfl, (blk_cell BK_b5.out 1).trans rfl, (blk_cell BK_b5.out 2).trans rfl, (blk_cell BK_b5.out 3).trans rfl, (blk_cell BK_b1.out 0).trans rfl, (blk_cell BK_b1.out 1).trans rfl, (blk_cell BK_b1.out 2).trans rfl, (blk_cell BK_b1.out 3).trans rfl⟩ (fun hHeld => ?_)
  clear hK K
  refine norm_ (a' := ?_) ?_ ?_
  rotate_left
  · show Act.put _ (some 29) _ = _
    simp only [Act.put, List.setIfInBounds_toArray, List.set_cons_zero, List.set_cons_succ, i64_w, i32_w]
    rfl
  refine one_ (i := 3) (N := some 30) #[true, true, true, true, false] rfl rfl (one_of HT_.out (by kernel_rfl)) (by decide) (fun K hK => ?_)
  refine goes_ Try.func19 (by kernel_rfl) rfl #[.agg #[.int .i64 t.f0, .string t.f1, .int .i64 t.f2, .slice A_x0 xt.length c_x0], .agg #[.int .i64 t.f0, .string t.f1, .int .i64 t.f2, .slice A_f1 xt.length c_f1]] (by rfl) rfl rfl (by (try simp only [List.map_toArray, List.map_cons, List.map_nil]); first | done | rfl) ?_
  refine (d19 _ _ _ _ _ (readS RW_x0.out).1 (readS RW_x0.out).2 (readS RW_f1.out).1 (readS RW_f1.out).2).mono ?_
  rintro e w11 ⟨rfl, hb⟩
  refine ⟨_, rfl, ?_⟩
  have CH10 := Aside0.mk hb.size
  have n0_ := Aside0.mk (below_step HB.out hb)
  have n1_ := Aside0.mk (blk_below BK_b1.out hb)
  have n2_ := Aside0.mk (blk_below BK_b5.out hb)
  have n3_ := Aside0.mk (Kd.R_below RW_w0.out hb)
  have n4_ := Aside0.mk (Kd.S_below RW_x0.out hb)
  have n5_ := Aside0.mk (Kd.R_below RW_g0.out hb)
  have n6_ := Aside0.mk (Kd.S_below RW_f1.out hb)
  clear HB BK_b1 BK_b5 RW_w0 RW_x0 RW_g0 RW_f1
  have HB := n0_
  have BK_b1 := n1_
  have BK_b5 := n2_
  have RW_w0 := n3_
  have RW_x0 := n4_
  have RW_g0 := n5_
  have RW_f1 := n6_
  clear n0_ n1_ n2_ n3_ n4_ n5_ n6_
  clear hb
  clear RW_f1
  refine hK.out _ _ ⟨(blk_cell BK_b5.out 0).trans rfl, (blk_cell BK_b5.out 1).trans rfl, (blk_cell BK_b5.out 2).trans rfl, (blk_cell BK_b5.out 3).trans rfl, (blk_cell BK_b1.out 0).trans rfl, (blk_cell BK_b1.out 1).trans rfl, (blk_cell BK_b1.out 2).trans rfl, (blk_cell BK_b1.out 3).trans rfl⟩ (fun hHeld => ?_)
  clear hK K
  refine norm_ (a' := ?_) ?_ ?_
  rotate_left
  · show Act.put _ (some 30) _ = _
    simp only [Act.put, List.setIfInBounds_toArray, List.set_cons_zero, List.set_cons_succ, i64_w, i32_w]
    rfl
  refine pure_ (i := 4) (N := some 31) (v := ?_) (a' := ?_) #[true, true, true, true, true] rfl rfl (any_of HT_.out (by kernel_rfl)) (fun _ _ _ h => h) (Or.inl ⟨by rfl, ?_⟩) ?_ ?_
  rotate_left
  · intro w'
    go_simp
    with_reducible rfl
  rotate_left
  · simp only [Act.put, List.setIfInBounds_toArray, List.set_cons_zero, List.set_cons_succ, i64_w, i32_w]
    rfl
  refine done_ (done_of HT_.out (by kernel_rfl)) ?_
  have hc_b1_0 : w11.cell? ⟨g_b1, 0, none⟩ = some (.int .i64 t.f0) := (blk_cell BK_b1.out 0).trans rfl
  have hc_b1_1 : w11.cell? ⟨g_b1, 1, none⟩ = some (.string t.f1) := (blk_cell BK_b1.out 1).trans rfl
  have hc_b1_2 : w11.cell? ⟨g_b1, 2, none⟩ = some (.int .i64 t.f2) := (blk_cell BK_b1.out 2).trans rfl
  have hc_b1_3 : w11.cell? ⟨g_b1, 3, none⟩ = some (.slice A_T t.f3.length c_T) := (blk_cell BK_b1.out 3).trans rfl
  have hc_b5_0 : w11.cell? ⟨g_b5, 0, none⟩ = some (.int .i64 t.f0) := (blk_cell BK_b5.out 0).trans rfl
  have hc_b5_1 : w11.cell? ⟨g_b5, 1, none⟩ = some (.string t.f1) := (blk_cell BK_b5.out 1).trans rfl
  have hc_b5_2 : w11.cell? ⟨g_b5, 2, none⟩ = some (.int .i64 t.f2) := (blk_cell BK_b5.out 2).trans rfl
  have hc_b5_3 : w11.cell? ⟨g_b5, 3, none⟩ = some (.slice A_x0 xt.length c_x0) := (blk_cell BK_b5.out 3).trans rfl
  go_wp2_with (first
    | ((with_reducible refine gate_callee (f := 29) rfl ?_); refine goesL_ (some 34) rfl rfl Try.func29 (by kernel_rfl) rfl #[.agg #[.int .i64 t.f0, .string t.f1, .int .i64 t.f2, .slice A_x0 xt.length c_x0], .int .i64 1] rfl (by (try simp only [List.map_toArray, List.map_cons, List.map_nil]); first | done | rfl) ?_; refine (d29 _ w4.heap.size _ _ _ (by have := CH0.out; have := CH1.out; have := CH2.out; have := CH3.out; have := CH4.out; have := CH5.out; have := CH6.out; have := CH7.out; have := CH8.out; have := CH9.out; have := CH10.out; omega) RW_x0.out).mono ?_; rintro e w12 ⟨rfl, ho, hb, hk⟩; refine ⟨_, rfl, ?_⟩; have CH11 := Aside0.mk hk.1; have n0_ := Aside0.mk (below_weaken HB.out HW_x0.out hb); have n1_ := Aside0.mk (blk_kept BK_b1.out hk (by have := HG_b1.out; have := HL_b1.out; have := CH0.out; have := CH1.out; have := CH2.out; have := CH3.out; have := CH4.out; have := CH5.out; have := CH6.out; have := CH7.out; have := CH8.out; have := CH9.out; have := CH10.out; omega)); have n2_ := Aside0.mk (blk_kept BK_b5.out hk (by have := HG_b5.out; have := HL_b5.out; have := CH0.out; have := CH1.out; have := CH2.out; have := CH3.out; have := CH4.out; have := CH5.out; have := CH6.out; have := CH7.out; have := CH8.out; have := CH9.out; have := CH10.out; omega)); have n3_ := Aside0.mk (Kd.R_kept RW_w0.out hk (fun k_ hk1_ hk2_ => by have := CH0.out; have := CH1.out; have := CH2.out; have := CH3.out; have := CH4.out; have := CH5.out; have := CH6.out; have := CH7.out; have := CH8.out; have := CH9.out; have := CH10.out; omega)); have n4_ := Aside0.mk (Kd.R_kept RW_g0.out hk (fun k_ hk1_ hk2_ => by have := CH0.out; have := CH1.out; have := CH2.out; have := CH3.out; have := CH4.out; have := CH5.out; have := CH6.out; have := CH7.out; have := CH8.out; have := CH9.out; have := CH10.out; omega)); clear HB BK_b1 BK_b5 RW_w0 RW_g0; have HB := n0_; have BK_b1 := n1_; have BK_b5 := n2_; have RW_w0 := n3_; have RW_g0 := n4_; clear n0_ n1_ n2_ n3_ n4_; clear RW_x0; have RW_x0 := Aside0.mk ho; clear ho; clear hb hk; clear hc_b1_0 hc_b1_1 hc_b1_2 hc_b1_3 hc_b5_0 hc_b5_1 hc_b5_2 hc_b5_3; have hc_b1_0 : w12.cell? ⟨g_b1, 0, none⟩ = some (.int .i64 t.f0) := (blk_cell BK_b1.out 0).trans rfl; have hc_b1_1 : w12.cell? ⟨g_b1, 1, none⟩ = some (.string t.f1) := (blk_cell BK_b1.out 1).trans rfl; have hc_b1_2 : w12.cell? ⟨g_b1, 2, none⟩ = some (.int .i64 t.f2) := (blk_cell BK_b1.out 2).trans rfl; have hc_b1_3 : w12.cell? ⟨g_b1, 3, none⟩ = some (.slice A_T t.f3.length c_T) := (blk_cell BK_b1.out 3).trans rfl; have hc_b5_0 : w12.cell? ⟨g_b5, 0, none⟩ = some (.int .i64 t.f0) := (blk_cell BK_b5.out 0).trans rfl; have hc_b5_1 : w12.cell? ⟨g_b5, 1, none⟩ = some (.string t.f1) := (blk_cell BK_b5.out 1).trans rfl; have hc_b5_2 : w12.cell? ⟨g_b5, 2, none⟩ = some (.int .i64 t.f2) := (blk_cell BK_b5.out 2).trans rfl; have hc_b5_3 : w12.cell? ⟨g_b5, 3, none⟩ = some (.slice A_x0 xt.length c_x0) := (blk_cell BK_b5.out 3).trans rfl)
    | (go_at_call 35; refine (c35 _ _ _ _ _ (readI RW_g0.out).1 (readI RW_g0.out).2 (readI RW_w0.out).1 (readI RW_w0.out).2).mono ?_; rintro e w13 ⟨rfl, hb⟩; have CH12 := Aside0.mk hb.size; have n0_ := Aside0.mk (below_step HB.out hb); have n1_ := Aside0.mk (blk_below BK_b1.out hb); have n2_ := Aside0.mk (blk_below BK_b5.out hb); have n3_ := Aside0.mk (Kd.R_below RW_w0.out hb); have n4_ := Aside0.mk (Kd.S_below RW_x0.out hb); have n5_ := Aside0.mk (Kd.R_below RW_g0.out hb); clear HB BK_b1 BK_b5 RW_w0 RW_x0 RW_g0; have HB := n0_; have BK_b1 := n1_; have BK_b5 := n2_; have RW_w0 := n3_; have RW_x0 := n4_; have RW_g0 := n5_; clear n0_ n1_ n2_ n3_ n4_ n5_; clear hb; clear hc_b1_0 hc_b1_1 hc_b1_2 hc_b1_3 hc_b5_0 hc_b5_1 hc_b5_2 hc_b5_3; have hc_b1_0 : w13.cell? ⟨g_b1, 0, none⟩ = some (.int .i64 t.f0) := (blk_cell BK_b1.out 0).trans rfl; have hc_b1_1 : w13.cell? ⟨g_b1, 1, none⟩ = some (.string t.f1) := (blk_cell BK_b1.out 1).trans rfl; have hc_b1_2 : w13.cell? ⟨g_b1, 2, none⟩ = some (.int .i64 t.f2) := (blk_cell BK_b1.out 2).trans rfl; have hc_b1_3 : w13.cell? ⟨g_b1, 3, none⟩ = some (.slice A_T t.f3.length c_T) := (blk_cell BK_b1.out 3).trans rfl; have hc_b5_0 : w13.cell? ⟨g_b5, 0, none⟩ = some (.int .i64 t.f0) := (blk_cell BK_b5.out 0).trans rfl; have hc_b5_1 : w13.cell? ⟨g_b5, 1, none⟩ = some (.string t.f1) := (blk_cell BK_b5.out 1).trans rfl; have hc_b5_2 : w13.cell? ⟨g_b5, 2, none⟩ = some (.int .i64 t.f2) := (blk_cell BK_b5.out 2).trans rfl; have hc_b5_3 : w13.cell? ⟨g_b5, 3, none⟩ = some (.slice A_x0 xt.length c_x0) := (blk_cell BK_b5.out 3).trans rfl)
    | ((with_reducible refine gate_callee (f := 36) rfl ?_); refine goesL_ (some 45) rfl rfl Try.func36 (by kernel_rfl) rfl #[.slice A_g0 xs.length c_g0, .int .i64 1] rfl (by (try simp only [List.map_toArray, List.map_cons, List.map_nil]); first | done | rfl) ?_; refine (c36 _ w6.heap.size _ _ _ (by have := CH0.out; have := CH1.out; have := CH2.out; have := CH3.out; have := CH4.out; have := CH5.out; have := CH6.out; have := CH7.out; have := CH8.out; have := CH9.out; have := CH10.out; have := CH11.out; have := CH12.out; omega) RW_g0.out).mono ?_; rintro e w14 ⟨rfl, ho, hb, hk⟩; refine ⟨_, rfl, ?_⟩; have CH13 := Aside0.mk hk.1; have n0_ := Aside0.mk (below_weaken HB.out HW_g0.out hb); have n1_ := Aside0.mk (blk_kept BK_b1.out hk (by have := HG_b1.out; have := HL_b1.out; have := CH0.out; have := CH1.out; have := CH2.out; have := CH3.out; have := CH4.out; have := CH5.out; have := CH6.out; have := CH7.out; have := CH8.out; have := CH9.out; have := CH10.out; have := CH11.out; have := CH12.out; omega)); have n2_ := Aside0.mk (blk_kept BK_b5.out hk (by have := HG_b5.out; have := HL_b5.out; have := CH0.out; have := CH1.out; have := CH2.out; have := CH3.out; have := CH4.out; have := CH5.out; have := CH6.out; have := CH7.out; have := CH8.out; have := CH9.out; have := CH10.out; have := CH11.out; have := CH12.out; omega)); have n3_ := Aside0.mk (Kd.R_kept RW_w0.out hk (fun k_ hk1_ hk2_ => by have := CH0.out; have := CH1.out; have := CH2.out; have := CH3.out; have := CH4.out; have := CH5.out; have := CH6.out; have := CH7.out; have := CH8.out; have := CH9.out; have := CH10.out; have := CH11.out; have := CH12.out; omega)); have n4_ := Aside0.mk (Kd.S_kept RW_x0.out hk (fun k_ hk1_ hk2_ => by have := CH0.out; have := CH1.out; have := CH2.out; have := CH3.out; have := CH4.out; have := CH5.out; have := CH6.out; have := CH7.out; have := CH8.out; have := CH9.out; have := CH10.out; have := CH11.out; have := CH12.out; omega)); clear HB BK_b1 BK_b5 RW_w0 RW_x0; have HB := n0_; have BK_b1 := n1_; have BK_b5 := n2_; have RW_w0 := n3_; have RW_x0 := n4_; clear n0_ n1_ n2_ n3_ n4_; clear RW_g0; have RW_g0 := Aside0.mk ho; clear ho; clear hb hk; clear hc_b1_0 hc_b1_1 hc_b1_2 hc_b1_3 hc_b5_0 hc_b5_1 hc_b5_2 hc_b5_3; have hc_b1_0 : w14.cell? ⟨g_b1, 0, none⟩ = some (.int .i64 t.f0) := (blk_cell BK_b1.out 0).trans rfl; have hc_b1_1 : w14.cell? ⟨g_b1, 1, none⟩ = some (.string t.f1) := (blk_cell BK_b1.out 1).trans rfl; have hc_b1_2 : w14.cell? ⟨g_b1, 2, none⟩ = some (.int .i64 t.f2) := (blk_cell BK_b1.out 2).trans rfl; have hc_b1_3 : w14.cell? ⟨g_b1, 3, none⟩ = some (.slice A_T t.f3.length c_T) := (blk_cell BK_b1.out 3).trans rfl; have hc_b5_0 : w14.cell? ⟨g_b5, 0, none⟩ = some (.int .i64 t.f0) := (blk_cell BK_b5.out 0).trans rfl; have hc_b5_1 : w14.cell? ⟨g_b5, 1, none⟩ = some (.string t.f1) := (blk_cell BK_b5.out 1).trans rfl; have hc_b5_2 : w14.cell? ⟨g_b5, 2, none⟩ = some (.int .i64 t.f2) := (blk_cell BK_b5.out 2).trans rfl; have hc_b5_3 : w14.cell? ⟨g_b5, 3, none⟩ = some (.slice A_x0 xt.length c_x0) := (blk_cell BK_b5.out 3).trans rfl)
    | ((with_reducible refine gate_callee (f := 37) rfl ?_); refine goesL_ (some 48) rfl rfl Try.func37 (by kernel_rfl) rfl #[.slice A_g0 xs.length c_g0, .int .i64 1] rfl (by (try simp only [List.map_toArray, List.map_cons, List.map_nil]); first | done | rfl) ?_; refine (c37 _ _ _ (readI RW_g0.out).1 (readI RW_g0.out).2).mono ?_; rintro e w15 ⟨rfl, hb⟩; refine ⟨_, rfl, ?_⟩; have CH14 := Aside0.mk hb.size; have n0_ := Aside0.mk (below_step HB.out hb); have n1_ := Aside0.mk (blk_below BK_b1.out hb); have n2_ := Aside0.mk (blk_below BK_b5.out hb); have n3_ := Aside0.mk (Kd.R_below RW_w0.out hb); have n4_ := Aside0.mk (Kd.S_below RW_x0.out hb); have n5_ := Aside0.mk (Kd.R_below RW_g0.out hb); clear HB BK_b1 BK_b5 RW_w0 RW_x0 RW_g0; have HB := n0_; have BK_b1 := n1_; have BK_b5 := n2_; have RW_w0 := n3_; have RW_x0 := n4_; have RW_g0 := n5_; clear n0_ n1_ n2_ n3_ n4_ n5_; clear hb; clear hc_b1_0 hc_b1_1 hc_b1_2 hc_b1_3 hc_b5_0 hc_b5_1 hc_b5_2 hc_b5_3; have hc_b1_0 : w15.cell? ⟨g_b1, 0, none⟩ = some (.int .i64 t.f0) := (blk_cell BK_b1.out 0).trans rfl; have hc_b1_1 : w15.cell? ⟨g_b1, 1, none⟩ = some (.string t.f1) := (blk_cell BK_b1.out 1).trans rfl; have hc_b1_2 : w15.cell? ⟨g_b1, 2, none⟩ = some (.int .i64 t.f2) := (blk_cell BK_b1.out 2).trans rfl; have hc_b1_3 : w15.cell? ⟨g_b1, 3, none⟩ = some (.slice A_T t.f3.length c_T) := (blk_cell BK_b1.out 3).trans rfl; have hc_b5_0 : w15.cell? ⟨g_b5, 0, none⟩ = some (.int .i64 t.f0) := (blk_cell BK_b5.out 0).trans rfl; have hc_b5_1 : w15.cell? ⟨g_b5, 1, none⟩ = some (.string t.f1) := (blk_cell BK_b5.out 1).trans rfl; have hc_b5_2 : w15.cell? ⟨g_b5, 2, none⟩ = some (.int .i64 t.f2) := (blk_cell BK_b5.out 2).trans rfl; have hc_b5_3 : w15.cell? ⟨g_b5, 3, none⟩ = some (.slice A_x0 xt.length c_x0) := (blk_cell BK_b5.out 3).trans rfl)
    | ((with_reducible refine gate_callee (f := 17) rfl ?_); refine goesL_ (some 55) rfl rfl Try.func17 (by kernel_rfl) rfl #[.agg #[.int .i64 t.f0, .string t.f1, .int .i64 t.f2, .slice A_T t.f3.length c_T]] rfl (by (try simp only [List.map_toArray, List.map_cons, List.map_nil]); first | done | rfl) ?_; refine (c17 _ _ _ HL_T.out (Kd.C_below HC_T.out HB.out)).mono ?_; rintro e w16 ⟨v_f2, rfl, ho_f2, hb⟩; refine ⟨_, rfl, ?_⟩; have CH15 := Aside0.mk hb.size; have HW_f2 := Aside0.mk HB.out.size; have n0_ := Aside0.mk (below_step HB.out hb); have n1_ := Aside0.mk (blk_below BK_b1.out hb); have n2_ := Aside0.mk (blk_below BK_b5.out hb); have n3_ := Aside0.mk (Kd.R_below RW_w0.out hb); have n4_ := Aside0.mk (Kd.S_below RW_x0.out hb); have n5_ := Aside0.mk (Kd.R_below RW_g0.out hb); clear HB BK_b1 BK_b5 RW_w0 RW_x0 RW_g0; have HB := n0_; have BK_b1 := n1_; have BK_b5 := n2_; have RW_w0 := n3_; have RW_x0 := n4_; have RW_g0 := n5_; clear n0_ n1_ n2_ n3_ n4_ n5_; obtain ⟨A_f2, c_f2, rfl⟩ := Kd.S_slice ho_f2; have RW_f2 := Aside0.mk (Kd.S_mono (ok' := fun k_ => w15.heap.size ≤ k_ ∧ k_ < w16.heap.size) (Kd.S_bound ho_f2) (fun k_ hk_ => ⟨hk_.2.1, hk_.2.2.1⟩)); clear hb ho_f2; clear hc_b1_0 hc_b1_1 hc_b1_2 hc_b1_3 hc_b5_0 hc_b5_1 hc_b5_2 hc_b5_3; have hc_b1_0 : w16.cell? ⟨g_b1, 0, none⟩ = some (.int .i64 t.f0) := (blk_cell BK_b1.out 0).trans rfl; have hc_b1_1 : w16.cell? ⟨g_b1, 1, none⟩ = some (.string t.f1) := (blk_cell BK_b1.out 1).trans rfl; have hc_b1_2 : w16.cell? ⟨g_b1, 2, none⟩ = some (.int .i64 t.f2) := (blk_cell BK_b1.out 2).trans rfl; have hc_b1_3 : w16.cell? ⟨g_b1, 3, none⟩ = some (.slice A_T t.f3.length c_T) := (blk_cell BK_b1.out 3).trans rfl; have hc_b5_0 : w16.cell? ⟨g_b5, 0, none⟩ = some (.int .i64 t.f0) := (blk_cell BK_b5.out 0).trans rfl; have hc_b5_1 : w16.cell? ⟨g_b5, 1, none⟩ = some (.string t.f1) := (blk_cell BK_b5.out 1).trans rfl; have hc_b5_2 : w16.cell? ⟨g_b5, 2, none⟩ = some (.int .i64 t.f2) := (blk_cell BK_b5.out 2).trans rfl; have hc_b5_3 : w16.cell? ⟨g_b5, 3, none⟩ = some (.slice A_x0 xt.length c_x0) := (blk_cell BK_b5.out 3).trans rfl)
    | ((with_reducible refine gate_callee (f := 34) rfl ?_); refine goesL_ (some 56) rfl rfl Try.func34 (by kernel_rfl) rfl #[.agg #[.int .i64 t.f0, .string t.f1, .int .i64 t.f2, .slice A_f2 xt.length c_f2]] rfl (by (try simp only [List.map_toArray, List.map_cons, List.map_nil]); first | done | rfl) ?_; refine (c34 _ _ _ (readS RW_f2.out).1 (readS RW_f2.out).2).mono ?_; rintro e w17 ⟨v_k0, rfl, ho_k0, hb⟩; refine ⟨_, rfl, ?_⟩; have CH16 := Aside0.mk hb.size; have HW_k0 := Aside0.mk HB.out.size; have n0_ := Aside0.mk (below_step HB.out hb); have n1_ := Aside0.mk (blk_below BK_b1.out hb); have n2_ := Aside0.mk (blk_below BK_b5.out hb); have n3_ := Aside0.mk (Kd.R_below RW_w0.out hb); have n4_ := Aside0.mk (Kd.S_below RW_x0.out hb); have n5_ := Aside0.mk (Kd.R_below RW_g0.out hb); have n6_ := Aside0.mk (Kd.S_below RW_f2.out hb); clear HB BK_b1 BK_b5 RW_w0 RW_x0 RW_g0 RW_f2; have HB := n0_; have BK_b1 := n1_; have BK_b5 := n2_; have RW_w0 := n3_; have RW_x0 := n4_; have RW_g0 := n5_; have RW_f2 := n6_; clear n0_ n1_ n2_ n3_ n4_ n5_ n6_; obtain ⟨A_k0, c_k0, rfl⟩ := Kd.R_slice ho_k0; have RW_k0 := Aside0.mk (Kd.R_mono (ok' := fun k_ => w16.heap.size ≤ k_ ∧ k_ < w17.heap.size) (Kd.R_bound ho_k0) (fun k_ hk_ => ⟨hk_.2.1, hk_.2.2.1⟩)); clear hb ho_k0; clear RW_f2; clear hc_b1_0 hc_b1_1 hc_b1_2 hc_b1_3 hc_b5_0 hc_b5_1 hc_b5_2 hc_b5_3; have hc_b1_0 : w17.cell? ⟨g_b1, 0, none⟩ = some (.int .i64 t.f0) := (blk_cell BK_b1.out 0).trans rfl; have hc_b1_1 : w17.cell? ⟨g_b1, 1, none⟩ = some (.string t.f1) := (blk_cell BK_b1.out 1).trans rfl; have hc_b1_2 : w17.cell? ⟨g_b1, 2, none⟩ = some (.int .i64 t.f2) := (blk_cell BK_b1.out 2).trans rfl; have hc_b1_3 : w17.cell? ⟨g_b1, 3, none⟩ = some (.slice A_T t.f3.length c_T) := (blk_cell BK_b1.out 3).trans rfl; have hc_b5_0 : w17.cell? ⟨g_b5, 0, none⟩ = some (.int .i64 t.f0) := (blk_cell BK_b5.out 0).trans rfl; have hc_b5_1 : w17.cell? ⟨g_b5, 1, none⟩ = some (.string t.f1) := (blk_cell BK_b5.out 1).trans rfl; have hc_b5_2 : w17.cell? ⟨g_b5, 2, none⟩ = some (.int .i64 t.f2) := (blk_cell BK_b5.out 2).trans rfl; have hc_b5_3 : w17.cell? ⟨g_b5, 3, none⟩ = some (.slice A_x0 xt.length c_x0) := (blk_cell BK_b5.out 3).trans rfl)
    | ((with_reducible refine gate_callee (f := 35) rfl ?_); refine goesL_ (some 59) rfl rfl Try.func35 (by kernel_rfl) rfl #[.slice A_k0 xs.length c_k0, .slice A_w0 xs.length c_w0] rfl (by (try simp only [List.map_toArray, List.map_cons, List.map_nil]); first | done | rfl) ?_; refine (c35 _ _ _ _ _ (readI RW_k0.out).1 (readI RW_k0.out).2 (readI RW_w0.out).1 (readI RW_w0.out).2).mono ?_; rintro e w18 ⟨rfl, hb⟩; refine ⟨_, rfl, ?_⟩; have CH17 := Aside0.mk hb.size; have n0_ := Aside0.mk (below_step HB.out hb); have n1_ := Aside0.mk (blk_below BK_b1.out hb); have n2_ := Aside0.mk (blk_below BK_b5.out hb); have n3_ := Aside0.mk (Kd.R_below RW_w0.out hb); have n4_ := Aside0.mk (Kd.S_below RW_x0.out hb); have n5_ := Aside0.mk (Kd.R_below RW_g0.out hb); have n6_ := Aside0.mk (Kd.R_below RW_k0.out hb); clear HB BK_b1 BK_b5 RW_w0 RW_x0 RW_g0 RW_k0; have HB := n0_; have BK_b1 := n1_; have BK_b5 := n2_; have RW_w0 := n3_; have RW_x0 := n4_; have RW_g0 := n5_; have RW_k0 := n6_; clear n0_ n1_ n2_ n3_ n4_ n5_ n6_; clear hb; clear hc_b1_0 hc_b1_1 hc_b1_2 hc_b1_3 hc_b5_0 hc_b5_1 hc_b5_2 hc_b5_3; have hc_b1_0 : w18.cell? ⟨g_b1, 0, none⟩ = some (.int .i64 t.f0) := (blk_cell BK_b1.out 0).trans rfl; have hc_b1_1 : w18.cell? ⟨g_b1, 1, none⟩ = some (.string t.f1) := (blk_cell BK_b1.out 1).trans rfl; have hc_b1_2 : w18.cell? ⟨g_b1, 2, none⟩ = some (.int .i64 t.f2) := (blk_cell BK_b1.out 2).trans rfl; have hc_b1_3 : w18.cell? ⟨g_b1, 3, none⟩ = some (.slice A_T t.f3.length c_T) := (blk_cell BK_b1.out 3).trans rfl; have hc_b5_0 : w18.cell? ⟨g_b5, 0, none⟩ = some (.int .i64 t.f0) := (blk_cell BK_b5.out 0).trans rfl; have hc_b5_1 : w18.cell? ⟨g_b5, 1, none⟩ = some (.string t.f1) := (blk_cell BK_b5.out 1).trans rfl; have hc_b5_2 : w18.cell? ⟨g_b5, 2, none⟩ = some (.int .i64 t.f2) := (blk_cell BK_b5.out 2).trans rfl; have hc_b5_3 : w18.cell? ⟨g_b5, 3, none⟩ = some (.slice A_x0 xt.length c_x0) := (blk_cell BK_b5.out 3).trans rfl)
    | ((with_reducible refine gate_callee (f := 37) rfl ?_); refine goesL_ (some 63) rfl rfl Try.func37 (by kernel_rfl) rfl #[.slice A_g0 xs.length c_g0, .int .i64 1] rfl (by (try simp only [List.map_toArray, List.map_cons, List.map_nil]); first | done | rfl) ?_; refine (c37 _ _ _ (readI RW_g0.out).1 (readI RW_g0.out).2).mono ?_; rintro e w19 ⟨rfl, hb⟩; refine ⟨_, rfl, ?_⟩; have CH18 := Aside0.mk hb.size; have n0_ := Aside0.mk (below_step HB.out hb); have n1_ := Aside0.mk (blk_below BK_b1.out hb); have n2_ := Aside0.mk (blk_below BK_b5.out hb); have n3_ := Aside0.mk (Kd.R_below RW_w0.out hb); have n4_ := Aside0.mk (Kd.S_below RW_x0.out hb); have n5_ := Aside0.mk (Kd.R_below RW_g0.out hb); have n6_ := Aside0.mk (Kd.R_below RW_k0.out hb); clear HB BK_b1 BK_b5 RW_w0 RW_x0 RW_g0 RW_k0; have HB := n0_; have BK_b1 := n1_; have BK_b5 := n2_; have RW_w0 := n3_; have RW_x0 := n4_; have RW_g0 := n5_; have RW_k0 := n6_; clear n0_ n1_ n2_ n3_ n4_ n5_ n6_; clear hb; clear hc_b1_0 hc_b1_1 hc_b1_2 hc_b1_3 hc_b5_0 hc_b5_1 hc_b5_2 hc_b5_3; have hc_b1_0 : w19.cell? ⟨g_b1, 0, none⟩ = some (.int .i64 t.f0) := (blk_cell BK_b1.out 0).trans rfl; have hc_b1_1 : w19.cell? ⟨g_b1, 1, none⟩ = some (.string t.f1) := (blk_cell BK_b1.out 1).trans rfl; have hc_b1_2 : w19.cell? ⟨g_b1, 2, none⟩ = some (.int .i64 t.f2) := (blk_cell BK_b1.out 2).trans rfl; have hc_b1_3 : w19.cell? ⟨g_b1, 3, none⟩ = some (.slice A_T t.f3.length c_T) := (blk_cell BK_b1.out 3).trans rfl; have hc_b5_0 : w19.cell? ⟨g_b5, 0, none⟩ = some (.int .i64 t.f0) := (blk_cell BK_b5.out 0).trans rfl; have hc_b5_1 : w19.cell? ⟨g_b5, 1, none⟩ = some (.string t.f1) := (blk_cell BK_b5.out 1).trans rfl; have hc_b5_2 : w19.cell? ⟨g_b5, 2, none⟩ = some (.int .i64 t.f2) := (blk_cell BK_b5.out 2).trans rfl; have hc_b5_3 : w19.cell? ⟨g_b5, 3, none⟩ = some (.slice A_x0 xt.length c_x0) := (blk_cell BK_b5.out 3).trans rfl))
  go_ret
  exact ⟨rfl, HB.out⟩
set_option maxHeartbeats 8000000 in
set_option maxRecDepth 100000 in
theorem va_big1 (t : S24) (A_T : Option Addr) (c_T : Nat) (left1 : Int) (w : World)
    (hl1 : left1 < 0)
    (hlT : t.f3.length ≤ c_T)
    (hCT : Kd.C k24 w A_T t.f3.length t.f3)
    (c15 : ∀ W A c, t.f3.length ≤ c → Kd.C k24 W A t.f3.length t.f3 → Calls Try.prog 15 #[.agg #[.int .i64 t.f0, .string t.f1, .int .i64 t.f2, .slice A t.f3.length c], .int .i64 1048576] W fun e W' => e = .returned (.int .i64 left1) ∧ Below W.heap.size W W') :
    Calls Try.prog 8 #[.agg #[.int .i64 t.f0, .string t.f1, .int .i64 t.f2, .slice A_T t.f3.length c_T]] w fun e w' => e = .returned (.bool true) ∧ Below w.heap.size w w' := by
  have HL_T := Aside0.mk hlT
  have HC_T := Aside0.mk hCT
  clear hlT hCT
  have cl1 : decide (left1 < 0) = true := decide_eq_true hl1
  clear hl1
  have HB := Aside0.mk (Below.refl w.heap.size w)
  go_enter Try.func8, Try.ntmps8
  go_wp2_with (first
    | ((with_reducible refine gate_dst (N := 1) rfl ?_); refine box_event ?hg1 (N := 1) ?hd1 (cs := #[.int .i64 t.f0, .string t.f1, .int .i64 t.f2, .slice A_T t.f3.length c_T]) (t := 24) ?hr1 ?_; (case hd1 => rfl); (case hg1 => rfl); (case hr1 => first | (go_simp; done) | (go_simp; rfl)); intro g_b1 hg w1 hbox hb; have HG_b1 := Aside0.mk hg; have HL_b1 := Aside0.mk (blk_lt hbox); have CH0 := Aside0.mk hb.size; have n0_ := Aside0.mk (below_step HB.out hb); clear HB; have HB := n0_; clear n0_; have BK_b1 := Aside0.mk hbox; clear hg hbox hb; have hc_b1_0 : w1.cell? ⟨g_b1, 0, none⟩ = some (.int .i64 t.f0) := (blk_cell BK_b1.out 0).trans rfl; have hc_b1_1 : w1.cell? ⟨g_b1, 1, none⟩ = some (.string t.f1) := (blk_cell BK_b1.out 1).trans rfl; have hc_b1_2 : w1.cell? ⟨g_b1, 2, none⟩ = some (.int .i64 t.f2) := (blk_cell BK_b1.out 2).trans rfl; have hc_b1_3 : w1.cell? ⟨g_b1, 3, none⟩ = some (.slice A_T t.f3.length c_T) := (blk_cell BK_b1.out 3).trans rfl)
    | ((with_reducible refine gate_callee (f := 15) rfl ?_); refine goesL_ (some 13) rfl rfl Try.func15 (by kernel_rfl) rfl #[.agg #[.int .i64 t.f0, .string t.f1, .int .i64 t.f2, .slice A_T t.f3.length c_T], .int .i64 1048576] rfl (by (try simp only [List.map_toArray, List.map_cons, List.map_nil]); first | done | rfl) ?_; refine (c15 _ _ _ HL_T.out (Kd.C_below HC_T.out HB.out)).mono ?_; rintro e w2 ⟨rfl, hb⟩; refine ⟨_, rfl, ?_⟩; have CH1 := Aside0.mk hb.size; have n0_ := Aside0.mk (below_step HB.out hb); have n1_ := Aside0.mk (blk_below BK_b1.out hb); clear HB BK_b1; have HB := n0_; have BK_b1 := n1_; clear n0_ n1_; clear hb; clear hc_b1_0 hc_b1_1 hc_b1_2 hc_b1_3; have hc_b1_0 : w2.cell? ⟨g_b1, 0, none⟩ = some (.int .i64 t.f0) := (blk_cell BK_b1.out 0).trans rfl; have hc_b1_1 : w2.cell? ⟨g_b1, 1, none⟩ = some (.string t.f1) := (blk_cell BK_b1.out 1).trans rfl; have hc_b1_2 : w2.cell? ⟨g_b1, 2, none⟩ = some (.int .i64 t.f2) := (blk_cell BK_b1.out 2).trans rfl; have hc_b1_3 : w2.cell? ⟨g_b1, 3, none⟩ = some (.slice A_T t.f3.length c_T) := (blk_cell BK_b1.out 3).trans rfl)
    | ((with_reducible refine gate_dst (N := 5) rfl ?_); refine box_event ?hg5 (N := 5) ?hd5 (cs := #[.int .i64 0, .string (⟨#[]⟩ : ByteArray), .int .i64 0, .slice none 0 0]) (t := 29) ?hr5 ?_; (case hd5 => rfl); (case hg5 => rfl); (case hr5 => first | (go_simp; done) | (go_simp; rfl)); intro g_b5 hg z_b5 hbox hb; have HG_b5 := Aside0.mk hg; have BB_b5 := Aside0.mk hbox; have HBB_b5 := Aside0.mk hb; have hz_b5_0 : z_b5.cell? ⟨g_b5, 0, none⟩ = some (.int .i64 0) := (blk_cell BB_b5.out 0).trans rfl; have hf_b5_0 := blk_frozen BB_b5.out 0; have hz_b5_1 : z_b5.cell? ⟨g_b5, 1, none⟩ = some (.string (⟨#[]⟩ : ByteArray)) := (blk_cell BB_b5.out 1).trans rfl; have hf_b5_1 := blk_frozen BB_b5.out 1; have hz_b5_2 : z_b5.cell? ⟨g_b5, 2, none⟩ = some (.int .i64 0) := (blk_cell BB_b5.out 2).trans rfl; have hf_b5_2 := blk_frozen BB_b5.out 2; have hz_b5_3 : z_b5.cell? ⟨g_b5, 3, none⟩ = some (.slice none 0 0) := (blk_cell BB_b5.out 3).trans rfl; have hf_b5_3 := blk_frozen BB_b5.out 3; clear hg hbox hb)
    | ((with_reducible refine gate_store (t := 29) (p := 5) rfl ?_); refine store_event (t := 29) (p := 5) (v := ?vo5) (w1 := ((((z_b5.setCell ⟨g_b5, 0, none⟩ (.int .i64 t.f0)).setCell ⟨g_b5, 1, none⟩ (.string t.f1)).setCell ⟨g_b5, 2, none⟩ (.int .i64 t.f2)).setCell ⟨g_b5, 3, none⟩ (.slice A_x0 xt.length c_x0))) ?hgs5 ?hos5 ?hns5 ?hrs5 ?_; (case hos5 => rfl); (case hgs5 => rfl); (case hns5 => rfl); (case hrs5 => first | (go_simp; done) | (go_simp; rfl)); intro w6 hw; have hb : Below w5.heap.size w5 w6 := (by rw [hw]; exact (below_set (below_set (below_set (below_set HBB_b5.out (by have := HG_b5.out; omega)) (by have := HG_b5.out; omega)) (by have := HG_b5.out; omega)) (by have := HG_b5.out; omega))); have CH5 := Aside0.mk hb.size; have n0_ := Aside0.mk (below_step HB.out hb); have n1_ := Aside0.mk (blk_below BK_b1.out hb); have n2_ := Aside0.mk (Kd.R_below RW_w0.out hb); have n3_ := Aside0.mk (Kd.S_below RW_x0.out hb); clear HB BK_b1 RW_w0 RW_x0; have HB := n0_; have BK_b1 := n1_; have RW_w0 := n2_; have RW_x0 := n3_; clear n0_ n1_ n2_ n3_; have BK_b5 : Aside0 (w6.heap[g_b5]? = some (.cells #[.int .i64 t.f0, .string t.f1, .int .i64 t.f2, .slice A_x0 xt.length c_x0] 29 (0, 0))) := ⟨by rw [hw]; refine blk_put (cs := #[.int .i64 t.f0, .string t.f1, .int .i64 t.f2, .slice none 0 0]) ?_ 3 _ rfl; refine blk_put (cs := #[.int .i64 t.f0, .string t.f1, .int .i64 0, .slice none 0 0]) ?_ 2 _ rfl; refine blk_put (cs := #[.int .i64 t.f0, .string (⟨#[]⟩ : ByteArray), .int .i64 0, .slice none 0 0]) ?_ 1 _ rfl; refine blk_put (cs := #[.int .i64 0, .string (⟨#[]⟩ : ByteArray), .int .i64 0, .slice none 0 0]) ?_ 0 _ rfl; exact BB_b5.out⟩; have HL_b5 := Aside0.mk (show g_b5 < w6.heap.size from blk_lt BK_b5.out); clear hb hw hz_b5_0 hf_b5_0 hz_b5_1 hf_b5_1 hz_b5_2 hf_b5_2 hz_b5_3 hf_b5_3; clear hc_b1_0 hc_b1_1 hc_b1_2 hc_b1_3; have hc_b1_0 : w6.cell? ⟨g_b1, 0, none⟩ = some (.int .i64 t.f0) := (blk_cell BK_b1.out 0).trans rfl; have hc_b1_1 : w6.cell? ⟨g_b1, 1, none⟩ = some (.string t.f1) := (blk_cell BK_b1.out 1).trans rfl; have hc_b1_2 : w6.cell? ⟨g_b1, 2, none⟩ = some (.int .i64 t.f2) := (blk_cell BK_b1.out 2).trans rfl; have hc_b1_3 : w6.cell? ⟨g_b1, 3, none⟩ = some (.slice A_T t.f3.length c_T) := (blk_cell BK_b1.out 3).trans rfl; have hc_b5_0 : w6.cell? ⟨g_b5, 0, none⟩ = some (.int .i64 t.f0) := (blk_cell BK_b5.out 0).trans rfl; have hc_b5_1 : w6.cell? ⟨g_b5, 1, none⟩ = some (.string t.f1) := (blk_cell BK_b5.out 1).trans rfl; have hc_b5_2 : w6.cell? ⟨g_b5, 2, none⟩ = some (.int .i64 t.f2) := (blk_cell BK_b5.out 2).trans rfl; have hc_b5_3 : w6.cell? ⟨g_b5, 3, none⟩ = some (.slice A_x0 xt.length c_x0) := (blk_cell BK_b5.out 3).trans rfl))
  go_ret
  exact ⟨rfl, HB.out⟩
end
/-! #### FnExactVarsOf -/
theorem va_all (t : S24) (A_T : Option Addr) (c_T : Nat) (w : World) (hCT : Kd.C k24 w A_T t.f3.length t.f3) (hlT : t.f3.length ≤ c_T) (hoT : ok24 t) :
    Calls Try.prog 8 #[.agg #[.int .i64 t.f0, .string t.f1, .int .i64 t.f2, .slice A_T t.f3.length c_T]] w fun e w' => e = .returned (.bool true) ∧ Below w.heap.size w w' := by
  obtain ⟨n, hn⟩ : ∃ n, n = ht24 t + 1 := ⟨_, rfl⟩
  letI := i_sz n
  letI := i_to n
  letI := i_eq n
  obtain ⟨k1, hst⟩ := Ev.rounds (sz_ev (n + 1) t hoT (by omega) 1048576 (by omega) (by omega))
  by_cases hw2 : wt24 t ≤ 1048576
  · have e2 : szr (wt24 t) 1048576 = 1048576 - wt24 t := by unfold szr; rw [if_pos (by omega)]
    rw [e2] at hst
    have hcnt := cn_wt t
    have htt := ht_to t
    have hTT : ToT t := (toT_all n).1 t (by omega) (by omega)
    have hwt := wt24_eq t
    have hxt : hts29 (to29 t).f3 ≤ n ∧ cns29 (to29 t).f3 ≤ 1048576 := by
      have q1 := ht29_eq (to29 t)
      have q2 := cn29_eq (to29 t)
      omega
    have hmtx : ∀ q : Int, 0 < q → q ≤ 1000000000 → laws_markText.f 11 q = some (mtx q) := fun q h0 h1 => mtx_ok q h0 h1
    have hmT : MarkOf mtx (to29 t).f3 := mark_calls mtx 11 hmtx n _ hxt.1
    obtain ⟨k4, het⟩ := Ev.rounds (show Ev (fun k => @laws_eqTerm.f (i_eq n) k (to29 t).f0 (to29 t).f1 (to29 t).f2 (to29 t).f3 (to29 t).f0 (to29 t).f1 (to29 t).f2 (to29 t).f3) true from eq_ev (n + 1) (to29 t) (by omega) (by omega))
    have hvl := vsT_len (to29 t) []
    obtain ⟨xs, hxs⟩ : ∃ xs, xs = vsT (to29 t) [] := ⟨_, rfl⟩
    have hxl : xs.length ≤ 4194304 := by rw [hxs]; simp at hvl; omega
    have hmk := markI_ok xs hxl 1 (by omega) (by omega)
    have hhl := heldI_ok xs hxl 1 (by omega) (by omega)
    have hel := eqI_ok xs hxl
    have hyl := mkI_length xs 1
    have hv1 := fun A c W => svarsof_calls (to29 t) A c W (by omega)
    have hv2 := fun A c W => varsof_calls (to29 t) A c W (by omega)
    have ht3 : (to29 t).f3 = tos29 t.f3 := by rw [to29_eq]
    have ht0 : (to29 t).f0 = t.f0 := by rw [to29_eq]
    have ht1 : (to29 t).f1 = t.f1 := by rw [to29_eq]
    have ht2 : (to29 t).f2 = t.f2 := by rw [to29_eq]
    rw [← hxs] at hv1 hv2
    rw [ht0, ht1, ht2] at het hv1 hv2
    rw [ht3] at het hmT hxt hv1 hv2
    refine va_walk t A_T c_T (1048576 - wt24 t) (1 + xs.length) (1 + 3 * (cns29 (tos29 t.f3) : Int)) xs (mkI xs 1) (tos29 t.f3) (mks29 mtx (tos29 t.f3) 1) w (by omega) (by omega) (by omega) hlT hCT ?_ ?_ ?_ ?_ ?_ ?_ ?_ ?_ ?_
    · intro W A c h1 h2
      exact laws_szTerm.calls k1 t.f0 t.f1 t.f2 A c t.f3 _ _ W h2 h1 hst
    · intro W A c h1 h2
      exact hTT A c W h2 h1
    · intro W A c h1 h2
      exact hv1 A c W h2 h1
    · intro W A c h1 h2
      exact hv2 A c W h2 h1
    · intro W A c B d h1 h2 h3 h4
      exact (laws_eqIntS.calls (xs.length + 1) A c xs B d xs true W h2 h1 h4 h3 hel).mono fun e W' h => ⟨h.1, h.2.below⟩
    · intro W A c B d h1 h2 h3 h4
      exact laws_eqTerm.calls k4 t.f0 t.f1 t.f2 A c (tos29 t.f3) t.f0 t.f1 t.f2 B d (tos29 t.f3) true W h2 h1 h4 h3 het
    · intro W base ok A c h1 h2
      exact markTerm_calls mtx _ hmT t.f0 t.f1 t.f2 A c 1 W base ok (by omega) (by omega) h1 h2
    · intro W base ok A c h1 h2
      exact markI_calls xs hxl A c W base ok h1 h2
    · intro W A c h1 h2
      have := laws_heldIntS.calls (xs.length + 1) A c (mkI xs 1) 1 _ W (by rw [hyl]; exact h2) (by omega) hhl
      rw [hyl] at this
      exact this.mono fun e W' h => ⟨h.1, h.2.below⟩
  · have e2 : szr (wt24 t) 1048576 = -1 := by unfold szr; rw [if_neg (by omega)]
    rw [e2] at hst
    refine va_big1 t A_T c_T (-1) w (by omega) hlT hCT ?_
    intro W A c h1 h2
    exact laws_szTerm.calls k1 t.f0 t.f1 t.f2 A c t.f3 _ _ W h2 h1 hst
end Go.Proofs.Ytojedbogbodkiaa.KVa
