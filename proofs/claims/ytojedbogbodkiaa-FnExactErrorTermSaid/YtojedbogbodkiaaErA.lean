/- Parts of a proof about terms. No condition. -/
import Derived.Test.YtojedbogbodkiaaKErx3
import Derived.Test.YtojedbogbodkiaaKS
namespace Go.Proofs.Ytojedbogbodkiaa.KEr
open Go.RowKit Go.Proofs.YtojedbogbodkiaaW.PrintWords Go.Proofs.YtojedbogbodkiaaW.PrintLast Go.Proofs.YtojedbogbodkiaaW.PrintMore
/-! #### trees of impl.Term: height, count -/
mutual
def ht29 : S29 → Nat
  | ⟨_, _, _, ks⟩ => hts29 ks + 1
def hts29 : List S29 → Nat
  | [] => 0
  | t :: ts => max (ht29 t) (hts29 ts)
end
mutual
def cn29 : S29 → Nat
  | ⟨_, _, _, ks⟩ => cns29 ks + 1
def cns29 : List S29 → Nat
  | [] => 0
  | t :: ts => cn29 t + cns29 ts
end
theorem ht29_eq (t : S29) : ht29 t = hts29 t.f3 + 1 := by cases t; rw [ht29]
theorem cn29_eq (t : S29) : cn29 t = cns29 t.f3 + 1 := by cases t; rw [cn29]
theorem hts29_mem {ts : List S29} {t : S29} (h : t ∈ ts) : ht29 t ≤ hts29 ts := by
  induction ts with
  | nil => simp at h
  | cons a l ih =>
    rw [hts29]
    rcases List.mem_cons.1 h with rfl | h
    · omega
    · have := ih h; omega
theorem t_wrap {i : Int} (h0 : -4611686018427387904 ≤ i) (h1 : i ≤ 4611686018427387904) : wrap64 i = i := by
  unfold wrap64; omega
theorem rd29_at (xs : List S29) (i : Nat) (h : i < xs.length) : rd_T29 xs (i : Int) = xs[i] := by
  unfold rd_T29; simp [List.getD, h]
theorem eta29 (t : S29) : (⟨t.f0, t.f1, t.f2, t.f3⟩ : S29) = t := by cases t; rfl
theorem next_i (i n : Nat) (h : i < n) (hn : n ≤ 1048576) : wrap64 ((i : Int) + 1) = ((i + 1 : Nat) : Int) := by
  rw [t_wrap (by omega) (by omega)]; omega
theorem cns29_mem {ts : List S29} {t : S29} (h : t ∈ ts) : cn29 t ≤ cns29 ts := by
  induction ts with
  | nil => simp at h
  | cons a l ih =>
    rw [cns29]
    rcases List.mem_cons.1 h with rfl | h
    · omega
    · have := ih h; omega
theorem cns29_len (ts : List S29) : ts.length ≤ cns29 ts := by
  induction ts with
  | nil => simp
  | cons a l ih => rw [cns29]; have := cn29_eq a; simp only [List.length_cons]; omega
/-! #### a term whose rows are its own: no two of them one block, all the way down -/
def FD29 (d : Kd S29) : Kd S29 := Kd.iso (Kd.pair (Kd.int .i64) (Kd.pair Kd.string (Kd.pair (Kd.int .i64) (Kd.sliceS 29 d)))) (fun x : S29 => (x.f0, x.f1, x.f2, x.f3))
theorem monoD29 : Kd.Mono FD29 := Kd.mono_iso _ (Kd.mono_pair (Kd.mono_const _) (Kd.mono_pair (Kd.mono_const _) (Kd.mono_pair (Kd.mono_const _) (Kd.mono_sliceS 29 Kd.mono_id))))
theorem subD29 : Kd.Sub FD29 [29] := Kd.sub_iso _ (Kd.sub_pair (Kd.sub_const _ (by decide)) (Kd.sub_pair (Kd.sub_const _ (by decide)) (Kd.sub_pair (Kd.sub_const _ (by decide)) (Kd.sub_sliceS 29 (by decide) Kd.sub_id))))
theorem szD29 : ∀ n, (Kd.upto FD29 4 [29] n).sz = 4 := Kd.upto_sz (fun _ => rfl)
def kD29 : Kd S29 := Kd.fix FD29 4 [29] szD29 (Kd.upto_E subD29)
theorem kD29_openM {w : World} {base : Nat} {ok : Nat → Prop} {x : S29} {cs : List Value} (h : kD29.M w base ok x cs) : ∃ v3, cs = [.int .i64 x.f0, .string x.f1, .int .i64 x.f2, v3] ∧ Kd.S kD29 29 w base ok v3 x.f3 := by
  obtain ⟨n, h⟩ := h
  cases n with
  | zero => exact h.elim
  | succ n =>
    obtain ⟨_, _, rfl, rfl, ⟨_, _, rfl, rfl, ⟨_, _, rfl, rfl, ⟨v3, rfl, g3⟩⟩⟩⟩ := h
    exact ⟨v3, rfl, Kd.fix_S g3⟩
theorem kD29_mkM (w : World) (base : Nat) (ok : Nat → Prop) (x : S29) {v3 : Value} (g3 : Kd.S kD29 29 w base ok v3 x.f3) : kD29.M w base ok x [.int .i64 x.f0, .string x.f1, .int .i64 x.f2, v3] := by
  obtain ⟨n3, q3⟩ := Kd.fix_S_back monoD29 g3
  exact ⟨n3 + 1, ⟨[.int .i64 x.f0], [.string x.f1, .int .i64 x.f2, v3], rfl, rfl, ⟨[.string x.f1], [.int .i64 x.f2, v3], rfl, rfl, ⟨[.int .i64 x.f2], [v3], rfl, rfl, ⟨v3, rfl, q3⟩⟩⟩⟩⟩
theorem uptoD29_K : ∀ (n : Nat) {w : World} {x : S29} {cs : List Value}, (Kd.upto FD29 4 [29] n).K w x cs → (Kd.upto F29 4 [29] n).K w x cs
  | 0, _, _, _, h => h.elim
  | n + 1, w, x, cs, h => by
    obtain ⟨_, _, rfl, rfl, ⟨_, _, rfl, rfl, ⟨_, _, rfl, rfl, ⟨A, c, rfl, l, g⟩⟩⟩⟩ := h
    have g' : (Kd.upto F29 4 [29] n).C w A x.f3.length x.f3 := Kd.C_imp (d := Kd.upto FD29 4 [29] n) ((szD29 n).trans (sz29 n).symm) (fun _ _ _ hp => uptoD29_K n hp) g
    exact ⟨[.int .i64 x.f0], [.string x.f1, .int .i64 x.f2, .slice A x.f3.length c], rfl, rfl, ⟨[.string x.f1], [.int .i64 x.f2, .slice A x.f3.length c], rfl, rfl, ⟨[.int .i64 x.f2], [.slice A x.f3.length c], rfl, rfl, ⟨A, c, rfl, l, g'⟩⟩⟩⟩
theorem kD29_K {w : World} {x : S29} {cs : List Value} (h : kD29.K w x cs) : k29.K w x cs := by
  obtain ⟨n, h⟩ := h
  exact ⟨n, uptoD29_K n h⟩
theorem kD29_C {w : World} {A : Option Addr} {n : Nat} {xs : List S29} (h : Kd.C kD29 w A n xs) : Kd.C k29 w A n xs := Kd.C_imp (d := kD29) (d' := k29) rfl (fun _ _ _ hp => kD29_K hp) h
theorem kD29_reads {e : Nat} {w : World} {base : Nat} {ok : Nat → Prop} {v : Value} {xs : List S29} (h : Kd.S kD29 e w base ok v xs) : ∃ A c, v = .slice A xs.length c ∧ xs.length ≤ c ∧ Kd.C k29 w A xs.length xs := by
  obtain ⟨A, c, rfl, hl, hC⟩ := Kd.S_reads h
  exact ⟨A, c, rfl, hl, kD29_C hC⟩
theorem kD29_leaf (w : World) (base : Nat) (ok : Nat → Prop) (a : Int) (s : ByteArray) (b : Int) : kD29.M w base ok ⟨a, s, b, []⟩ [.int .i64 a, .string s, .int .i64 b, .slice none 0 0] := kD29_mkM w base ok ⟨a, s, b, []⟩ (Kd.S_nil _ _ _ _ _)
theorem uptoD29_M : ∀ (n : Nat) {w : World} {base : Nat} {ok : Nat → Prop} {x : S29} {cs : List Value}, (Kd.upto FD29 4 [29] n).M w base ok x cs → (Kd.upto F29 4 [29] n).M w base ok x cs
  | 0, _, _, _, _, _, h => h.elim
  | n + 1, w, base, ok, x, cs, h => by
    obtain ⟨_, _, rfl, rfl, ⟨_, _, rfl, rfl, ⟨_, _, rfl, rfl, ⟨v3, rfl, g⟩⟩⟩⟩ := h
    have g' : (Kd.upto F29 4 [29] n).R 29 w base ok v3 x.f3 := Kd.R_imp (d := Kd.upto FD29 4 [29] n) ((szD29 n).trans (sz29 n).symm) (fun _ _ _ _ _ hp => uptoD29_M n hp) (Kd.S_R g)
    exact ⟨[.int .i64 x.f0], [.string x.f1, .int .i64 x.f2, v3], rfl, rfl, ⟨[.string x.f1], [.int .i64 x.f2, v3], rfl, rfl, ⟨[.int .i64 x.f2], [v3], rfl, rfl, ⟨v3, rfl, g'⟩⟩⟩⟩
theorem kD29_M {w : World} {base : Nat} {ok : Nat → Prop} {x : S29} {cs : List Value} (h : kD29.M w base ok x cs) : k29.M w base ok x cs := by
  obtain ⟨n, h⟩ := h
  exact ⟨n, uptoD29_M n h⟩
theorem S_k29 {e : Nat} {w : World} {base : Nat} {ok : Nat → Prop} {v : Value} {xs : List S29} (h : Kd.S kD29 e w base ok v xs) : k29.R e w base ok v xs := Kd.R_imp (d := kD29) (d' := k29) rfl (fun _ _ _ _ _ hp => kD29_M hp) (Kd.S_R h)
/-! #### what a mark leaves -/
mutual
def mk29 (mt : Int → ByteArray) : S29 → Int → S29
  | ⟨_, _, _, ks⟩, k => ⟨k, mt (k + 1), k + 2, mks29 mt ks (k + 3)⟩
def mks29 (mt : Int → ByteArray) : List S29 → Int → List S29
  | [], _ => []
  | t :: ts, k => mk29 mt t k :: mks29 mt ts (k + 3 * (cn29 t : Int))
end
theorem mk29_eq (mt : Int → ByteArray) (t : S29) (k : Int) : mk29 mt t k = ⟨k, mt (k + 1), k + 2, mks29 mt t.f3 (k + 3)⟩ := by cases t; rw [mk29]
theorem mks29_length (mt : Int → ByteArray) : ∀ (ts : List S29) (k : Int), (mks29 mt ts k).length = ts.length
  | [], _ => by rw [mks29]
  | t :: ts, k => by rw [mks29, List.length_cons, List.length_cons, mks29_length mt ts]
theorem mks29_append (mt : Int → ByteArray) : ∀ (ts us : List S29) (k : Int), mks29 mt (ts ++ us) k = mks29 mt ts k ++ mks29 mt us (k + 3 * (cns29 ts : Int))
  | [], us, k => by rw [mks29, cns29, List.nil_append, List.nil_append]; simp
  | t :: ts, us, k => by
    rw [List.cons_append, mks29, mks29, cns29, List.cons_append, mks29_append mt ts us]
    congr 3
    push_cast
    omega
theorem cns29_append : ∀ (ts us : List S29), cns29 (ts ++ us) = cns29 ts + cns29 us
  | [], us => by rw [List.nil_append, cns29]; omega
  | t :: ts, us => by rw [List.cons_append, cns29, cns29, cns29_append ts us]; omega
theorem mks29_cn (mt : Int → ByteArray) : ∀ (n : Nat), (∀ t k, ht29 t ≤ n → cn29 (mk29 mt t k) = cn29 t ∧ ht29 (mk29 mt t k) = ht29 t) ∧ (∀ ts k, hts29 ts ≤ n → cns29 (mks29 mt ts k) = cns29 ts ∧ hts29 (mks29 mt ts k) = hts29 ts)
  | 0 => by
    refine ⟨fun t k h => by rw [ht29_eq] at h; omega, fun ts k h => ?_⟩
    cases ts with
    | nil => rw [mks29]; exact ⟨rfl, rfl⟩
    | cons t ts => rw [hts29] at h; have := ht29_eq t; omega
  | n + 1 => by
    have h1 : ∀ t k, ht29 t ≤ n + 1 → cn29 (mk29 mt t k) = cn29 t ∧ ht29 (mk29 mt t k) = ht29 t := fun t k h => by
      rw [ht29_eq] at h
      obtain ⟨h2, h3⟩ := (mks29_cn mt n).2 t.f3 (k + 3) (by omega)
      rw [mk29_eq, cn29_eq, cn29_eq t, ht29_eq, ht29_eq t]
      exact ⟨by rw [h2], by rw [h3]⟩
    refine ⟨h1, fun ts => ?_⟩
    induction ts with
    | nil => intro k _; rw [mks29]; exact ⟨rfl, rfl⟩
    | cons t ts ih =>
      intro k h
      rw [hts29] at h
      obtain ⟨h2, h3⟩ := h1 t k (by omega)
      obtain ⟨h4, h5⟩ := ih (k + 3 * (cn29 t : Int)) (by omega)
      rw [mks29, cns29, cns29, hts29, hts29, h2, h3, h4, h5]
      exact ⟨rfl, rfl⟩
theorem marks_take (xs : List S29) (i : Nat) (h : i < xs.length) : cns29 (xs.take (i + 1)) = cns29 (xs.take i) + (cns29 xs[i].f3 + 1) := by
  rw [List.take_succ_eq_append_getElem h, cns29_append, cns29, cns29, ← cn29_eq]; omega
theorem marks_set (mt : Int → ByteArray) (xs : List S29) (k : Int) (i : Nat) (h : i < xs.length) : (mks29 mt (xs.take i) k ++ xs.drop i).set i (mk29 mt xs[i] (k + 3 * (cns29 (xs.take i) : Int))) = mks29 mt (xs.take (i + 1)) k ++ xs.drop (i + 1) := by
  have hl : (mks29 mt (xs.take i) k).length = i := by rw [mks29_length, List.length_take]; omega
  rw [List.set_append_right _ _ (by omega), hl, Nat.sub_self, List.drop_eq_getElem_cons h, List.set_cons_zero, List.take_succ_eq_append_getElem h, mks29_append, mks29, mks29, List.append_assoc]
  rfl
/-! #### one term of a row is being marked: the row with a hole, the term's own rows, what was kept -/
structure MS (base : Nat) (ok : Nat → Prop) (g n cap : Nat) (xs : List S29) (i : Nat) (oki : Nat → Prop) (A3 : Option Addr) (c3 : Nat) (ks : List S29) (w W : World) (c : List Value) : Prop where
  hi : i < n
  hH : Kd.H kD29 29 W base ok (.slice (some ⟨g, 0, none⟩) n cap) xs (i : Int) oki c
  hK : Kd.S kD29 29 W base oki (.slice A3 ks.length c3) ks
  hg : ∀ k, oki k → k ≠ g
  hok : ok g
  hb : base ≤ g
  hl : c.length = 4
  below : Below base w W
  hbs : base ≤ W.heap.size
  kept : Kept w W ok
section
variable {base : Nat} {ok : Nat → Prop} {g n cap : Nat} {xs : List S29} {i : Nat} {oki : Nat → Prop} {A3 : Option Addr} {c3 : Nat} {ks : List S29} {w W W1 : World} {c : List Value}
theorem MS.at_ (h : MS base ok g n cap xs i oki A3 c3 ks w W c) : (∀ j u, c[j]? = some u → W.cell? ⟨g, i * 4 + j, none⟩ = some u) ∧ ∀ j, W.frozen? ⟨g, i * 4 + j, none⟩ = false := by
  have hi := h.hi
  obtain ⟨h1, h2⟩ := Kd.H_at h.hH (by omega) (by omega)
  rw [Int.toNat_natCast] at h1 h2
  exact ⟨h1, h2⟩
theorem MS.put (h : MS base ok g n cap xs i oki A3 c3 ks w W c) (j : Nat) (v : Value) (hj : j < 4) (h1 : v.oneCell' = true) :
    MS base ok g n cap xs i oki A3 c3 ks w (W.setCell ⟨g, i * 4 + j, none⟩ v) (c.take j ++ [v] ++ c.drop (j + 1)) := by
  have hi := h.hi
  have hl := h.hl
  obtain ⟨h2, h3⟩ := Kd.H_seg h.hH (by omega) (by omega) (seg := [v]) (j := j) (show j + 1 ≤ 4 by omega) (fun q hq => by rw [List.mem_singleton.1 hq]; exact h1)
  rw [Int.toNat_natCast] at h2
  exact ⟨hi, h2, Kd.S_far h.hK (p := ⟨g, i * 4 + j, none⟩) h.hg v, h.hg, h.hok, h.hb, by simp only [List.length_append, List.length_take, List.length_drop, List.length_singleton]; omega,
    h.below.setCell h.hb _, by have := h.hbs; simpa [World.setCell] using this, Kept.setCell h.kept (.inl h.hok) _⟩
theorem MS.step (h : MS base ok g n cap xs i oki A3 c3 ks w W c) (hb : Below W.heap.size W W1) : MS base ok g n cap xs i oki A3 c3 ks w W1 c :=
  ⟨h.hi, Kd.H_below h.hH hb, Kd.S_below h.hK hb, h.hg, h.hok, h.hb, h.hl, below_then h.below h.hbs hb, Nat.le_trans h.hbs hb.size, h.kept.below hb⟩
theorem MS.done (h : MS base ok g n cap xs i oki A3 c3 ks w W c) {a b : Int} {s : ByteArray} (hc : c = [.int .i64 a, .string s, .int .i64 b, .slice A3 ks.length c3]) {ks' : List S29} (hB : Below base W W1) (hS : Kd.S kD29 29 W1 base oki (.slice A3 ks.length c3) ks') (hk : Kept W W1 oki) :
    Kd.S kD29 29 W1 base ok (.slice (some ⟨g, 0, none⟩) n cap) (xs.set i ⟨a, s, b, ks'⟩) ∧ Below base w W1 ∧ Kept w W1 ok ∧ base ≤ W1.heap.size := by
  have hH := Kd.H_kept h.hH hk (fun k _ hn => hn)
  subst hc
  refine ⟨?_, h.below.trans hB, h.kept.then_ hk (fun k hk2 => .inl (hH.1 k hk2)), Nat.le_trans h.hbs hk.1⟩
  have := Kd.H_back hH (x' := (⟨a, s, b, ks'⟩ : S29)) (okp := oki) (kD29_mkM W1 base oki ⟨a, s, b, ks'⟩ hS) (fun _ hk => hk)
  rw [Int.toNat_natCast] at this
  exact this
theorem MS.kids_len (h : MS base ok g n cap xs i oki A3 c3 ks w W c) : ks.length ≤ 9223372036854775807 := (Kd.S_reads' h.hK).2.2.2.1
end
theorem ms_new {base : Nat} {ok : Nat → Prop} {g n cap : Nat} {xs : List S29} {i : Nat} {w W : World} (hS : Kd.S kD29 29 W base ok (.slice (some ⟨g, 0, none⟩) n cap) xs) (hi : i < n) (hB : Below base w W) (hk : Kept w W ok) (hbs : base ≤ W.heap.size) (x : S29) (hx : xs.getD i z29 = x) :
    ∃ (oki : Nat → Prop) (A3 : Option Addr) (c3 : Nat), MS base ok g n cap xs i oki A3 c3 x.f3 w W [.int .i64 x.f0, .string x.f1, .int .i64 x.f2, .slice A3 x.f3.length c3] := by
  obtain ⟨oki, ce, hcl, hM, hcc, hfr, hoki, hH⟩ := Kd.S_elem hS z29 (i : Int) (by omega) (by omega)
  rw [Int.toNat_natCast, hx] at hM
  obtain ⟨v3, rfl, hK3⟩ := kD29_openM hM
  obtain ⟨A3, c3, rfl⟩ := Kd.S_slice hK3
  have hR := Kd.S_R hS
  exact ⟨oki, A3, c3, hi, hH, hK3, fun k hk => (hoki k hk).2, hR.1 g (by simp [Value.ownBlock]), Kd.S_base hS g (by simp [Value.ownBlock]), hcl, hB, hbs, hk⟩
/-! #### markTermS: a row that is the call's own, all the way down, is marked -/
section
set_option linter.unusedSectionVars false
variable [fk_laws_eqTerm]
def MarkOf (mt : Int → ByteArray) (xs : List S29) : Prop := ∀ (A : Option Addr) (c : Nat) (k : Int) (w : World) (base : Nat) (ok : Nat → Prop), 0 < k → k + 3 * (cns29 xs : Int) ≤ 1000000000 → base ≤ w.heap.size → Kd.S kD29 29 w base ok (.slice A xs.length c) xs →
    Calls Try.prog 66 #[.slice A xs.length c, .int .i64 k] w fun e w' => e = .returned (.int .i64 (k + 3 * (cns29 xs : Int))) ∧ Kd.S kD29 29 w' base ok (.slice A xs.length c) (mks29 mt xs k) ∧ Below base w w' ∧ Kept w w' ok
set_option maxHeartbeats 8000000 in
set_option maxRecDepth 100000 in
theorem mark_step (mt : Int → ByteArray) (kt : Nat) (hmt : ∀ n : Int, 0 < n → n ≤ 1000000000 → laws_markText.f kt n = some (mt n)) (xs : List S29) (ih : ∀ x ∈ xs, MarkOf mt x.f3) : MarkOf mt xs := by
    intro A c k w base ok hk hk2 hbs hS
    have IH := Aside0.mk ih
    have HS := Aside0.mk hS
    have HK := Aside0.mk hk2
    have hm := (Kd.S_reads' hS).2.2.2.1
    clear hS hk2 ih
    go_enter Try.func66, Try.ntmps66
    go_wp2
    go_loopg [1, 5] xs.length (fun m v1 v5 w' => ∃ i : Nat, v5 = .int .i64 i ∧ v1 = .int .i64 (k + 3 * (cns29 (xs.take i) : Int)) ∧ Aside0 (m + i = xs.length) ∧ Aside0 (Kd.S kD29 29 w' base ok (.slice A xs.length c) (mks29 mt (xs.take i) k ++ xs.drop i)) ∧ Aside0 (Below base w w') ∧ Aside0 (Kept w w' ok))
    case atStart => exact ⟨0, rfl, by simp [cns29], ⟨by omega⟩, ⟨by simpa [mks29] using HS.out⟩, ⟨Below.refl _ _⟩, ⟨⟨Nat.le_refl _, fun _ _ _ => rfl⟩⟩⟩
    case round =>
      clear HS
      obtain ⟨i, rfl, rfl, hi, HA, HB, HK2⟩ := hrel
      by_cases hlt : (i : Int) < (xs.length : Int)
      · have c3b0 : decide ((i : Int) < (xs.length : Int)) = true := decide_eq_true hlt
        have hlt' : i < xs.length := by omega
        have c3b1 : decide (i < xs.length) = true := decide_eq_true hlt'
        have hlen : (mks29 mt (xs.take i) k ++ xs.drop i).length = xs.length := by rw [List.length_append, mks29_length, List.length_take, List.length_drop]; omega
        obtain ⟨g, hA⟩ : ∃ g, A = some ⟨g, 0, none⟩ := by
          obtain ⟨g, cap, e, _⟩ := Kd.S_form HA.out (by rw [hlen]; omega)
          injection e with e1
          exact ⟨g, e1⟩
        subst hA
        have hx : (mks29 mt (xs.take i) k ++ xs.drop i).getD i z29 = xs[i] := by
          rw [List.getD_eq_getElem?_getD, List.getElem?_append_right (by rw [mks29_length, List.length_take]; omega), mks29_length, List.length_take, Nat.min_eq_left (by omega), Nat.sub_self, List.drop_eq_getElem_cons hlt']
          rfl
        obtain ⟨oki, A3, c3, hms⟩ := ms_new HA.out hlt' HB.out HK2.out (Nat.le_trans hbs HK2.out.1) xs[i] hx
        have hf0 := hms.at_.2 0
        have hx0 := hms.at_.1 0 _ rfl
        simp only [Nat.add_zero] at hf0 hx0
        have HM := Aside0.mk hms
        have hcn : cns29 (xs.take i) + cn29 xs[i] ≤ cns29 xs := by
          have := cns29_append (xs.take i) (xs.drop i)
          rw [List.take_append_drop, List.drop_eq_getElem_cons hlt', cns29] at this
          omega
        have hcs := cn29_eq xs[i]
        have HCN := Aside0.mk hcn
        have HCS := Aside0.mk hcs
        clear hlen hms hx hcn hcs
        generalize hki : k + 3 * (cns29 (xs.take i) : Int) = ki
        have HKI := Aside0.mk hki
        have e1 : wrap64 (ki + 1) = ki + 1 := t_wrap (by omega) (by have := HK.out; have := HCN.out; omega)
        have e2 : wrap64 (wrap64 (ki + 1) + 1) = ki + 2 := by rw [e1, t_wrap (by have := HKI.out; omega) (by have := HK.out; have := HCN.out; omega)]; omega
        have e3 : wrap64 (wrap64 (wrap64 (ki + 1) + 1) + 1) = ki + 3 := by rw [e2, t_wrap (by have := HKI.out; omega) (by have := HK.out; have := HCN.out; omega)]; omega
        have hr1 : laws_markText.f kt (wrap64 (ki + 1)) = some (mt (ki + 1)) := by rw [e1]; exact hmt _ (by have := HKI.out; omega) (by have := HK.out; have := HCN.out; have := HCS.out; omega)
        have E2 := Aside0.mk e2
        have E3 := Aside0.mk e3
        have E1 := Aside0.mk e1
        have HR1 := Aside0.mk hr1
        clear hki hr1 e1 e2 e3
        go_wp2_with (first
          | ((with_reducible refine gate_store (t := 3) (p := 16) rfl ?_); refine store_event (t := 3) (p := 16) (v := ?vo1) (w1 := wr.setCell ⟨g, i * 4, none⟩ (.int .i64 ki)) ?hg ?ho ?hn ?hr ?_; (case ho => rfl); (case hg => rfl); (case hn => rfl); (case hr => first | (go_simp; done) | (go_simp; rfl)); intro w2 hw2; have HM' := Aside0.mk (HM.out.put 0 (.int .i64 ki) (by decide) rfl); rw [Nat.add_zero, ← hw2] at HM'; clear HM hw2 hf0 hx0; have HM := HM'; clear HM')
          | ((with_reducible refine gate_callee (f := 105) rfl ?_); refine goesL_ (some 22) rfl rfl Try.func105 (by kernel_rfl) rfl #[.int .i64 (wrap64 (ki + 1))] rfl (by (try simp only [List.map_toArray, List.map_cons, List.map_nil]); first | done | rfl) ?_; refine (laws_markText.calls kt (wrap64 (ki + 1)) (mt (ki + 1)) _ HR1.out).mono ?_; rintro e w3 ⟨rfl, hb3⟩; refine ⟨_, rfl, ?_⟩; have HM' := Aside0.mk (HM.out.step hb3); clear HM hb3; have HM := HM'; clear HM'; have hf1 := HM.out.at_.2 1; have hx1 := HM.out.at_.1 1 _ rfl)
          | ((with_reducible refine gate_store (t := 9) (p := 24) rfl ?_); refine store_event (t := 9) (p := 24) (v := ?vo2) (w1 := w3.setCell ⟨g, i * 4 + 1, none⟩ (.string (mt (ki + 1)))) ?hg ?ho ?hn ?hr ?_; (case ho => rfl); (case hg => rfl); (case hn => rfl); (case hr => first | (go_simp; done) | (go_simp; rfl)); intro w4 hw4; have HM' := Aside0.mk (HM.out.put 1 (.string (mt (ki + 1))) (by decide) rfl); rw [← hw4] at HM'; clear HM hw4 hf1 hx1; have HM := HM'; clear HM'; have hf2 := HM.out.at_.2 2; have hx2 := HM.out.at_.1 2 _ rfl)
          | ((with_reducible refine gate_store (t := 3) (p := 31) rfl ?_); refine store_event (t := 3) (p := 31) (v := ?vo3) (w1 := w4.setCell ⟨g, i * 4 + 2, none⟩ (.int .i64 (wrap64 (wrap64 (ki + 1) + 1)))) ?hg ?ho ?hn ?hr ?_; (case ho => rfl); (case hg => rfl); (case hn => rfl); (case hr => first | (go_simp; done) | (go_simp; rfl)); intro w5 hw5; have HM' := Aside0.mk (HM.out.put 2 (.int .i64 (wrap64 (wrap64 (ki + 1) + 1))) (by decide) rfl); rw [← hw5] at HM'; clear HM hw5 hf2 hx2; have HM := HM'; clear HM'; have hx3 := HM.out.at_.1 3 _ rfl)
          | ((with_reducible refine gate_callee (f := 66) rfl ?_); refine goesL_ (some 40) rfl rfl Try.func66 (by kernel_rfl) rfl #[.slice A3 xs[i].f3.length c3, .int .i64 (wrap64 (wrap64 (wrap64 (ki + 1) + 1) + 1))] rfl (by (try simp only [List.map_toArray, List.map_cons, List.map_nil]); first | done | rfl) ?_; refine (IH.out xs[i] (List.getElem_mem hlt') A3 c3 (wrap64 (wrap64 (wrap64 (ki + 1) + 1) + 1)) _ base oki ?s2 ?s3 HM.out.hbs HM.out.hK).mono ?_; (case s2 => rw [E3.out]; have := HKI.out; omega); (case s3 => rw [E3.out]; have := HK.out; have := HCN.out; have := HCS.out; have := HKI.out; omega); rintro e w6 ⟨rfl, hs6, hb6, hk6⟩; refine ⟨_, rfl, ?_⟩))
        obtain ⟨hs7, hb7, hk7, hz7⟩ := HM.out.done rfl hb6 hs6 hk6
        rw [E3.out, E2.out] at hs7
        have hq := marks_set mt xs k i hlt'
        rw [HKI.out, mk29_eq] at hq
        rw [hq] at hs7
        go_roundg (xs.length - (i + 1))
        case measure => have := hi.out; omega
        case rel => exact ⟨i + 1, by go_num, by rw [E3.out, marks_take xs i hlt']; have := HKI.out; congr 1; push_cast; omega, ⟨by have := hi.out; omega⟩, ⟨hs7⟩, ⟨hb7⟩, ⟨hk7⟩⟩
      · have c3b0 : decide ((i : Int) < (xs.length : Int)) = false := decide_eq_false hlt
        have c3b1 : decide (i < xs.length) = false := decide_eq_false (by omega)
        go_wp2
        go_ret
        have he : xs.length ≤ i := by omega
        have hS := HA.out
        rw [List.take_of_length_le he, List.drop_eq_nil_of_le he, List.append_nil] at hS
        exact ⟨by rw [List.take_of_length_le he]; rfl, hS, HB.out, HK2.out⟩
theorem mark_calls (mt : Int → ByteArray) (kt : Nat) (hmt : ∀ n : Int, 0 < n → n ≤ 1000000000 → laws_markText.f kt n = some (mt n)) (n : Nat) : ∀ xs : List S29, hts29 xs ≤ n → MarkOf mt xs := by
  induction n with
  | zero =>
    intro xs h
    refine mark_step mt kt hmt xs (fun x hx => ?_)
    have := hts29_mem hx
    have := ht29_eq x
    omega
  | succ n ih =>
    intro xs h
    refine mark_step mt kt hmt xs (fun x hx => ih x.f3 ?_)
    have := hts29_mem hx
    have := ht29_eq x
    omega
end
/-! #### markText tells a text; what was marked is held -/
section
set_option linter.unusedSectionVars false
variable [fk_laws_eqTerm]
theorem markText_l (d : Nat) : ∀ (x : Int) (s : ByteArray), 0 ≤ x → x ≤ 1000000000 → x < 10 ^ d → s.size + d ≤ 100 → ∃ r, laws_markText.l0 (d + 1) x s = some r := by
  induction d with
  | zero =>
    intro x s h0 hb h1 hs
    obtain rfl : x = 0 := by omega
    exact ⟨⟨#[109]⟩ ++ s, by simp only [laws_markText.l0]; rw [if_neg (by omega), if_pos (by omega)]⟩
  | succ d ih =>
    intro x s h0 hb h1 hs
    by_cases c : x > 0
    · have hd : wrap64 (Int.tdiv x 10) = x / 10 := by
        rw [Int.tdiv_eq_ediv_of_nonneg h0]
        exact t_wrap (by omega) (by omega)
      have hq : x / 10 < 10 ^ d := by
        rw [Int.pow_succ] at h1
        omega
      obtain ⟨r, hr⟩ := ih (x / 10) ((strOfNums [(wrap64 (48 + (Int.tmod x 10))) % 256]) ++ s) (by omega) (by omega) hq (by rw [ByteArray.size_append]; have : (strOfNums [(wrap64 (48 + (Int.tmod x 10))) % 256]).size = 1 := rfl; omega)
      refine ⟨r, ?_⟩
      simp only [laws_markText.l0, Option.bind_some]
      have h3 : (strOfNums [(wrap64 (48 + (Int.tmod x 10))) % 256]).size = 1 := rfl
      rw [if_pos c, if_pos (by omega), hd]
      exact hr
    · refine ⟨⟨#[109]⟩ ++ s, ?_⟩
      simp only [laws_markText.l0]
      rw [if_neg c, if_pos (by omega)]
def mtx (n : Int) : ByteArray := (laws_markText.f 11 n).getD ⟨#[]⟩
theorem mtx_ok (n : Int) (h0 : 0 < n) (h1 : n ≤ 1000000000) : laws_markText.f 11 n = some (mtx n) := by
  obtain ⟨r, hr⟩ := markText_l 10 n ⟨#[]⟩ (by omega) h1 (by omega) (by decide)
  have : laws_markText.f 11 n = some r := by
    unfold laws_markText.f
    rw [if_neg (by omega)]
    exact hr
  unfold mtx
  rw [this]
  rfl
theorem mtx_ev (n : Int) (h0 : 0 < n) (h1 : n ≤ 1000000000) : Ev (fun k => laws_markText.f k n) (mtx n) := Ev.of (fun k => laws_markText.mono n k) (mtx_ok n h0 h1)
theorem mks29_get (mt : Int → ByteArray) : ∀ (xs : List S29) (k : Int) (i : Nat) (h : i < xs.length), (mks29 mt xs k)[i]'(by rw [mks29_length]; exact h) = mk29 mt xs[i] (k + 3 * (cns29 (xs.take i) : Int))
  | t :: ts, k, 0, _ => by simp only [mks29, List.getElem_cons_zero, List.take_zero, cns29]; congr 1; omega
  | t :: ts, k, i + 1, h => by
    simp only [mks29, List.getElem_cons_succ, List.take_succ_cons, cns29]
    rw [mks29_get mt ts _ i (by simpa using h)]
    congr 1
    push_cast
    omega
theorem cns29_take_le (xs : List S29) (i : Nat) : cns29 (xs.take i) ≤ cns29 xs := by
  have := cns29_append (xs.take i) (xs.drop i)
  rw [List.take_append_drop] at this
  omega
def HeldOf (xs : List S29) : Prop := ∀ k0 : Int, 0 < k0 → k0 + 3 * (cns29 xs : Int) ≤ 1000000000 → Ev (fun k => laws_heldTermS.f k (mks29 mtx xs k0) k0) (k0 + 3 * (cns29 xs : Int))
theorem held_step (xs : List S29) (hlen : xs.length ≤ 1048576) (ih : ∀ x ∈ xs, HeldOf x.f3) : HeldOf xs := by
  intro k0 h0 h1
  have hl : ∀ (d i : Nat), i ≤ xs.length → xs.length - i = d → Ev (fun k => laws_heldTermS.l0 k (mks29 mtx xs k0) (k0 + 3 * (cns29 (xs.take i) : Int)) i) (k0 + 3 * (cns29 xs : Int)) := by
    intro d
    induction d with
    | zero =>
      intro i hi hd
      refine Ev.step (f := fun _ => some (k0 + 3 * (cns29 xs : Int))) (fun k => ?_) (Ev.now _)
      simp only [laws_heldTermS.l0]
      rw [if_neg (by rw [mks29_length]; omega), List.take_of_length_le (by omega)]
    | succ d ihd =>
      intro i hi hd
      have hlt : i < xs.length := by omega
      have hcn := cns29_take_le xs (i + 1)
      have htk := marks_take xs i hlt
      obtain ⟨ki, hki⟩ : ∃ ki : Int, ki = k0 + 3 * (cns29 (xs.take i) : Int) := ⟨_, rfl⟩
      have e1 : wrap64 (ki + 1) = ki + 1 := t_wrap (by omega) (by omega)
      have e2 : wrap64 (ki + 1 + 1) = ki + 2 := by rw [t_wrap (by omega) (by omega)]; omega
      have e3 : wrap64 (ki + 2 + 1) = ki + 3 := by rw [t_wrap (by omega) (by omega)]; omega
      have hx : rd_T29 (mks29 mtx xs k0) (i : Int) = mk29 mtx xs[i] ki := by rw [rd29_at _ _ (by rw [mks29_length]; exact hlt), mks29_get mtx xs k0 i hlt, hki]
      rw [← hki]
      refine Ev.step (f := fun k => (laws_markText.f k (ki + 1)).bind fun t212 => (if (mtx (ki + 1)).toList = t212.toList then ((laws_heldTermS.f k (mks29 mtx xs[i].f3 (ki + 3)) (ki + 3)).bind fun t215 => (if t215 < 0 then (some (-1)) else (laws_heldTermS.l0 k (mks29 mtx xs k0) t215 ((i + 1 : Nat) : Int)))) else (some (-1)))) (fun k => ?_) ?_
      · simp only [laws_heldTermS.l0]
        rw [if_pos (by rw [mks29_length]; omega), if_pos (by omega), hx, mk29_eq, next_i i _ hlt hlen]
        simp only [e1, e2, e3, if_true]
      · refine Ev.bind (f := fun k t212 => (if (mtx (ki + 1)).toList = t212.toList then ((laws_heldTermS.f k (mks29 mtx xs[i].f3 (ki + 3)) (ki + 3)).bind fun t215 => (if t215 < 0 then (some (-1)) else (laws_heldTermS.l0 k (mks29 mtx xs k0) t215 ((i + 1 : Nat) : Int)))) else (some (-1)))) (mtx_ev (ki + 1) (by omega) (by omega)) ?_
        refine Ev.congr (fun k => if_pos rfl) ?_
        refine Ev.bind (f := fun k t215 => (if t215 < 0 then (some (-1)) else (laws_heldTermS.l0 k (mks29 mtx xs k0) t215 ((i + 1 : Nat) : Int)))) (ih xs[i] (List.getElem_mem hlt) (ki + 3) (by omega) (by omega)) ?_
        refine Ev.congr (fun k => if_neg (by omega)) ?_
        have := ihd (i + 1) (by omega) (by omega)
        have e : ki + 3 + 3 * (cns29 xs[i].f3 : Int) = k0 + 3 * (cns29 (xs.take (i + 1)) : Int) := by rw [htk, hki]; push_cast; omega
        rw [e]
        exact this
  refine Ev.step (f := fun k => laws_heldTermS.l0 k (mks29 mtx xs k0) k0 0) (fun k => by simp only [laws_heldTermS.f]) ?_
  have := hl xs.length 0 (by omega) (by omega)
  rw [List.take_zero, cns29] at this
  simpa using this
theorem held_ev (n : Nat) : ∀ xs : List S29, hts29 xs ≤ n → cns29 xs ≤ 1048576 → HeldOf xs := by
  induction n with
  | zero =>
    intro xs h hc
    refine held_step xs ?_ (fun x hx => ?_)
    · cases xs with
      | nil => simp
      | cons t ts => rw [hts29] at h; have := ht29_eq t; omega
    · have := hts29_mem hx
      have := ht29_eq x
      omega
  | succ n ih =>
    intro xs h hc
    refine held_step xs (by have := cns29_len xs; omega) (fun x hx => ih x.f3 ?_ ?_)
    · have := hts29_mem hx; have := ht29_eq x; omega
    · have := cns29_mem hx; have := cn29_eq x; omega
end
/-! #### eqTerm, level by level; it tells true of what is the same -/
@[reducible] def d_eq : fk_laws_eqTerm := ⟨fun _ _ _ _ _ _ _ _ _ => none, fun _ _ _ _ _ _ _ _ _ => LeO.none _, by intros; contradiction⟩
@[reducible] def i_eq : Nat → fk_laws_eqTerm
  | 0 => d_eq
  | n + 1 => letI := i_eq n; ⟨laws_eqTerm.f, laws_eqTerm.mono, laws_eqTerm.calls⟩
theorem eqS_ev (n : Nat) (xs : List S29) (hlen : xs.length ≤ 1048576)
    (IH : ∀ x ∈ xs, Ev (fun k => (i_eq n).f k x.f0 x.f1 x.f2 x.f3 x.f0 x.f1 x.f2 x.f3) true) (d : Nat) :
    ∀ (i : Nat), i ≤ xs.length → xs.length - i = d → Ev (fun k => @laws_eqTermS.l0 (i_eq n) k xs xs i) true := by
  induction d with
  | zero =>
    intro i hi hd
    refine Ev.step (f := fun _ => some true) (fun k => ?_) (Ev.now _)
    simp only [laws_eqTermS.l0]; rw [if_neg (by omega)]
  | succ d ih =>
    intro i hi hd
    have hlt : i < xs.length := by omega
    refine Ev.step (f := fun k => ((i_eq n).f k xs[i].f0 xs[i].f1 xs[i].f2 xs[i].f3 xs[i].f0 xs[i].f1 xs[i].f2 xs[i].f3).bind fun b => if b = true then @laws_eqTermS.l0 (i_eq n) k xs xs ((i + 1 : Nat) : Int) else some false) (fun k => ?_) ?_
    · simp only [laws_eqTermS.l0]
      rw [if_pos (by omega), if_pos (by omega), if_pos (by omega), rd29_at xs i hlt, next_i i _ hlt hlen]
    · refine Ev.bind (f := fun k b => if b = true then @laws_eqTermS.l0 (i_eq n) k xs xs ((i + 1 : Nat) : Int) else some false) (IH xs[i] (List.getElem_mem hlt)) ?_
      exact Ev.congr (fun k => if_pos rfl) (ih (i + 1) (by omega) (by omega))
theorem eq_ev (n : Nat) : ∀ (t : S29), ht29 t ≤ n → cn29 t ≤ 1048577 → Ev (fun k => (i_eq n).f k t.f0 t.f1 t.f2 t.f3 t.f0 t.f1 t.f2 t.f3) true := by
  induction n with
  | zero => intro t h; rw [ht29_eq] at h; omega
  | succ n ih =>
    intro t h hc
    rw [ht29_eq] at h
    rw [cn29_eq] at hc
    have hcm : ∀ (ts : List S29), (∀ x ∈ ts, cn29 x ≤ cns29 ts) ∧ ts.length ≤ cns29 ts := by
      intro ts
      induction ts with
      | nil => exact ⟨fun x hx => by simp at hx, by simp⟩
      | cons a l ihl =>
        rw [cns29]
        have := cn29_eq a
        refine ⟨fun x hx => ?_, by simp only [List.length_cons]; have := ihl.2; omega⟩
        rcases List.mem_cons.1 hx with rfl | hx
        · omega
        · have := ihl.1 x hx; omega
    show Ev (fun k => @laws_eqTerm.f (i_eq n) k t.f0 t.f1 t.f2 t.f3 t.f0 t.f1 t.f2 t.f3) _
    unfold laws_eqTerm.f
    refine Ev.congr (fun k => by rw [if_pos rfl, if_pos rfl, if_pos rfl]) ?_
    refine Ev.bind (f := fun _ b => if b = true then some true else some false) (a := true) ?_ (Ev.now _)
    unfold laws_eqTermS.f
    refine Ev.congr (fun k => if_pos rfl) ?_
    exact eqS_ev n t.f3 (by have := (hcm t.f3).2; omega) (fun x hx => ih x (by have := hts29_mem hx; omega) (by have := (hcm t.f3).1 x hx; omega)) t.f3.length 0 (by omega) (by omega)
theorem eqTermS_ev (n : Nat) (xs : List S29) (h : hts29 xs ≤ n) (hc : cns29 xs ≤ 1048576) : Ev (fun k => @laws_eqTermS.f (i_eq n) k xs xs) true := by
  unfold laws_eqTermS.f
  refine Ev.congr (fun k => if_pos rfl) ?_
  exact eqS_ev n xs (by have := cns29_len xs; omega) (fun x hx => eq_ev n x (by have := hts29_mem hx; omega) (by have := cns29_mem hx; omega)) xs.length 0 (by omega) (by omega)
/-! #### what a row tells to who reads it -/
theorem readS {e : Nat} {w : World} {base : Nat} {ok : Nat → Prop} {A : Option Addr} {n c : Nat} {xs : List S29} (h : Kd.S kD29 e w base ok (.slice A n c) xs) : n ≤ c ∧ Kd.C k29 w A n xs := by
  obtain ⟨h1, h2, h3⟩ := Kd.S_reads' h
  rw [h1]
  exact ⟨by omega, kD29_C h3⟩
theorem readR {e : Nat} {w : World} {base : Nat} {ok : Nat → Prop} {A : Option Addr} {n c : Nat} {xs : List S29} (h : k29.R e w base ok (.slice A n c) xs) : n ≤ c ∧ Kd.C k29 w A n xs := by
  obtain ⟨h1, h2, h3⟩ := Kd.R_reads' h
  rw [h1]
  exact ⟨by omega, h3⟩
theorem readV {e : Nat} {w : World} {base : Nat} {ok : Nat → Prop} {A : Option Addr} {n c : Nat} {xs : List S29} (h : Kd.V k29 e w base ok (.slice A n c) xs) : n ≤ c ∧ Kd.C k29 w A n xs := by
  obtain ⟨h1, h2, h3⟩ := Kd.V_reads' h
  rw [h1]
  exact ⟨by omega, h3⟩
/-! #### TermOk, both ways -/
def okByte (c : Int) : Bool := decide (33 ≤ c ∧ c ≤ 126 ∧ c ≠ 39 ∧ c ≠ 34)
def nameB (s : ByteArray) : Bool := ((bytesOf s).all okByte) && decide (1 ≤ (s.size : Int) ∧ (s.size : Int) ≤ 20)
theorem drop_bytes (s : ByteArray) (i : Nat) (h : i < s.size) : (bytesOf s).drop i = bt s i :: (bytesOf s).drop (i + 1) := by
  have hl : i < (bytesOf s).length := by rw [bytesOf_length]; exact h
  rw [List.drop_eq_getElem_cons hl]
  congr 1
  have := rd_bytesOf s i
  unfold rd at this
  rw [← this]
  simp [List.getD, hl]
theorem in_spec (a b c : Int) : spec_l01In.f a b c = some (decide (b ≤ a ∧ a ≤ c)) := by
  unfold spec_l01In.f
  by_cases h : a ≥ b
  · rw [if_pos h]; congr 1; rw [decide_eq_decide]; omega
  · rw [if_neg h]; congr 1; symm; rw [decide_eq_false_iff_not]; omega
theorem in_impl (a b c : Int) : impl_within.f a b c = some (decide (b ≤ a ∧ a ≤ c)) := by
  unfold impl_within.f
  by_cases h : a ≥ b
  · rw [if_pos h]; congr 1; rw [decide_eq_decide]; omega
  · rw [if_neg h]; congr 1; symm; rw [decide_eq_false_iff_not]; omega
theorem name_spec_l (s : ByteArray) (hs : s.size ≤ 1048576) (d : Nat) : ∀ i : Nat, i ≤ s.size → s.size - i = d →
    Ev (fun k => spec_l03Name.l0 k s i) (((bytesOf s).drop i).all okByte && decide (1 ≤ (s.size : Int) ∧ (s.size : Int) ≤ 20)) := by
  induction d with
  | zero =>
    intro i hi hd
    refine Ev.step (f := fun _ => some (decide (1 ≤ (s.size : Int) ∧ (s.size : Int) ≤ 20))) (fun k => ?_) ?_
    · simp only [spec_l03Name.l0]; rw [if_neg (by omega), in_spec]; rfl
    · rw [List.drop_eq_nil_of_le (by rw [bytesOf_length]; omega)]; exact Ev.now _
  | succ d ih =>
    intro i hi hd
    have hlt : i < s.size := by omega
    rw [drop_bytes s i hlt, List.all_cons]
    have hstep : ∀ k, spec_l03Name.l0 (k + 1) s i = if okByte (bt s i) = true then spec_l03Name.l0 k s ((i + 1 : Nat) : Int) else some false := by
      intro k
      simp only [spec_l03Name.l0]
      rw [if_pos (by omega), if_pos (by omega), next_i i _ hlt hs]
      unfold okByte
      simp only [decide_eq_true_eq]
      by_cases c1 : bt s i < 33
      · rw [if_pos c1, if_neg (by omega)]
      · by_cases c2 : bt s i > 126
        · rw [if_neg c1, if_pos c2, if_neg (by omega)]
        · by_cases c3 : bt s i = 39
          · rw [if_neg c1, if_neg c2, if_pos c3, if_neg (by omega)]
          · by_cases c4 : bt s i = 34
            · rw [if_neg c1, if_neg c2, if_neg c3, if_pos c4, if_neg (by omega)]
            · rw [if_neg c1, if_neg c2, if_neg c3, if_neg c4, if_pos (by omega)]
    refine Ev.step hstep ?_
    cases hb : okByte (bt s i) with
    | true =>
      refine Ev.congr (fun k => if_pos rfl) ?_
      rw [Bool.true_and]
      exact ih (i + 1) (by omega) (by omega)
    | false =>
      refine Ev.congr (fun k => if_neg (by simp)) ?_
      rw [Bool.false_and, Bool.false_and]; exact Ev.now _
theorem name_spec (s : ByteArray) (hs : s.size ≤ 1048576) : Ev (fun k => spec_l03Name.f k s) (nameB s) := by
  have := name_spec_l s hs s.size 0 (by omega) (by omega)
  rw [List.drop_zero] at this; exact this
theorem name_impl_l (s : ByteArray) (hs : s.size ≤ 1048576) (d : Nat) : ∀ i : Nat, i ≤ s.size → s.size - i = d →
    Ev (fun k => impl_nameOk.l0 k s i) (((bytesOf s).drop i).all okByte && decide (1 ≤ (s.size : Int) ∧ (s.size : Int) ≤ 20)) := by
  induction d with
  | zero =>
    intro i hi hd
    refine Ev.step (f := fun _ => some (decide (1 ≤ (s.size : Int) ∧ (s.size : Int) ≤ 20))) (fun k => ?_) ?_
    · simp only [impl_nameOk.l0]; rw [if_neg (by omega), in_impl]; rfl
    · rw [List.drop_eq_nil_of_le (by rw [bytesOf_length]; omega)]; exact Ev.now _
  | succ d ih =>
    intro i hi hd
    have hlt : i < s.size := by omega
    rw [drop_bytes s i hlt, List.all_cons]
    have hstep : ∀ k, impl_nameOk.l0 (k + 1) s i = if okByte (bt s i) = true then impl_nameOk.l0 k s ((i + 1 : Nat) : Int) else some false := by
      intro k
      have hbr := bt_range s i
      have hwb : wrap64 (bt s i) = bt s i := t_wrap (by omega) (by omega)
      simp only [impl_nameOk.l0]
      rw [if_pos (by omega), if_pos (by omega), next_i i _ hlt hs, hwb, in_impl]
      clear hwb
      unfold okByte
      simp only [decide_eq_true_eq, Option.bind_some]
      by_cases c1 : 33 ≤ bt s i ∧ bt s i ≤ 126
      · by_cases c3 : bt s i = 39
        · rw [if_pos c1, if_pos c3, if_neg (by omega)]
        · by_cases c4 : bt s i = 34
          · rw [if_pos c1, if_neg c3, if_pos c4, if_neg (by omega)]
          · rw [if_pos c1, if_neg c3, if_neg c4, if_pos (by omega)]
      · rw [if_neg c1, if_neg (by omega)]
    refine Ev.step hstep ?_
    cases hb : okByte (bt s i) with
    | true =>
      refine Ev.congr (fun k => if_pos rfl) ?_
      rw [Bool.true_and]
      exact ih (i + 1) (by omega) (by omega)
    | false =>
      refine Ev.congr (fun k => if_neg (by simp)) ?_
      rw [Bool.false_and, Bool.false_and]; exact Ev.now _
theorem name_impl (s : ByteArray) (hs : s.size ≤ 1048576) : Ev (fun k => impl_nameOk.f k s) (nameB s) := by
  have := name_impl_l s hs s.size 0 (by omega) (by omega)
  rw [List.drop_zero] at this; exact this
/-! #### impl.ErrorTerm: a term made anew -/
section
set_option linter.unusedSectionVars false
variable [fk_laws_eqTerm]
set_option maxHeartbeats 8000000 in
set_option maxRecDepth 100000 in
theorem atom_calls (s : ByteArray) (w : World) : Calls Try.prog 74 #[.string s] w fun e w' => e = .returned (.agg #[.int .i64 2, .string s, .int .i64 0, .slice none 0 0]) ∧ Below w.heap.size w w' := by
  go_enter Try.func74, Try.ntmps74
  go_wp2
  refine bodyPost_ret (results_cell_row rfl _ _ w.heap.size 29 #[.int .i64 2, .string s, .int .i64 0, .slice none 0 0] (0, 0) _ rfl (blk_new w _) Try.underlying29 rfl (by kernel_rfl)) rfl ?_
  exact ⟨rfl, below_alloc (Below.refl _ _) _⟩
set_option maxHeartbeats 8000000 in
set_option maxRecDepth 100000 in
theorem struct_calls (s : ByteArray) (A : Option Addr) (n c : Nat) (w : World) : Calls Try.prog 73 #[.string s, .slice A n c] w fun e w' => e = .returned (.agg #[.int .i64 4, .string s, .int .i64 0, .slice A n c]) ∧ Below w.heap.size w w' := by
  go_enter Try.func73, Try.ntmps73
  go_wp2
  refine bodyPost_ret (results_cell_row rfl _ _ w.heap.size 29 #[.int .i64 4, .string s, .int .i64 0, .slice A n c] (0, 0) _ rfl (blk_new w _) Try.underlying29 rfl (by kernel_rfl)) rfl ?_
  exact ⟨rfl, below_alloc (Below.refl _ _) _⟩
theorem within_calls (a b c : Int) (r : Bool) (w : World) (h : impl_within.f a b c = some r) : Calls Try.prog 71 #[.int .i64 a, .int .i64 b, .int .i64 c] w fun e w' => e = .returned (.bool r) ∧ Below w.heap.size w w' :=
  (impl_within.calls a b c r w h).mono fun e w' hp => ⟨hp.1, by obtain ⟨n, hn⟩ := hp.2.out; rw [hn]; exact pw_below_drewN (Below.refl _ _) n⟩
theorem name_calls (k : Nat) (s : ByteArray) (r : Bool) (w : World) (h : impl_nameOk.f k s = some r) : Calls Try.prog 72 #[.string s] w fun e w' => e = .returned (.bool r) ∧ Below w.heap.size w w' :=
  (impl_nameOk.calls k s r w h).mono fun e w' hp => ⟨hp.1, by obtain ⟨n, hn⟩ := hp.2.out; rw [hn]; exact pw_below_drewN (Below.refl _ _) n⟩
/-- Two leaves made one behind the other, and a row of both. -/
theorem two_leaves (W : World) (base : Nat) (hb : base ≤ W.heap.size) (a b : Int) (s t : ByteArray) : Kd.S kD29 29 (W.alloc (.cells #[.int .i64 a, .string s, .int .i64 0, .slice none 0 0, .int .i64 b, .string t, .int .i64 0, .slice none 0 0] 29)) base (fun _ => True) (.slice (some ⟨W.heap.size, 0, none⟩) 2 2) [⟨a, s, 0, []⟩, ⟨b, t, 0, []⟩] := by
  refine Kd.S_lit_new kD29 W base 29 (xs := [⟨a, s, 0, []⟩, ⟨b, t, 0, []⟩]) (inner := [.int .i64 a, .string s, .int .i64 0, .slice none 0 0, .int .i64 b, .string t, .int .i64 0, .slice none 0 0]) (ok := fun _ => True) (fun _ _ => False) rfl ?_ (fun _ _ _ h => h.elim) (fun _ _ h => h.elim) trivial hb (by simp)
  intro j x hx
  match j with
  | 0 => simp only [List.getElem?_cons_zero, Option.some.injEq] at hx; subst hx; exact kD29_leaf W base _ a s 0
  | 1 => simp only [List.getElem?_cons_succ, List.getElem?_cons_zero, Option.some.injEq] at hx; subst hx; exact kD29_leaf W base _ b t 0
  | j + 2 => simp at hx
def errWord (a : Int) : ByteArray := if a = 1 then ⟨#[105, 110, 115, 116]⟩ else if a = 2 then ⟨#[116, 121, 112, 101]⟩ else if a = 3 then ⟨#[114, 97, 110, 103, 101]⟩ else if a = 4 then ⟨#[122, 101, 114, 111]⟩ else ⟨#[117, 110, 107, 110, 111, 119, 110]⟩
def errName (b : Bool) (s : ByteArray) : ByteArray := if b then s else ⟨#[110, 111, 110, 101]⟩
def errKids (a : Int) (b : Bool) (s : ByteArray) : List S29 := [⟨2, errWord a, 0, []⟩, ⟨2, errName b s, 0, []⟩]
end
section
set_option linter.unusedSectionVars false
variable [fk_laws_eqTerm]
set_option maxHeartbeats 16000000 in
set_option maxRecDepth 100000 in
theorem err_calls (k : Nat) (a : Int) (s : ByteArray) (b : Bool) (w : World) (h : impl_nameOk.f k s = some b) : Calls Try.prog 28 #[.int .i64 a, .string s] w fun e w' => ∃ v, e = .returned (.agg #[.int .i64 4, .string ⟨#[101, 114, 114, 111, 114]⟩, .int .i64 0, v]) ∧ Kd.S kD29 29 w' w.heap.size (fun _ => True) v (errKids a b s) ∧ Below w.heap.size w w' := by
  have hc : (a = 1 ∨ a = 2 ∨ a = 3 ∨ a = 4) ∨ (impl_within.f a 1 4 = some false ∧ errWord a = ⟨#[117, 110, 107, 110, 111, 119, 110]⟩) := by
    by_cases c : a = 1 ∨ a = 2 ∨ a = 3 ∨ a = 4
    · exact .inl c
    · refine .inr ⟨?_, by unfold errWord; rw [if_neg (by omega), if_neg (by omega), if_neg (by omega), if_neg (by omega)]⟩
      unfold impl_within.f
      by_cases c1 : a ≥ 1
      · rw [if_pos c1, decide_eq_false (by omega)]
      · rw [if_neg c1]
  rcases hc with (rfl | rfl | rfl | rfl) | ⟨hw, he⟩
  · cases b
    · go_enter Try.func28, Try.ntmps28
      go_wp2_with (first
        | ((with_reducible refine gate_dst (N := 4) rfl ?_); refine box_event ?hg (N := 4) ?hd (cs := #[.int .i64 0, .string (⟨#[]⟩ : ByteArray), .int .i64 0, .slice none 0 0]) (t := 29) ?hr ?_; (case hd => rfl); (case hg => rfl); (case hr => first | (go_simp; done) | (go_simp; rfl)); intro gb hg w1 hbox hb; have HG := Aside0.mk hg; have BK := Aside0.mk hbox; have HB := Aside0.mk hb; clear hg hbox hb)
        | ((with_reducible refine gate_callee (f := 71) rfl ?_); refine goesL_ (some 7) rfl rfl Try.func71 (by kernel_rfl) rfl #[.int .i64 1, .int .i64 1, .int .i64 4] rfl (by (try simp only [List.map_toArray, List.map_cons, List.map_nil]); first | done | rfl) ?_; (with_reducible refine (within_calls 1 1 4 true _ (show impl_within.f 1 1 4 = some true from rfl)).mono ?_); rintro e w2 ⟨rfl, hb⟩; refine ⟨_, rfl, ?_⟩; have HB' := Aside0.mk (below_step (by first | exact HB.out | exact below_alloc HB.out _) hb); clear HB; have HB := HB'; clear HB'; have BK' := Aside0.mk (blk_below (by first | exact BK.out | exact blk_alloc BK.out _) hb); clear BK hb; have BK := BK'; clear BK')
        | ((with_reducible refine gate_callee (f := 72) rfl ?_); refine goesL_ (some 14) rfl rfl Try.func72 (by kernel_rfl) rfl #[.string s] rfl (by (try simp only [List.map_toArray, List.map_cons, List.map_nil]); first | done | rfl) ?_; (with_reducible refine (name_calls k s false _ h).mono ?_); rintro e w3 ⟨rfl, hb⟩; refine ⟨_, rfl, ?_⟩; have HB' := Aside0.mk (below_step (by first | exact HB.out | exact below_alloc HB.out _) hb); clear HB; have HB := HB'; clear HB'; have BK' := Aside0.mk (blk_below (by first | exact BK.out | exact blk_alloc BK.out _) hb); clear BK hb; have BK := BK'; clear BK')
        | ((with_reducible refine gate_callee (f := 74) rfl ?_); refine goesL_ (some 17) rfl rfl Try.func74 (by kernel_rfl) rfl #[.string ⟨#[105, 110, 115, 116]⟩] rfl (by (try simp only [List.map_toArray, List.map_cons, List.map_nil]); first | done | rfl) ?_; (with_reducible refine (atom_calls ⟨#[105, 110, 115, 116]⟩ _).mono ?_); rintro e w4 ⟨rfl, hb⟩; refine ⟨_, rfl, ?_⟩; have HB' := Aside0.mk (below_step (by first | exact HB.out | exact below_alloc HB.out _) hb); clear HB; have HB := HB'; clear HB'; have BK' := Aside0.mk (blk_below (by first | exact BK.out | exact blk_alloc BK.out _) hb); clear BK hb; have BK := BK'; clear BK')
        | ((with_reducible refine gate_callee (f := 74) rfl ?_); refine goesL_ (some 19) rfl rfl Try.func74 (by kernel_rfl) rfl #[.string ⟨#[110, 111, 110, 101]⟩] rfl (by (try simp only [List.map_toArray, List.map_cons, List.map_nil]); first | done | rfl) ?_; (with_reducible refine (atom_calls ⟨#[110, 111, 110, 101]⟩ _).mono ?_); rintro e w5 ⟨rfl, hb⟩; refine ⟨_, rfl, ?_⟩; have HB' := Aside0.mk (below_step (by first | exact HB.out | exact below_alloc HB.out _) hb); clear HB; have HB := HB'; clear HB'; have BK' := Aside0.mk (blk_below (by first | exact BK.out | exact blk_alloc BK.out _) hb); clear BK hb; have BK := BK'; clear BK')
        | ((with_reducible refine gate_callee (f := 73) rfl ?_); refine goesL_ (some 21) rfl rfl Try.func73 (by kernel_rfl) rfl #[.string ⟨#[101, 114, 114, 111, 114]⟩, .slice (some ⟨w5.heap.size, 0, none⟩) 2 2] rfl (by (try simp only [List.map_toArray, List.map_cons, List.map_nil]); first | done | rfl) ?_; (with_reducible refine (struct_calls ⟨#[101, 114, 114, 111, 114]⟩ (some ⟨w5.heap.size, 0, none⟩) 2 2 _).mono ?_); rintro e w6 ⟨rfl, hb⟩; refine ⟨_, rfl, ?_⟩; have HLT := Aside0.mk (blk_lt BK.out); have HLE := Aside0.mk HB.out.size; have BS := Aside0.mk (Kd.S_mono (ok' := fun k_ => w5.heap.size ≤ k_) (Kd.S_below (Kd.S_bound (two_leaves w5 w5.heap.size (Nat.le_refl _) 2 2 ⟨#[105, 110, 115, 116]⟩ ⟨#[110, 111, 110, 101]⟩)) hb) (fun k_ hk_ => hk_.2.1)); have HB' := Aside0.mk (below_step (below_alloc HB.out _) hb); clear HB; have HB := HB'; clear HB'; have BK' := Aside0.mk (blk_below (blk_alloc BK.out _) hb); clear BK hb; have BK := BK'; clear BK'; have hcz0 : w6.cell? ⟨gb, 0, none⟩ = some (.int .i64 0) := (blk_cell BK.out 0).trans rfl; have hfz0 := blk_frozen BK.out 0; have hcz1 : w6.cell? ⟨gb, 1, none⟩ = some (.string (⟨#[]⟩ : ByteArray)) := (blk_cell BK.out 1).trans rfl; have hfz1 := blk_frozen BK.out 1; have hcz2 : w6.cell? ⟨gb, 2, none⟩ = some (.int .i64 0) := (blk_cell BK.out 2).trans rfl; have hfz2 := blk_frozen BK.out 2; have hcz3 : w6.cell? ⟨gb, 3, none⟩ = some (.slice none 0 0) := (blk_cell BK.out 3).trans rfl; have hfz3 := blk_frozen BK.out 3))
      refine bodyPost_ret (results_cell_row rfl _ _ gb 29 #[.int .i64 4, .string ⟨#[101, 114, 114, 111, 114]⟩, .int .i64 0, .slice (some ⟨w5.heap.size, 0, none⟩) 2 2] (0, 0) _ rfl (by refine blk_put (cs := #[.int .i64 4, .string ⟨#[101, 114, 114, 111, 114]⟩, .int .i64 0, .slice none 0 0]) ?_ 3 _ rfl; refine blk_put (cs := #[.int .i64 4, .string ⟨#[101, 114, 114, 111, 114]⟩, .int .i64 0, .slice none 0 0]) ?_ 2 _ rfl; refine blk_put (cs := #[.int .i64 4, .string (⟨#[]⟩ : ByteArray), .int .i64 0, .slice none 0 0]) ?_ 1 _ rfl; refine blk_put (cs := #[.int .i64 0, .string (⟨#[]⟩ : ByteArray), .int .i64 0, .slice none 0 0]) ?_ 0 _ rfl; exact BK.out) Try.underlying29 rfl (by kernel_rfl)) rfl ?_
      have hg : w.heap.size ≤ gb := by have := HG.out; omega
      refine ⟨_, rfl, ?_, below_set (below_set (below_set (below_set HB.out hg) hg) hg) hg⟩
      rw [show errKids 1 false s = [⟨2, ⟨#[105, 110, 115, 116]⟩, 0, []⟩, ⟨2, ⟨#[110, 111, 110, 101]⟩, 0, []⟩] from rfl]
      have hne : ∀ k_, w5.heap.size ≤ k_ → k_ ≠ gb := fun k_ hk_ e_ => by have := HLT.out; omega
      exact Kd.S_mono (Kd.S_lower (Kd.S_far (p := ⟨gb, 3, none⟩) (Kd.S_far (p := ⟨gb, 2, none⟩) (Kd.S_far (p := ⟨gb, 1, none⟩) (Kd.S_far (p := ⟨gb, 0, none⟩) BS.out hne _) hne _) hne _) hne _) HLE.out) (fun _ _ => trivial)
    · go_enter Try.func28, Try.ntmps28
      go_wp2_with (first
        | ((with_reducible refine gate_dst (N := 4) rfl ?_); refine box_event ?hg (N := 4) ?hd (cs := #[.int .i64 0, .string (⟨#[]⟩ : ByteArray), .int .i64 0, .slice none 0 0]) (t := 29) ?hr ?_; (case hd => rfl); (case hg => rfl); (case hr => first | (go_simp; done) | (go_simp; rfl)); intro gb hg w1 hbox hb; have HG := Aside0.mk hg; have BK := Aside0.mk hbox; have HB := Aside0.mk hb; clear hg hbox hb)
        | ((with_reducible refine gate_callee (f := 71) rfl ?_); refine goesL_ (some 7) rfl rfl Try.func71 (by kernel_rfl) rfl #[.int .i64 1, .int .i64 1, .int .i64 4] rfl (by (try simp only [List.map_toArray, List.map_cons, List.map_nil]); first | done | rfl) ?_; (with_reducible refine (within_calls 1 1 4 true _ (show impl_within.f 1 1 4 = some true from rfl)).mono ?_); rintro e w2 ⟨rfl, hb⟩; refine ⟨_, rfl, ?_⟩; have HB' := Aside0.mk (below_step (by first | exact HB.out | exact below_alloc HB.out _) hb); clear HB; have HB := HB'; clear HB'; have BK' := Aside0.mk (blk_below (by first | exact BK.out | exact blk_alloc BK.out _) hb); clear BK hb; have BK := BK'; clear BK')
        | ((with_reducible refine gate_callee (f := 72) rfl ?_); refine goesL_ (some 14) rfl rfl Try.func72 (by kernel_rfl) rfl #[.string s] rfl (by (try simp only [List.map_toArray, List.map_cons, List.map_nil]); first | done | rfl) ?_; (with_reducible refine (name_calls k s true _ h).mono ?_); rintro e w3 ⟨rfl, hb⟩; refine ⟨_, rfl, ?_⟩; have HB' := Aside0.mk (below_step (by first | exact HB.out | exact below_alloc HB.out _) hb); clear HB; have HB := HB'; clear HB'; have BK' := Aside0.mk (blk_below (by first | exact BK.out | exact blk_alloc BK.out _) hb); clear BK hb; have BK := BK'; clear BK')
        | ((with_reducible refine gate_callee (f := 74) rfl ?_); refine goesL_ (some 17) rfl rfl Try.func74 (by kernel_rfl) rfl #[.string ⟨#[105, 110, 115, 116]⟩] rfl (by (try simp only [List.map_toArray, List.map_cons, List.map_nil]); first | done | rfl) ?_; (with_reducible refine (atom_calls ⟨#[105, 110, 115, 116]⟩ _).mono ?_); rintro e w4 ⟨rfl, hb⟩; refine ⟨_, rfl, ?_⟩; have HB' := Aside0.mk (below_step (by first | exact HB.out | exact below_alloc HB.out _) hb); clear HB; have HB := HB'; clear HB'; have BK' := Aside0.mk (blk_below (by first | exact BK.out | exact blk_alloc BK.out _) hb); clear BK hb; have BK := BK'; clear BK')
        | ((with_reducible refine gate_callee (f := 74) rfl ?_); refine goesL_ (some 19) rfl rfl Try.func74 (by kernel_rfl) rfl #[.string s] rfl (by (try simp only [List.map_toArray, List.map_cons, List.map_nil]); first | done | rfl) ?_; (with_reducible refine (atom_calls s _).mono ?_); rintro e w5 ⟨rfl, hb⟩; refine ⟨_, rfl, ?_⟩; have HB' := Aside0.mk (below_step (by first | exact HB.out | exact below_alloc HB.out _) hb); clear HB; have HB := HB'; clear HB'; have BK' := Aside0.mk (blk_below (by first | exact BK.out | exact blk_alloc BK.out _) hb); clear BK hb; have BK := BK'; clear BK')
        | ((with_reducible refine gate_callee (f := 73) rfl ?_); refine goesL_ (some 21) rfl rfl Try.func73 (by kernel_rfl) rfl #[.string ⟨#[101, 114, 114, 111, 114]⟩, .slice (some ⟨w5.heap.size, 0, none⟩) 2 2] rfl (by (try simp only [List.map_toArray, List.map_cons, List.map_nil]); first | done | rfl) ?_; (with_reducible refine (struct_calls ⟨#[101, 114, 114, 111, 114]⟩ (some ⟨w5.heap.size, 0, none⟩) 2 2 _).mono ?_); rintro e w6 ⟨rfl, hb⟩; refine ⟨_, rfl, ?_⟩; have HLT := Aside0.mk (blk_lt BK.out); have HLE := Aside0.mk HB.out.size; have BS := Aside0.mk (Kd.S_mono (ok' := fun k_ => w5.heap.size ≤ k_) (Kd.S_below (Kd.S_bound (two_leaves w5 w5.heap.size (Nat.le_refl _) 2 2 ⟨#[105, 110, 115, 116]⟩ s)) hb) (fun k_ hk_ => hk_.2.1)); have HB' := Aside0.mk (below_step (below_alloc HB.out _) hb); clear HB; have HB := HB'; clear HB'; have BK' := Aside0.mk (blk_below (blk_alloc BK.out _) hb); clear BK hb; have BK := BK'; clear BK'; have hcz0 : w6.cell? ⟨gb, 0, none⟩ = some (.int .i64 0) := (blk_cell BK.out 0).trans rfl; have hfz0 := blk_frozen BK.out 0; have hcz1 : w6.cell? ⟨gb, 1, none⟩ = some (.string (⟨#[]⟩ : ByteArray)) := (blk_cell BK.out 1).trans rfl; have hfz1 := blk_frozen BK.out 1; have hcz2 : w6.cell? ⟨gb, 2, none⟩ = some (.int .i64 0) := (blk_cell BK.out 2).trans rfl; have hfz2 := blk_frozen BK.out 2; have hcz3 : w6.cell? ⟨gb, 3, none⟩ = some (.slice none 0 0) := (blk_cell BK.out 3).trans rfl; have hfz3 := blk_frozen BK.out 3))
      refine bodyPost_ret (results_cell_row rfl _ _ gb 29 #[.int .i64 4, .string ⟨#[101, 114, 114, 111, 114]⟩, .int .i64 0, .slice (some ⟨w5.heap.size, 0, none⟩) 2 2] (0, 0) _ rfl (by refine blk_put (cs := #[.int .i64 4, .string ⟨#[101, 114, 114, 111, 114]⟩, .int .i64 0, .slice none 0 0]) ?_ 3 _ rfl; refine blk_put (cs := #[.int .i64 4, .string ⟨#[101, 114, 114, 111, 114]⟩, .int .i64 0, .slice none 0 0]) ?_ 2 _ rfl; refine blk_put (cs := #[.int .i64 4, .string (⟨#[]⟩ : ByteArray), .int .i64 0, .slice none 0 0]) ?_ 1 _ rfl; refine blk_put (cs := #[.int .i64 0, .string (⟨#[]⟩ : ByteArray), .int .i64 0, .slice none 0 0]) ?_ 0 _ rfl; exact BK.out) Try.underlying29 rfl (by kernel_rfl)) rfl ?_
      have hg : w.heap.size ≤ gb := by have := HG.out; omega
      refine ⟨_, rfl, ?_, below_set (below_set (below_set (below_set HB.out hg) hg) hg) hg⟩
      rw [show errKids 1 true s = [⟨2, ⟨#[105, 110, 115, 116]⟩, 0, []⟩, ⟨2, s, 0, []⟩] from rfl]
      have hne : ∀ k_, w5.heap.size ≤ k_ → k_ ≠ gb := fun k_ hk_ e_ => by have := HLT.out; omega
      exact Kd.S_mono (Kd.S_lower (Kd.S_far (p := ⟨gb, 3, none⟩) (Kd.S_far (p := ⟨gb, 2, none⟩) (Kd.S_far (p := ⟨gb, 1, none⟩) (Kd.S_far (p := ⟨gb, 0, none⟩) BS.out hne _) hne _) hne _) hne _) HLE.out) (fun _ _ => trivial)
  · cases b
    · go_enter Try.func28, Try.ntmps28
      go_wp2_with (first
        | ((with_reducible refine gate_dst (N := 4) rfl ?_); refine box_event ?hg (N := 4) ?hd (cs := #[.int .i64 0, .string (⟨#[]⟩ : ByteArray), .int .i64 0, .slice none 0 0]) (t := 29) ?hr ?_; (case hd => rfl); (case hg => rfl); (case hr => first | (go_simp; done) | (go_simp; rfl)); intro gb hg w1 hbox hb; have HG := Aside0.mk hg; have BK := Aside0.mk hbox; have HB := Aside0.mk hb; clear hg hbox hb)
        | ((with_reducible refine gate_callee (f := 71) rfl ?_); refine goesL_ (some 7) rfl rfl Try.func71 (by kernel_rfl) rfl #[.int .i64 2, .int .i64 1, .int .i64 4] rfl (by (try simp only [List.map_toArray, List.map_cons, List.map_nil]); first | done | rfl) ?_; (with_reducible refine (within_calls 2 1 4 true _ (show impl_within.f 2 1 4 = some true from rfl)).mono ?_); rintro e w2 ⟨rfl, hb⟩; refine ⟨_, rfl, ?_⟩; have HB' := Aside0.mk (below_step (by first | exact HB.out | exact below_alloc HB.out _) hb); clear HB; have HB := HB'; clear HB'; have BK' := Aside0.mk (blk_below (by first | exact BK.out | exact blk_alloc BK.out _) hb); clear BK hb; have BK := BK'; clear BK')
        | ((with_reducible refine gate_callee (f := 72) rfl ?_); refine goesL_ (some 14) rfl rfl Try.func72 (by kernel_rfl) rfl #[.string s] rfl (by (try simp only [List.map_toArray, List.map_cons, List.map_nil]); first | done | rfl) ?_; (with_reducible refine (name_calls k s false _ h).mono ?_); rintro e w3 ⟨rfl, hb⟩; refine ⟨_, rfl, ?_⟩; have HB' := Aside0.mk (below_step (by first | exact HB.out | exact below_alloc HB.out _) hb); clear HB; have HB := HB'; clear HB'; have BK' := Aside0.mk (blk_below (by first | exact BK.out | exact blk_alloc BK.out _) hb); clear BK hb; have BK := BK'; clear BK')
        | ((with_reducible refine gate_callee (f := 74) rfl ?_); refine goesL_ (some 17) rfl rfl Try.func74 (by kernel_rfl) rfl #[.string ⟨#[116, 121, 112, 101]⟩] rfl (by (try simp only [List.map_toArray, List.map_cons, List.map_nil]); first | done | rfl) ?_; (with_reducible refine (atom_calls ⟨#[116, 121, 112, 101]⟩ _).mono ?_); rintro e w4 ⟨rfl, hb⟩; refine ⟨_, rfl, ?_⟩; have HB' := Aside0.mk (below_step (by first | exact HB.out | exact below_alloc HB.out _) hb); clear HB; have HB := HB'; clear HB'; have BK' := Aside0.mk (blk_below (by first | exact BK.out | exact blk_alloc BK.out _) hb); clear BK hb; have BK := BK'; clear BK')
        | ((with_reducible refine gate_callee (f := 74) rfl ?_); refine goesL_ (some 19) rfl rfl Try.func74 (by kernel_rfl) rfl #[.string ⟨#[110, 111, 110, 101]⟩] rfl (by (try simp only [List.map_toArray, List.map_cons, List.map_nil]); first | done | rfl) ?_; (with_reducible refine (atom_calls ⟨#[110, 111, 110, 101]⟩ _).mono ?_); rintro e w5 ⟨rfl, hb⟩; refine ⟨_, rfl, ?_⟩; have HB' := Aside0.mk (below_step (by first | exact HB.out | exact below_alloc HB.out _) hb); clear HB; have HB := HB'; clear HB'; have BK' := Aside0.mk (blk_below (by first | exact BK.out | exact blk_alloc BK.out _) hb); clear BK hb; have BK := BK'; clear BK')
        | ((with_reducible refine gate_callee (f := 73) rfl ?_); refine goesL_ (some 21) rfl rfl Try.func73 (by kernel_rfl) rfl #[.string ⟨#[101, 114, 114, 111, 114]⟩, .slice (some ⟨w5.heap.size, 0, none⟩) 2 2] rfl (by (try simp only [List.map_toArray, List.map_cons, List.map_nil]); first | done | rfl) ?_; (with_reducible refine (struct_calls ⟨#[101, 114, 114, 111, 114]⟩ (some ⟨w5.heap.size, 0, none⟩) 2 2 _).mono ?_); rintro e w6 ⟨rfl, hb⟩; refine ⟨_, rfl, ?_⟩; have HLT := Aside0.mk (blk_lt BK.out); have HLE := Aside0.mk HB.out.size; have BS := Aside0.mk (Kd.S_mono (ok' := fun k_ => w5.heap.size ≤ k_) (Kd.S_below (Kd.S_bound (two_leaves w5 w5.heap.size (Nat.le_refl _) 2 2 ⟨#[116, 121, 112, 101]⟩ ⟨#[110, 111, 110, 101]⟩)) hb) (fun k_ hk_ => hk_.2.1)); have HB' := Aside0.mk (below_step (below_alloc HB.out _) hb); clear HB; have HB := HB'; clear HB'; have BK' := Aside0.mk (blk_below (blk_alloc BK.out _) hb); clear BK hb; have BK := BK'; clear BK'; have hcz0 : w6.cell? ⟨gb, 0, none⟩ = some (.int .i64 0) := (blk_cell BK.out 0).trans rfl; have hfz0 := blk_frozen BK.out 0; have hcz1 : w6.cell? ⟨gb, 1, none⟩ = some (.string (⟨#[]⟩ : ByteArray)) := (blk_cell BK.out 1).trans rfl; have hfz1 := blk_frozen BK.out 1; have hcz2 : w6.cell? ⟨gb, 2, none⟩ = some (.int .i64 0) := (blk_cell BK.out 2).trans rfl; have hfz2 := blk_frozen BK.out 2; have hcz3 : w6.cell? ⟨gb, 3, none⟩ = some (.slice none 0 0) := (blk_cell BK.out 3).trans rfl; have hfz3 := blk_frozen BK.out 3))
      refine bodyPost_ret (results_cell_row rfl _ _ gb 29 #[.int .i64 4, .string ⟨#[101, 114, 114, 111, 114]⟩, .int .i64 0, .slice (some ⟨w5.heap.size, 0, none⟩) 2 2] (0, 0) _ rfl (by refine blk_put (cs := #[.int .i64 4, .string ⟨#[101, 114, 114, 111, 114]⟩, .int .i64 0, .slice none 0 0]) ?_ 3 _ rfl; refine blk_put (cs := #[.int .i64 4, .string ⟨#[101, 114, 114, 111, 114]⟩, .int .i64 0, .slice none 0 0]) ?_ 2 _ rfl; refine blk_put (cs := #[.int .i64 4, .string (⟨#[]⟩ : ByteArray), .int .i64 0, .slice none 0 0]) ?_ 1 _ rfl; refine blk_put (cs := #[.int .i64 0, .string (⟨#[]⟩ : ByteArray), .int .i64 0, .slice none 0 0]) ?_ 0 _ rfl; exact BK.out) Try.underlying29 rfl (by kernel_rfl)) rfl ?_
      have hg : w.heap.size ≤ gb := by have := HG.out; omega
      refine ⟨_, rfl, ?_, below_set (below_set (below_set (below_set HB.out hg) hg) hg) hg⟩
      rw [show errKids 2 false s = [⟨2, ⟨#[116, 121, 112, 101]⟩, 0, []⟩, ⟨2, ⟨#[110, 111, 110, 101]⟩, 0, []⟩] from rfl]
      have hne : ∀ k_, w5.heap.size ≤ k_ → k_ ≠ gb := fun k_ hk_ e_ => by have := HLT.out; omega
      exact Kd.S_mono (Kd.S_lower (Kd.S_far (p := ⟨gb, 3, none⟩) (Kd.S_far (p := ⟨gb, 2, none⟩) (Kd.S_far (p := ⟨gb, 1, none⟩) (Kd.S_far (p := ⟨gb, 0, none⟩) BS.out hne _) hne _) hne _) hne _) HLE.out) (fun _ _ => trivial)
    · go_enter Try.func28, Try.ntmps28
      go_wp2_with (first
        | ((with_reducible refine gate_dst (N := 4) rfl ?_); refine box_event ?hg (N := 4) ?hd (cs := #[.int .i64 0, .string (⟨#[]⟩ : ByteArray), .int .i64 0, .slice none 0 0]) (t := 29) ?hr ?_; (case hd => rfl); (case hg => rfl); (case hr => first | (go_simp; done) | (go_simp; rfl)); intro gb hg w1 hbox hb; have HG := Aside0.mk hg; have BK := Aside0.mk hbox; have HB := Aside0.mk hb; clear hg hbox hb)
        | ((with_reducible refine gate_callee (f := 71) rfl ?_); refine goesL_ (some 7) rfl rfl Try.func71 (by kernel_rfl) rfl #[.int .i64 2, .int .i64 1, .int .i64 4] rfl (by (try simp only [List.map_toArray, List.map_cons, List.map_nil]); first | done | rfl) ?_; (with_reducible refine (within_calls 2 1 4 true _ (show impl_within.f 2 1 4 = some true from rfl)).mono ?_); rintro e w2 ⟨rfl, hb⟩; refine ⟨_, rfl, ?_⟩; have HB' := Aside0.mk (below_step (by first | exact HB.out | exact below_alloc HB.out _) hb); clear HB; have HB := HB'; clear HB'; have BK' := Aside0.mk (blk_below (by first | exact BK.out | exact blk_alloc BK.out _) hb); clear BK hb; have BK := BK'; clear BK')
        | ((with_reducible refine gate_callee (f := 72) rfl ?_); refine goesL_ (some 14) rfl rfl Try.func72 (by kernel_rfl) rfl #[.string s] rfl (by (try simp only [List.map_toArray, List.map_cons, List.map_nil]); first | done | rfl) ?_; (with_reducible refine (name_calls k s true _ h).mono ?_); rintro e w3 ⟨rfl, hb⟩; refine ⟨_, rfl, ?_⟩; have HB' := Aside0.mk (below_step (by first | exact HB.out | exact below_alloc HB.out _) hb); clear HB; have HB := HB'; clear HB'; have BK' := Aside0.mk (blk_below (by first | exact BK.out | exact blk_alloc BK.out _) hb); clear BK hb; have BK := BK'; clear BK')
        | ((with_reducible refine gate_callee (f := 74) rfl ?_); refine goesL_ (some 17) rfl rfl Try.func74 (by kernel_rfl) rfl #[.string ⟨#[116, 121, 112, 101]⟩] rfl (by (try simp only [List.map_toArray, List.map_cons, List.map_nil]); first | done | rfl) ?_; (with_reducible refine (atom_calls ⟨#[116, 121, 112, 101]⟩ _).mono ?_); rintro e w4 ⟨rfl, hb⟩; refine ⟨_, rfl, ?_⟩; have HB' := Aside0.mk (below_step (by first | exact HB.out | exact below_alloc HB.out _) hb); clear HB; have HB := HB'; clear HB'; have BK' := Aside0.mk (blk_below (by first | exact BK.out | exact blk_alloc BK.out _) hb); clear BK hb; have BK := BK'; clear BK')
        | ((with_reducible refine gate_callee (f := 74) rfl ?_); refine goesL_ (some 19) rfl rfl Try.func74 (by kernel_rfl) rfl #[.string s] rfl (by (try simp only [List.map_toArray, List.map_cons, List.map_nil]); first | done | rfl) ?_; (with_reducible refine (atom_calls s _).mono ?_); rintro e w5 ⟨rfl, hb⟩; refine ⟨_, rfl, ?_⟩; have HB' := Aside0.mk (below_step (by first | exact HB.out | exact below_alloc HB.out _) hb); clear HB; have HB := HB'; clear HB'; have BK' := Aside0.mk (blk_below (by first | exact BK.out | exact blk_alloc BK.out _) hb); clear BK hb; have BK := BK'; clear BK')
        | ((with_reducible refine gate_callee (f := 73) rfl ?_); refine goesL_ (some 21) rfl rfl Try.func73 (by kernel_rfl) rfl #[.string ⟨#[101, 114, 114, 111, 114]⟩, .slice (some ⟨w5.heap.size, 0, none⟩) 2 2] rfl (by (try simp only [List.map_toArray, List.map_cons, List.map_nil]); first | done | rfl) ?_; (with_reducible refine (struct_calls ⟨#[101, 114, 114, 111, 114]⟩ (some ⟨w5.heap.size, 0, none⟩) 2 2 _).mono ?_); rintro e w6 ⟨rfl, hb⟩; refine ⟨_, rfl, ?_⟩; have HLT := Aside0.mk (blk_lt BK.out); have HLE := Aside0.mk HB.out.size; have BS := Aside0.mk (Kd.S_mono (ok' := fun k_ => w5.heap.size ≤ k_) (Kd.S_below (Kd.S_bound (two_leaves w5 w5.heap.size (Nat.le_refl _) 2 2 ⟨#[116, 121, 112, 101]⟩ s)) hb) (fun k_ hk_ => hk_.2.1)); have HB' := Aside0.mk (below_step (below_alloc HB.out _) hb); clear HB; have HB := HB'; clear HB'; have BK' := Aside0.mk (blk_below (blk_alloc BK.out _) hb); clear BK hb; have BK := BK'; clear BK'; have hcz0 : w6.cell? ⟨gb, 0, none⟩ = some (.int .i64 0) := (blk_cell BK.out 0).trans rfl; have hfz0 := blk_frozen BK.out 0; have hcz1 : w6.cell? ⟨gb, 1, none⟩ = some (.string (⟨#[]⟩ : ByteArray)) := (blk_cell BK.out 1).trans rfl; have hfz1 := blk_frozen BK.out 1; have hcz2 : w6.cell? ⟨gb, 2, none⟩ = some (.int .i64 0) := (blk_cell BK.out 2).trans rfl; have hfz2 := blk_frozen BK.out 2; have hcz3 : w6.cell? ⟨gb, 3, none⟩ = some (.slice none 0 0) := (blk_cell BK.out 3).trans rfl; have hfz3 := blk_frozen BK.out 3))
      refine bodyPost_ret (results_cell_row rfl _ _ gb 29 #[.int .i64 4, .string ⟨#[101, 114, 114, 111, 114]⟩, .int .i64 0, .slice (some ⟨w5.heap.size, 0, none⟩) 2 2] (0, 0) _ rfl (by refine blk_put (cs := #[.int .i64 4, .string ⟨#[101, 114, 114, 111, 114]⟩, .int .i64 0, .slice none 0 0]) ?_ 3 _ rfl; refine blk_put (cs := #[.int .i64 4, .string ⟨#[101, 114, 114, 111, 114]⟩, .int .i64 0, .slice none 0 0]) ?_ 2 _ rfl; refine blk_put (cs := #[.int .i64 4, .string (⟨#[]⟩ : ByteArray), .int .i64 0, .slice none 0 0]) ?_ 1 _ rfl; refine blk_put (cs := #[.int .i64 0, .string (⟨#[]⟩ : ByteArray), .int .i64 0, .slice none 0 0]) ?_ 0 _ rfl; exact BK.out) Try.underlying29 rfl (by kernel_rfl)) rfl ?_
      have hg : w.heap.size ≤ gb := by have := HG.out; omega
      refine ⟨_, rfl, ?_, below_set (below_set (below_set (below_set HB.out hg) hg) hg) hg⟩
      rw [show errKids 2 true s = [⟨2, ⟨#[116, 121, 112, 101]⟩, 0, []⟩, ⟨2, s, 0, []⟩] from rfl]
      have hne : ∀ k_, w5.heap.size ≤ k_ → k_ ≠ gb := fun k_ hk_ e_ => by have := HLT.out; omega
      exact Kd.S_mono (Kd.S_lower (Kd.S_far (p := ⟨gb, 3, none⟩) (Kd.S_far (p := ⟨gb, 2, none⟩) (Kd.S_far (p := ⟨gb, 1, none⟩) (Kd.S_far (p := ⟨gb, 0, none⟩) BS.out hne _) hne _) hne _) hne _) HLE.out) (fun _ _ => trivial)
  · cases b
    · go_enter Try.func28, Try.ntmps28
      go_wp2_with (first
        | ((with_reducible refine gate_dst (N := 4) rfl ?_); refine box_event ?hg (N := 4) ?hd (cs := #[.int .i64 0, .string (⟨#[]⟩ : ByteArray), .int .i64 0, .slice none 0 0]) (t := 29) ?hr ?_; (case hd => rfl); (case hg => rfl); (case hr => first | (go_simp; done) | (go_simp; rfl)); intro gb hg w1 hbox hb; have HG := Aside0.mk hg; have BK := Aside0.mk hbox; have HB := Aside0.mk hb; clear hg hbox hb)
        | ((with_reducible refine gate_callee (f := 71) rfl ?_); refine goesL_ (some 7) rfl rfl Try.func71 (by kernel_rfl) rfl #[.int .i64 3, .int .i64 1, .int .i64 4] rfl (by (try simp only [List.map_toArray, List.map_cons, List.map_nil]); first | done | rfl) ?_; (with_reducible refine (within_calls 3 1 4 true _ (show impl_within.f 3 1 4 = some true from rfl)).mono ?_); rintro e w2 ⟨rfl, hb⟩; refine ⟨_, rfl, ?_⟩; have HB' := Aside0.mk (below_step (by first | exact HB.out | exact below_alloc HB.out _) hb); clear HB; have HB := HB'; clear HB'; have BK' := Aside0.mk (blk_below (by first | exact BK.out | exact blk_alloc BK.out _) hb); clear BK hb; have BK := BK'; clear BK')
        | ((with_reducible refine gate_callee (f := 72) rfl ?_); refine goesL_ (some 14) rfl rfl Try.func72 (by kernel_rfl) rfl #[.string s] rfl (by (try simp only [List.map_toArray, List.map_cons, List.map_nil]); first | done | rfl) ?_; (with_reducible refine (name_calls k s false _ h).mono ?_); rintro e w3 ⟨rfl, hb⟩; refine ⟨_, rfl, ?_⟩; have HB' := Aside0.mk (below_step (by first | exact HB.out | exact below_alloc HB.out _) hb); clear HB; have HB := HB'; clear HB'; have BK' := Aside0.mk (blk_below (by first | exact BK.out | exact blk_alloc BK.out _) hb); clear BK hb; have BK := BK'; clear BK')
        | ((with_reducible refine gate_callee (f := 74) rfl ?_); refine goesL_ (some 17) rfl rfl Try.func74 (by kernel_rfl) rfl #[.string ⟨#[114, 97, 110, 103, 101]⟩] rfl (by (try simp only [List.map_toArray, List.map_cons, List.map_nil]); first | done | rfl) ?_; (with_reducible refine (atom_calls ⟨#[114, 97, 110, 103, 101]⟩ _).mono ?_); rintro e w4 ⟨rfl, hb⟩; refine ⟨_, rfl, ?_⟩; have HB' := Aside0.mk (below_step (by first | exact HB.out | exact below_alloc HB.out _) hb); clear HB; have HB := HB'; clear HB'; have BK' := Aside0.mk (blk_below (by first | exact BK.out | exact blk_alloc BK.out _) hb); clear BK hb; have BK := BK'; clear BK')
        | ((with_reducible refine gate_callee (f := 74) rfl ?_); refine goesL_ (some 19) rfl rfl Try.func74 (by kernel_rfl) rfl #[.string ⟨#[110, 111, 110, 101]⟩] rfl (by (try simp only [List.map_toArray, List.map_cons, List.map_nil]); first | done | rfl) ?_; (with_reducible refine (atom_calls ⟨#[110, 111, 110, 101]⟩ _).mono ?_); rintro e w5 ⟨rfl, hb⟩; refine ⟨_, rfl, ?_⟩; have HB' := Aside0.mk (below_step (by first | exact HB.out | exact below_alloc HB.out _) hb); clear HB; have HB := HB'; clear HB'; have BK' := Aside0.mk (blk_below (by first | exact BK.out | exact blk_alloc BK.out _) hb); clear BK hb; have BK := BK'; clear BK')
        | ((with_reducible refine gate_callee (f := 73) rfl ?_); refine goesL_ (some 21) rfl rfl Try.func73 (by kernel_rfl) rfl #[.string ⟨#[101, 114, 114, 111, 114]⟩, .slice (some ⟨w5.heap.size, 0, none⟩) 2 2] rfl (by (try simp only [List.map_toArray, List.map_cons, List.map_nil]); first | done | rfl) ?_; (with_reducible refine (struct_calls ⟨#[101, 114, 114, 111, 114]⟩ (some ⟨w5.heap.size, 0, none⟩) 2 2 _).mono ?_); rintro e w6 ⟨rfl, hb⟩; refine ⟨_, rfl, ?_⟩; have HLT := Aside0.mk (blk_lt BK.out); have HLE := Aside0.mk HB.out.size; have BS := Aside0.mk (Kd.S_mono (ok' := fun k_ => w5.heap.size ≤ k_) (Kd.S_below (Kd.S_bound (two_leaves w5 w5.heap.size (Nat.le_refl _) 2 2 ⟨#[114, 97, 110, 103, 101]⟩ ⟨#[110, 111, 110, 101]⟩)) hb) (fun k_ hk_ => hk_.2.1)); have HB' := Aside0.mk (below_step (below_alloc HB.out _) hb); clear HB; have HB := HB'; clear HB'; have BK' := Aside0.mk (blk_below (blk_alloc BK.out _) hb); clear BK hb; have BK := BK'; clear BK'; have hcz0 : w6.cell? ⟨gb, 0, none⟩ = some (.int .i64 0) := (blk_cell BK.out 0).trans rfl; have hfz0 := blk_frozen BK.out 0; have hcz1 : w6.cell? ⟨gb, 1, none⟩ = some (.string (⟨#[]⟩ : ByteArray)) := (blk_cell BK.out 1).trans rfl; have hfz1 := blk_frozen BK.out 1; have hcz2 : w6.cell? ⟨gb, 2, none⟩ = some (.int .i64 0) := (blk_cell BK.out 2).trans rfl; have hfz2 := blk_frozen BK.out 2; have hcz3 : w6.cell? ⟨gb, 3, none⟩ = some (.slice none 0 0) := (blk_cell BK.out 3).trans rfl; have hfz3 := blk_frozen BK.out 3))
      refine bodyPost_ret (results_cell_row rfl _ _ gb 29 #[.int .i64 4, .string ⟨#[101, 114, 114, 111, 114]⟩, .int .i64 0, .slice (some ⟨w5.heap.size, 0, none⟩) 2 2] (0, 0) _ rfl (by refine blk_put (cs := #[.int .i64 4, .string ⟨#[101, 114, 114, 111, 114]⟩, .int .i64 0, .slice none 0 0]) ?_ 3 _ rfl; refine blk_put (cs := #[.int .i64 4, .string ⟨#[101, 114, 114, 111, 114]⟩, .int .i64 0, .slice none 0 0]) ?_ 2 _ rfl; refine blk_put (cs := #[.int .i64 4, .string (⟨#[]⟩ : ByteArray), .int .i64 0, .slice none 0 0]) ?_ 1 _ rfl; refine blk_put (cs := #[.int .i64 0, .string (⟨#[]⟩ : ByteArray), .int .i64 0, .slice none 0 0]) ?_ 0 _ rfl; exact BK.out) Try.underlying29 rfl (by kernel_rfl)) rfl ?_
      have hg : w.heap.size ≤ gb := by have := HG.out; omega
      refine ⟨_, rfl, ?_, below_set (below_set (below_set (below_set HB.out hg) hg) hg) hg⟩
      rw [show errKids 3 false s = [⟨2, ⟨#[114, 97, 110, 103, 101]⟩, 0, []⟩, ⟨2, ⟨#[110, 111, 110, 101]⟩, 0, []⟩] from rfl]
      have hne : ∀ k_, w5.heap.size ≤ k_ → k_ ≠ gb := fun k_ hk_ e_ => by have := HLT.out; omega
      exact Kd.S_mono (Kd.S_lower (Kd.S_far (p := ⟨gb, 3, none⟩) (Kd.S_far (p := ⟨gb, 2, none⟩) (Kd.S_far (p := ⟨gb, 1, none⟩) (Kd.S_far (p := ⟨gb, 0, none⟩) BS.out hne _) hne _) hne _) hne _) HLE.out) (fun _ _ => trivial)
    · go_enter Try.func28, Try.ntmps28
      go_wp2_with (first
        | ((with_reducible refine gate_dst (N := 4) rfl ?_); refine box_event ?hg (N := 4) ?hd (cs := #[.int .i64 0, .string (⟨#[]⟩ : ByteArray), .int .i64 0, .slice none 0 0]) (t := 29) ?hr ?_; (case hd => rfl); (case hg => rfl); (case hr => first | (go_simp; done) | (go_simp; rfl)); intro gb hg w1 hbox hb; have HG := Aside0.mk hg; have BK := Aside0.mk hbox; have HB := Aside0.mk hb; clear hg hbox hb)
        | ((with_reducible refine gate_callee (f := 71) rfl ?_); refine goesL_ (some 7) rfl rfl Try.func71 (by kernel_rfl) rfl #[.int .i64 3, .int .i64 1, .int .i64 4] rfl (by (try simp only [List.map_toArray, List.map_cons, List.map_nil]); first | done | rfl) ?_; (with_reducible refine (within_calls 3 1 4 true _ (show impl_within.f 3 1 4 = some true from rfl)).mono ?_); rintro e w2 ⟨rfl, hb⟩; refine ⟨_, rfl, ?_⟩; have HB' := Aside0.mk (below_step (by first | exact HB.out | exact below_alloc HB.out _) hb); clear HB; have HB := HB'; clear HB'; have BK' := Aside0.mk (blk_below (by first | exact BK.out | exact blk_alloc BK.out _) hb); clear BK hb; have BK := BK'; clear BK')
        | ((with_reducible refine gate_callee (f := 72) rfl ?_); refine goesL_ (some 14) rfl rfl Try.func72 (by kernel_rfl) rfl #[.string s] rfl (by (try simp only [List.map_toArray, List.map_cons, List.map_nil]); first | done | rfl) ?_; (with_reducible refine (name_calls k s true _ h).mono ?_); rintro e w3 ⟨rfl, hb⟩; refine ⟨_, rfl, ?_⟩; have HB' := Aside0.mk (below_step (by first | exact HB.out | exact below_alloc HB.out _) hb); clear HB; have HB := HB'; clear HB'; have BK' := Aside0.mk (blk_below (by first | exact BK.out | exact blk_alloc BK.out _) hb); clear BK hb; have BK := BK'; clear BK')
        | ((with_reducible refine gate_callee (f := 74) rfl ?_); refine goesL_ (some 17) rfl rfl Try.func74 (by kernel_rfl) rfl #[.string ⟨#[114, 97, 110, 103, 101]⟩] rfl (by (try simp only [List.map_toArray, List.map_cons, List.map_nil]); first | done | rfl) ?_; (with_reducible refine (atom_calls ⟨#[114, 97, 110, 103, 101]⟩ _).mono ?_); rintro e w4 ⟨rfl, hb⟩; refine ⟨_, rfl, ?_⟩; have HB' := Aside0.mk (below_step (by first | exact HB.out | exact below_alloc HB.out _) hb); clear HB; have HB := HB'; clear HB'; have BK' := Aside0.mk (blk_below (by first | exact BK.out | exact blk_alloc BK.out _) hb); clear BK hb; have BK := BK'; clear BK')
        | ((with_reducible refine gate_callee (f := 74) rfl ?_); refine goesL_ (some 19) rfl rfl Try.func74 (by kernel_rfl) rfl #[.string s] rfl (by (try simp only [List.map_toArray, List.map_cons, List.map_nil]); first | done | rfl) ?_; (with_reducible refine (atom_calls s _).mono ?_); rintro e w5 ⟨rfl, hb⟩; refine ⟨_, rfl, ?_⟩; have HB' := Aside0.mk (below_step (by first | exact HB.out | exact below_alloc HB.out _) hb); clear HB; have HB := HB'; clear HB'; have BK' := Aside0.mk (blk_below (by first | exact BK.out | exact blk_alloc BK.out _) hb); clear BK hb; have BK := BK'; clear BK')
        | ((with_reducible refine gate_callee (f := 73) rfl ?_); refine goesL_ (some 21) rfl rfl Try.func73 (by kernel_rfl) rfl #[.string ⟨#[101, 114, 114, 111, 114]⟩, .slice (some ⟨w5.heap.size, 0, none⟩) 2 2] rfl (by (try simp only [List.map_toArray, List.map_cons, List.map_nil]); first | done | rfl) ?_; (with_reducible refine (struct_calls ⟨#[101, 114, 114, 111, 114]⟩ (some ⟨w5.heap.size, 0, none⟩) 2 2 _).mono ?_); rintro e w6 ⟨rfl, hb⟩; refine ⟨_, rfl, ?_⟩; have HLT := Aside0.mk (blk_lt BK.out); have HLE := Aside0.mk HB.out.size; have BS := Aside0.mk (Kd.S_mono (ok' := fun k_ => w5.heap.size ≤ k_) (Kd.S_below (Kd.S_bound (two_leaves w5 w5.heap.size (Nat.le_refl _) 2 2 ⟨#[114, 97, 110, 103, 101]⟩ s)) hb) (fun k_ hk_ => hk_.2.1)); have HB' := Aside0.mk (below_step (below_alloc HB.out _) hb); clear HB; have HB := HB'; clear HB'; have BK' := Aside0.mk (blk_below (blk_alloc BK.out _) hb); clear BK hb; have BK := BK'; clear BK'; have hcz0 : w6.cell? ⟨gb, 0, none⟩ = some (.int .i64 0) := (blk_cell BK.out 0).trans rfl; have hfz0 := blk_frozen BK.out 0; have hcz1 : w6.cell? ⟨gb, 1, none⟩ = some (.string (⟨#[]⟩ : ByteArray)) := (blk_cell BK.out 1).trans rfl; have hfz1 := blk_frozen BK.out 1; have hcz2 : w6.cell? ⟨gb, 2, none⟩ = some (.int .i64 0) := (blk_cell BK.out 2).trans rfl; have hfz2 := blk_frozen BK.out 2; have hcz3 : w6.cell? ⟨gb, 3, none⟩ = some (.slice none 0 0) := (blk_cell BK.out 3).trans rfl; have hfz3 := blk_frozen BK.out 3))
      refine bodyPost_ret (results_cell_row rfl _ _ gb 29 #[.int .i64 4, .string ⟨#[101, 114, 114, 111, 114]⟩, .int .i64 0, .slice (some ⟨w5.heap.size, 0, none⟩) 2 2] (0, 0) _ rfl (by refine blk_put (cs := #[.int .i64 4, .string ⟨#[101, 114, 114, 111, 114]⟩, .int .i64 0, .slice none 0 0]) ?_ 3 _ rfl; refine blk_put (cs := #[.int .i64 4, .string ⟨#[101, 114, 114, 111, 114]⟩, .int .i64 0, .slice none 0 0]) ?_ 2 _ rfl; refine blk_put (cs := #[.int .i64 4, .string (⟨#[]⟩ : ByteArray), .int .i64 0, .slice none 0 0]) ?_ 1 _ rfl; refine blk_put (cs := #[.int .i64 0, .string (⟨#[]⟩ : ByteArray), .int .i64 0, .slice none 0 0]) ?_ 0 _ rfl; exact BK.out) Try.underlying29 rfl (by kernel_rfl)) rfl ?_
      have hg : w.heap.size ≤ gb := by have := HG.out; omega
      refine ⟨_, rfl, ?_, below_set (below_set (below_set (below_set HB.out hg) hg) hg) hg⟩
      rw [show errKids 3 true s = [⟨2, ⟨#[114, 97, 110, 103, 101]⟩, 0, []⟩, ⟨2, s, 0, []⟩] from rfl]
      have hne : ∀ k_, w5.heap.size ≤ k_ → k_ ≠ gb := fun k_ hk_ e_ => by have := HLT.out; omega
      exact Kd.S_mono (Kd.S_lower (Kd.S_far (p := ⟨gb, 3, none⟩) (Kd.S_far (p := ⟨gb, 2, none⟩) (Kd.S_far (p := ⟨gb, 1, none⟩) (Kd.S_far (p := ⟨gb, 0, none⟩) BS.out hne _) hne _) hne _) hne _) HLE.out) (fun _ _ => trivial)
  · cases b
    · go_enter Try.func28, Try.ntmps28
      go_wp2_with (first
        | ((with_reducible refine gate_dst (N := 4) rfl ?_); refine box_event ?hg (N := 4) ?hd (cs := #[.int .i64 0, .string (⟨#[]⟩ : ByteArray), .int .i64 0, .slice none 0 0]) (t := 29) ?hr ?_; (case hd => rfl); (case hg => rfl); (case hr => first | (go_simp; done) | (go_simp; rfl)); intro gb hg w1 hbox hb; have HG := Aside0.mk hg; have BK := Aside0.mk hbox; have HB := Aside0.mk hb; clear hg hbox hb)
        | ((with_reducible refine gate_callee (f := 71) rfl ?_); refine goesL_ (some 7) rfl rfl Try.func71 (by kernel_rfl) rfl #[.int .i64 4, .int .i64 1, .int .i64 4] rfl (by (try simp only [List.map_toArray, List.map_cons, List.map_nil]); first | done | rfl) ?_; (with_reducible refine (within_calls 4 1 4 true _ (show impl_within.f 4 1 4 = some true from rfl)).mono ?_); rintro e w2 ⟨rfl, hb⟩; refine ⟨_, rfl, ?_⟩; have HB' := Aside0.mk (below_step (by first | exact HB.out | exact below_alloc HB.out _) hb); clear HB; have HB := HB'; clear HB'; have BK' := Aside0.mk (blk_below (by first | exact BK.out | exact blk_alloc BK.out _) hb); clear BK hb; have BK := BK'; clear BK')
        | ((with_reducible refine gate_callee (f := 72) rfl ?_); refine goesL_ (some 14) rfl rfl Try.func72 (by kernel_rfl) rfl #[.string s] rfl (by (try simp only [List.map_toArray, List.map_cons, List.map_nil]); first | done | rfl) ?_; (with_reducible refine (name_calls k s false _ h).mono ?_); rintro e w3 ⟨rfl, hb⟩; refine ⟨_, rfl, ?_⟩; have HB' := Aside0.mk (below_step (by first | exact HB.out | exact below_alloc HB.out _) hb); clear HB; have HB := HB'; clear HB'; have BK' := Aside0.mk (blk_below (by first | exact BK.out | exact blk_alloc BK.out _) hb); clear BK hb; have BK := BK'; clear BK')
        | ((with_reducible refine gate_callee (f := 74) rfl ?_); refine goesL_ (some 17) rfl rfl Try.func74 (by kernel_rfl) rfl #[.string ⟨#[122, 101, 114, 111]⟩] rfl (by (try simp only [List.map_toArray, List.map_cons, List.map_nil]); first | done | rfl) ?_; (with_reducible refine (atom_calls ⟨#[122, 101, 114, 111]⟩ _).mono ?_); rintro e w4 ⟨rfl, hb⟩; refine ⟨_, rfl, ?_⟩; have HB' := Aside0.mk (below_step (by first | exact HB.out | exact below_alloc HB.out _) hb); clear HB; have HB := HB'; clear HB'; have BK' := Aside0.mk (blk_below (by first | exact BK.out | exact blk_alloc BK.out _) hb); clear BK hb; have BK := BK'; clear BK')
        | ((with_reducible refine gate_callee (f := 74) rfl ?_); refine goesL_ (some 19) rfl rfl Try.func74 (by kernel_rfl) rfl #[.string ⟨#[110, 111, 110, 101]⟩] rfl (by (try simp only [List.map_toArray, List.map_cons, List.map_nil]); first | done | rfl) ?_; (with_reducible refine (atom_calls ⟨#[110, 111, 110, 101]⟩ _).mono ?_); rintro e w5 ⟨rfl, hb⟩; refine ⟨_, rfl, ?_⟩; have HB' := Aside0.mk (below_step (by first | exact HB.out | exact below_alloc HB.out _) hb); clear HB; have HB := HB'; clear HB'; have BK' := Aside0.mk (blk_below (by first | exact BK.out | exact blk_alloc BK.out _) hb); clear BK hb; have BK := BK'; clear BK')
        | ((with_reducible refine gate_callee (f := 73) rfl ?_); refine goesL_ (some 21) rfl rfl Try.func73 (by kernel_rfl) rfl #[.string ⟨#[101, 114, 114, 111, 114]⟩, .slice (some ⟨w5.heap.size, 0, none⟩) 2 2] rfl (by (try simp only [List.map_toArray, List.map_cons, List.map_nil]); first | done | rfl) ?_; (with_reducible refine (struct_calls ⟨#[101, 114, 114, 111, 114]⟩ (some ⟨w5.heap.size, 0, none⟩) 2 2 _).mono ?_); rintro e w6 ⟨rfl, hb⟩; refine ⟨_, rfl, ?_⟩; have HLT := Aside0.mk (blk_lt BK.out); have HLE := Aside0.mk HB.out.size; have BS := Aside0.mk (Kd.S_mono (ok' := fun k_ => w5.heap.size ≤ k_) (Kd.S_below (Kd.S_bound (two_leaves w5 w5.heap.size (Nat.le_refl _) 2 2 ⟨#[122, 101, 114, 111]⟩ ⟨#[110, 111, 110, 101]⟩)) hb) (fun k_ hk_ => hk_.2.1)); have HB' := Aside0.mk (below_step (below_alloc HB.out _) hb); clear HB; have HB := HB'; clear HB'; have BK' := Aside0.mk (blk_below (blk_alloc BK.out _) hb); clear BK hb; have BK := BK'; clear BK'; have hcz0 : w6.cell? ⟨gb, 0, none⟩ = some (.int .i64 0) := (blk_cell BK.out 0).trans rfl; have hfz0 := blk_frozen BK.out 0; have hcz1 : w6.cell? ⟨gb, 1, none⟩ = some (.string (⟨#[]⟩ : ByteArray)) := (blk_cell BK.out 1).trans rfl; have hfz1 := blk_frozen BK.out 1; have hcz2 : w6.cell? ⟨gb, 2, none⟩ = some (.int .i64 0) := (blk_cell BK.out 2).trans rfl; have hfz2 := blk_frozen BK.out 2; have hcz3 : w6.cell? ⟨gb, 3, none⟩ = some (.slice none 0 0) := (blk_cell BK.out 3).trans rfl; have hfz3 := blk_frozen BK.out 3))
      refine bodyPost_ret (results_cell_row rfl _ _ gb 29 #[.int .i64 4, .string ⟨#[101, 114, 114, 111, 114]⟩, .int .i64 0, .slice (some ⟨w5.heap.size, 0, none⟩) 2 2] (0, 0) _ rfl (by refine blk_put (cs := #[.int .i64 4, .string ⟨#[101, 114, 114, 111, 114]⟩, .int .i64 0, .slice none 0 0]) ?_ 3 _ rfl; refine blk_put (cs := #[.int .i64 4, .string ⟨#[101, 114, 114, 111, 114]⟩, .int .i64 0, .slice none 0 0]) ?_ 2 _ rfl; refine blk_put (cs := #[.int .i64 4, .string (⟨#[]⟩ : ByteArray), .int .i64 0, .slice none 0 0]) ?_ 1 _ rfl; refine blk_put (cs := #[.int .i64 0, .string (⟨#[]⟩ : ByteArray), .int .i64 0, .slice none 0 0]) ?_ 0 _ rfl; exact BK.out) Try.underlying29 rfl (by kernel_rfl)) rfl ?_
      have hg : w.heap.size ≤ gb := by have := HG.out; omega
      refine ⟨_, rfl, ?_, below_set (below_set (below_set (below_set HB.out hg) hg) hg) hg⟩
      rw [show errKids 4 false s = [⟨2, ⟨#[122, 101, 114, 111]⟩, 0, []⟩, ⟨2, ⟨#[110, 111, 110, 101]⟩, 0, []⟩] from rfl]
      have hne : ∀ k_, w5.heap.size ≤ k_ → k_ ≠ gb := fun k_ hk_ e_ => by have := HLT.out; omega
      exact Kd.S_mono (Kd.S_lower (Kd.S_far (p := ⟨gb, 3, none⟩) (Kd.S_far (p := ⟨gb, 2, none⟩) (Kd.S_far (p := ⟨gb, 1, none⟩) (Kd.S_far (p := ⟨gb, 0, none⟩) BS.out hne _) hne _) hne _) hne _) HLE.out) (fun _ _ => trivial)
    · go_enter Try.func28, Try.ntmps28
      go_wp2_with (first
        | ((with_reducible refine gate_dst (N := 4) rfl ?_); refine box_event ?hg (N := 4) ?hd (cs := #[.int .i64 0, .string (⟨#[]⟩ : ByteArray), .int .i64 0, .slice none 0 0]) (t := 29) ?hr ?_; (case hd => rfl); (case hg => rfl); (case hr => first | (go_simp; done) | (go_simp; rfl)); intro gb hg w1 hbox hb; have HG := Aside0.mk hg; have BK := Aside0.mk hbox; have HB := Aside0.mk hb; clear hg hbox hb)
        | ((with_reducible refine gate_callee (f := 71) rfl ?_); refine goesL_ (some 7) rfl rfl Try.func71 (by kernel_rfl) rfl #[.int .i64 4, .int .i64 1, .int .i64 4] rfl (by (try simp only [List.map_toArray, List.map_cons, List.map_nil]); first | done | rfl) ?_; (with_reducible refine (within_calls 4 1 4 true _ (show impl_within.f 4 1 4 = some true from rfl)).mono ?_); rintro e w2 ⟨rfl, hb⟩; refine ⟨_, rfl, ?_⟩; have HB' := Aside0.mk (below_step (by first | exact HB.out | exact below_alloc HB.out _) hb); clear HB; have HB := HB'; clear HB'; have BK' := Aside0.mk (blk_below (by first | exact BK.out | exact blk_alloc BK.out _) hb); clear BK hb; have BK := BK'; clear BK')
        | ((with_reducible refine gate_callee (f := 72) rfl ?_); refine goesL_ (some 14) rfl rfl Try.func72 (by kernel_rfl) rfl #[.string s] rfl (by (try simp only [List.map_toArray, List.map_cons, List.map_nil]); first | done | rfl) ?_; (with_reducible refine (name_calls k s true _ h).mono ?_); rintro e w3 ⟨rfl, hb⟩; refine ⟨_, rfl, ?_⟩; have HB' := Aside0.mk (below_step (by first | exact HB.out | exact below_alloc HB.out _) hb); clear HB; have HB := HB'; clear HB'; have BK' := Aside0.mk (blk_below (by first | exact BK.out | exact blk_alloc BK.out _) hb); clear BK hb; have BK := BK'; clear BK')
        | ((with_reducible refine gate_callee (f := 74) rfl ?_); refine goesL_ (some 17) rfl rfl Try.func74 (by kernel_rfl) rfl #[.string ⟨#[122, 101, 114, 111]⟩] rfl (by (try simp only [List.map_toArray, List.map_cons, List.map_nil]); first | done | rfl) ?_; (with_reducible refine (atom_calls ⟨#[122, 101, 114, 111]⟩ _).mono ?_); rintro e w4 ⟨rfl, hb⟩; refine ⟨_, rfl, ?_⟩; have HB' := Aside0.mk (below_step (by first | exact HB.out | exact below_alloc HB.out _) hb); clear HB; have HB := HB'; clear HB'; have BK' := Aside0.mk (blk_below (by first | exact BK.out | exact blk_alloc BK.out _) hb); clear BK hb; have BK := BK'; clear BK')
        | ((with_reducible refine gate_callee (f := 74) rfl ?_); refine goesL_ (some 19) rfl rfl Try.func74 (by kernel_rfl) rfl #[.string s] rfl (by (try simp only [List.map_toArray, List.map_cons, List.map_nil]); first | done | rfl) ?_; (with_reducible refine (atom_calls s _).mono ?_); rintro e w5 ⟨rfl, hb⟩; refine ⟨_, rfl, ?_⟩; have HB' := Aside0.mk (below_step (by first | exact HB.out | exact below_alloc HB.out _) hb); clear HB; have HB := HB'; clear HB'; have BK' := Aside0.mk (blk_below (by first | exact BK.out | exact blk_alloc BK.out _) hb); clear BK hb; have BK := BK'; clear BK')
        | ((with_reducible refine gate_callee (f := 73) rfl ?_); refine goesL_ (some 21) rfl rfl Try.func73 (by kernel_rfl) rfl #[.string ⟨#[101, 114, 114, 111, 114]⟩, .slice (some ⟨w5.heap.size, 0, none⟩) 2 2] rfl (by (try simp only [List.map_toArray, List.map_cons, List.map_nil]); first | done | rfl) ?_; (with_reducible refine (struct_calls ⟨#[101, 114, 114, 111, 114]⟩ (some ⟨w5.heap.size, 0, none⟩) 2 2 _).mono ?_); rintro e w6 ⟨rfl, hb⟩; refine ⟨_, rfl, ?_⟩; have HLT := Aside0.mk (blk_lt BK.out); have HLE := Aside0.mk HB.out.size; have BS := Aside0.mk (Kd.S_mono (ok' := fun k_ => w5.heap.size ≤ k_) (Kd.S_below (Kd.S_bound (two_leaves w5 w5.heap.size (Nat.le_refl _) 2 2 ⟨#[122, 101, 114, 111]⟩ s)) hb) (fun k_ hk_ => hk_.2.1)); have HB' := Aside0.mk (below_step (below_alloc HB.out _) hb); clear HB; have HB := HB'; clear HB'; have BK' := Aside0.mk (blk_below (blk_alloc BK.out _) hb); clear BK hb; have BK := BK'; clear BK'; have hcz0 : w6.cell? ⟨gb, 0, none⟩ = some (.int .i64 0) := (blk_cell BK.out 0).trans rfl; have hfz0 := blk_frozen BK.out 0; have hcz1 : w6.cell? ⟨gb, 1, none⟩ = some (.string (⟨#[]⟩ : ByteArray)) := (blk_cell BK.out 1).trans rfl; have hfz1 := blk_frozen BK.out 1; have hcz2 : w6.cell? ⟨gb, 2, none⟩ = some (.int .i64 0) := (blk_cell BK.out 2).trans rfl; have hfz2 := blk_frozen BK.out 2; have hcz3 : w6.cell? ⟨gb, 3, none⟩ = some (.slice none 0 0) := (blk_cell BK.out 3).trans rfl; have hfz3 := blk_frozen BK.out 3))
      refine bodyPost_ret (results_cell_row rfl _ _ gb 29 #[.int .i64 4, .string ⟨#[101, 114, 114, 111, 114]⟩, .int .i64 0, .slice (some ⟨w5.heap.size, 0, none⟩) 2 2] (0, 0) _ rfl (by refine blk_put (cs := #[.int .i64 4, .string ⟨#[101, 114, 114, 111, 114]⟩, .int .i64 0, .slice none 0 0]) ?_ 3 _ rfl; refine blk_put (cs := #[.int .i64 4, .string ⟨#[101, 114, 114, 111, 114]⟩, .int .i64 0, .slice none 0 0]) ?_ 2 _ rfl; refine blk_put (cs := #[.int .i64 4, .string (⟨#[]⟩ : ByteArray), .int .i64 0, .slice none 0 0]) ?_ 1 _ rfl; refine blk_put (cs := #[.int .i64 0, .string (⟨#[]⟩ : ByteArray), .int .i64 0, .slice none 0 0]) ?_ 0 _ rfl; exact BK.out) Try.underlying29 rfl (by kernel_rfl)) rfl ?_
      have hg : w.heap.size ≤ gb := by have := HG.out; omega
      refine ⟨_, rfl, ?_, below_set (below_set (below_set (below_set HB.out hg) hg) hg) hg⟩
      rw [show errKids 4 true s = [⟨2, ⟨#[122, 101, 114, 111]⟩, 0, []⟩, ⟨2, s, 0, []⟩] from rfl]
      have hne : ∀ k_, w5.heap.size ≤ k_ → k_ ≠ gb := fun k_ hk_ e_ => by have := HLT.out; omega
      exact Kd.S_mono (Kd.S_lower (Kd.S_far (p := ⟨gb, 3, none⟩) (Kd.S_far (p := ⟨gb, 2, none⟩) (Kd.S_far (p := ⟨gb, 1, none⟩) (Kd.S_far (p := ⟨gb, 0, none⟩) BS.out hne _) hne _) hne _) hne _) HLE.out) (fun _ _ => trivial)
  · cases b
    · go_enter Try.func28, Try.ntmps28
      go_wp2_with (first
        | ((with_reducible refine gate_dst (N := 4) rfl ?_); refine box_event ?hg (N := 4) ?hd (cs := #[.int .i64 0, .string (⟨#[]⟩ : ByteArray), .int .i64 0, .slice none 0 0]) (t := 29) ?hr ?_; (case hd => rfl); (case hg => rfl); (case hr => first | (go_simp; done) | (go_simp; rfl)); intro gb hg w1 hbox hb; have HG := Aside0.mk hg; have BK := Aside0.mk hbox; have HB := Aside0.mk hb; clear hg hbox hb)
        | ((with_reducible refine gate_callee (f := 71) rfl ?_); refine goesL_ (some 7) rfl rfl Try.func71 (by kernel_rfl) rfl #[.int .i64 a, .int .i64 1, .int .i64 4] rfl (by (try simp only [List.map_toArray, List.map_cons, List.map_nil]); first | done | rfl) ?_; (with_reducible refine (within_calls a 1 4 false _ hw).mono ?_); rintro e w2 ⟨rfl, hb⟩; refine ⟨_, rfl, ?_⟩; have HB' := Aside0.mk (below_step (by first | exact HB.out | exact below_alloc HB.out _) hb); clear HB; have HB := HB'; clear HB'; have BK' := Aside0.mk (blk_below (by first | exact BK.out | exact blk_alloc BK.out _) hb); clear BK hb; have BK := BK'; clear BK')
        | ((with_reducible refine gate_callee (f := 72) rfl ?_); refine goesL_ (some 14) rfl rfl Try.func72 (by kernel_rfl) rfl #[.string s] rfl (by (try simp only [List.map_toArray, List.map_cons, List.map_nil]); first | done | rfl) ?_; (with_reducible refine (name_calls k s false _ h).mono ?_); rintro e w3 ⟨rfl, hb⟩; refine ⟨_, rfl, ?_⟩; have HB' := Aside0.mk (below_step (by first | exact HB.out | exact below_alloc HB.out _) hb); clear HB; have HB := HB'; clear HB'; have BK' := Aside0.mk (blk_below (by first | exact BK.out | exact blk_alloc BK.out _) hb); clear BK hb; have BK := BK'; clear BK')
        | ((with_reducible refine gate_callee (f := 74) rfl ?_); refine goesL_ (some 17) rfl rfl Try.func74 (by kernel_rfl) rfl #[.string ⟨#[117, 110, 107, 110, 111, 119, 110]⟩] rfl (by (try simp only [List.map_toArray, List.map_cons, List.map_nil]); first | done | rfl) ?_; (with_reducible refine (atom_calls ⟨#[117, 110, 107, 110, 111, 119, 110]⟩ _).mono ?_); rintro e w4 ⟨rfl, hb⟩; refine ⟨_, rfl, ?_⟩; have HB' := Aside0.mk (below_step (by first | exact HB.out | exact below_alloc HB.out _) hb); clear HB; have HB := HB'; clear HB'; have BK' := Aside0.mk (blk_below (by first | exact BK.out | exact blk_alloc BK.out _) hb); clear BK hb; have BK := BK'; clear BK')
        | ((with_reducible refine gate_callee (f := 74) rfl ?_); refine goesL_ (some 19) rfl rfl Try.func74 (by kernel_rfl) rfl #[.string ⟨#[110, 111, 110, 101]⟩] rfl (by (try simp only [List.map_toArray, List.map_cons, List.map_nil]); first | done | rfl) ?_; (with_reducible refine (atom_calls ⟨#[110, 111, 110, 101]⟩ _).mono ?_); rintro e w5 ⟨rfl, hb⟩; refine ⟨_, rfl, ?_⟩; have HB' := Aside0.mk (below_step (by first | exact HB.out | exact below_alloc HB.out _) hb); clear HB; have HB := HB'; clear HB'; have BK' := Aside0.mk (blk_below (by first | exact BK.out | exact blk_alloc BK.out _) hb); clear BK hb; have BK := BK'; clear BK')
        | ((with_reducible refine gate_callee (f := 73) rfl ?_); refine goesL_ (some 21) rfl rfl Try.func73 (by kernel_rfl) rfl #[.string ⟨#[101, 114, 114, 111, 114]⟩, .slice (some ⟨w5.heap.size, 0, none⟩) 2 2] rfl (by (try simp only [List.map_toArray, List.map_cons, List.map_nil]); first | done | rfl) ?_; (with_reducible refine (struct_calls ⟨#[101, 114, 114, 111, 114]⟩ (some ⟨w5.heap.size, 0, none⟩) 2 2 _).mono ?_); rintro e w6 ⟨rfl, hb⟩; refine ⟨_, rfl, ?_⟩; have HLT := Aside0.mk (blk_lt BK.out); have HLE := Aside0.mk HB.out.size; have BS := Aside0.mk (Kd.S_mono (ok' := fun k_ => w5.heap.size ≤ k_) (Kd.S_below (Kd.S_bound (two_leaves w5 w5.heap.size (Nat.le_refl _) 2 2 ⟨#[117, 110, 107, 110, 111, 119, 110]⟩ ⟨#[110, 111, 110, 101]⟩)) hb) (fun k_ hk_ => hk_.2.1)); have HB' := Aside0.mk (below_step (below_alloc HB.out _) hb); clear HB; have HB := HB'; clear HB'; have BK' := Aside0.mk (blk_below (blk_alloc BK.out _) hb); clear BK hb; have BK := BK'; clear BK'; have hcz0 : w6.cell? ⟨gb, 0, none⟩ = some (.int .i64 0) := (blk_cell BK.out 0).trans rfl; have hfz0 := blk_frozen BK.out 0; have hcz1 : w6.cell? ⟨gb, 1, none⟩ = some (.string (⟨#[]⟩ : ByteArray)) := (blk_cell BK.out 1).trans rfl; have hfz1 := blk_frozen BK.out 1; have hcz2 : w6.cell? ⟨gb, 2, none⟩ = some (.int .i64 0) := (blk_cell BK.out 2).trans rfl; have hfz2 := blk_frozen BK.out 2; have hcz3 : w6.cell? ⟨gb, 3, none⟩ = some (.slice none 0 0) := (blk_cell BK.out 3).trans rfl; have hfz3 := blk_frozen BK.out 3))
      refine bodyPost_ret (results_cell_row rfl _ _ gb 29 #[.int .i64 4, .string ⟨#[101, 114, 114, 111, 114]⟩, .int .i64 0, .slice (some ⟨w5.heap.size, 0, none⟩) 2 2] (0, 0) _ rfl (by refine blk_put (cs := #[.int .i64 4, .string ⟨#[101, 114, 114, 111, 114]⟩, .int .i64 0, .slice none 0 0]) ?_ 3 _ rfl; refine blk_put (cs := #[.int .i64 4, .string ⟨#[101, 114, 114, 111, 114]⟩, .int .i64 0, .slice none 0 0]) ?_ 2 _ rfl; refine blk_put (cs := #[.int .i64 4, .string (⟨#[]⟩ : ByteArray), .int .i64 0, .slice none 0 0]) ?_ 1 _ rfl; refine blk_put (cs := #[.int .i64 0, .string (⟨#[]⟩ : ByteArray), .int .i64 0, .slice none 0 0]) ?_ 0 _ rfl; exact BK.out) Try.underlying29 rfl (by kernel_rfl)) rfl ?_
      have hg : w.heap.size ≤ gb := by have := HG.out; omega
      refine ⟨_, rfl, ?_, below_set (below_set (below_set (below_set HB.out hg) hg) hg) hg⟩
      rw [show errKids a false s = [⟨2, ⟨#[117, 110, 107, 110, 111, 119, 110]⟩, 0, []⟩, ⟨2, ⟨#[110, 111, 110, 101]⟩, 0, []⟩] from by unfold errKids; rw [he]; rfl]
      have hne : ∀ k_, w5.heap.size ≤ k_ → k_ ≠ gb := fun k_ hk_ e_ => by have := HLT.out; omega
      exact Kd.S_mono (Kd.S_lower (Kd.S_far (p := ⟨gb, 3, none⟩) (Kd.S_far (p := ⟨gb, 2, none⟩) (Kd.S_far (p := ⟨gb, 1, none⟩) (Kd.S_far (p := ⟨gb, 0, none⟩) BS.out hne _) hne _) hne _) hne _) HLE.out) (fun _ _ => trivial)
    · go_enter Try.func28, Try.ntmps28
      go_wp2_with (first
        | ((with_reducible refine gate_dst (N := 4) rfl ?_); refine box_event ?hg (N := 4) ?hd (cs := #[.int .i64 0, .string (⟨#[]⟩ : ByteArray), .int .i64 0, .slice none 0 0]) (t := 29) ?hr ?_; (case hd => rfl); (case hg => rfl); (case hr => first | (go_simp; done) | (go_simp; rfl)); intro gb hg w1 hbox hb; have HG := Aside0.mk hg; have BK := Aside0.mk hbox; have HB := Aside0.mk hb; clear hg hbox hb)
        | ((with_reducible refine gate_callee (f := 71) rfl ?_); refine goesL_ (some 7) rfl rfl Try.func71 (by kernel_rfl) rfl #[.int .i64 a, .int .i64 1, .int .i64 4] rfl (by (try simp only [List.map_toArray, List.map_cons, List.map_nil]); first | done | rfl) ?_; (with_reducible refine (within_calls a 1 4 false _ hw).mono ?_); rintro e w2 ⟨rfl, hb⟩; refine ⟨_, rfl, ?_⟩; have HB' := Aside0.mk (below_step (by first | exact HB.out | exact below_alloc HB.out _) hb); clear HB; have HB := HB'; clear HB'; have BK' := Aside0.mk (blk_below (by first | exact BK.out | exact blk_alloc BK.out _) hb); clear BK hb; have BK := BK'; clear BK')
        | ((with_reducible refine gate_callee (f := 72) rfl ?_); refine goesL_ (some 14) rfl rfl Try.func72 (by kernel_rfl) rfl #[.string s] rfl (by (try simp only [List.map_toArray, List.map_cons, List.map_nil]); first | done | rfl) ?_; (with_reducible refine (name_calls k s true _ h).mono ?_); rintro e w3 ⟨rfl, hb⟩; refine ⟨_, rfl, ?_⟩; have HB' := Aside0.mk (below_step (by first | exact HB.out | exact below_alloc HB.out _) hb); clear HB; have HB := HB'; clear HB'; have BK' := Aside0.mk (blk_below (by first | exact BK.out | exact blk_alloc BK.out _) hb); clear BK hb; have BK := BK'; clear BK')
        | ((with_reducible refine gate_callee (f := 74) rfl ?_); refine goesL_ (some 17) rfl rfl Try.func74 (by kernel_rfl) rfl #[.string ⟨#[117, 110, 107, 110, 111, 119, 110]⟩] rfl (by (try simp only [List.map_toArray, List.map_cons, List.map_nil]); first | done | rfl) ?_; (with_reducible refine (atom_calls ⟨#[117, 110, 107, 110, 111, 119, 110]⟩ _).mono ?_); rintro e w4 ⟨rfl, hb⟩; refine ⟨_, rfl, ?_⟩; have HB' := Aside0.mk (below_step (by first | exact HB.out | exact below_alloc HB.out _) hb); clear HB; have HB := HB'; clear HB'; have BK' := Aside0.mk (blk_below (by first | exact BK.out | exact blk_alloc BK.out _) hb); clear BK hb; have BK := BK'; clear BK')
        | ((with_reducible refine gate_callee (f := 74) rfl ?_); refine goesL_ (some 19) rfl rfl Try.func74 (by kernel_rfl) rfl #[.string s] rfl (by (try simp only [List.map_toArray, List.map_cons, List.map_nil]); first | done | rfl) ?_; (with_reducible refine (atom_calls s _).mono ?_); rintro e w5 ⟨rfl, hb⟩; refine ⟨_, rfl, ?_⟩; have HB' := Aside0.mk (below_step (by first | exact HB.out | exact below_alloc HB.out _) hb); clear HB; have HB := HB'; clear HB'; have BK' := Aside0.mk (blk_below (by first | exact BK.out | exact blk_alloc BK.out _) hb); clear BK hb; have BK := BK'; clear BK')
        | ((with_reducible refine gate_callee (f := 73) rfl ?_); refine goesL_ (some 21) rfl rfl Try.func73 (by kernel_rfl) rfl #[.string ⟨#[101, 114, 114, 111, 114]⟩, .slice (some ⟨w5.heap.size, 0, none⟩) 2 2] rfl (by (try simp only [List.map_toArray, List.map_cons, List.map_nil]); first | done | rfl) ?_; (with_reducible refine (struct_calls ⟨#[101, 114, 114, 111, 114]⟩ (some ⟨w5.heap.size, 0, none⟩) 2 2 _).mono ?_); rintro e w6 ⟨rfl, hb⟩; refine ⟨_, rfl, ?_⟩; have HLT := Aside0.mk (blk_lt BK.out); have HLE := Aside0.mk HB.out.size; have BS := Aside0.mk (Kd.S_mono (ok' := fun k_ => w5.heap.size ≤ k_) (Kd.S_below (Kd.S_bound (two_leaves w5 w5.heap.size (Nat.le_refl _) 2 2 ⟨#[117, 110, 107, 110, 111, 119, 110]⟩ s)) hb) (fun k_ hk_ => hk_.2.1)); have HB' := Aside0.mk (below_step (below_alloc HB.out _) hb); clear HB; have HB := HB'; clear HB'; have BK' := Aside0.mk (blk_below (blk_alloc BK.out _) hb); clear BK hb; have BK := BK'; clear BK'; have hcz0 : w6.cell? ⟨gb, 0, none⟩ = some (.int .i64 0) := (blk_cell BK.out 0).trans rfl; have hfz0 := blk_frozen BK.out 0; have hcz1 : w6.cell? ⟨gb, 1, none⟩ = some (.string (⟨#[]⟩ : ByteArray)) := (blk_cell BK.out 1).trans rfl; have hfz1 := blk_frozen BK.out 1; have hcz2 : w6.cell? ⟨gb, 2, none⟩ = some (.int .i64 0) := (blk_cell BK.out 2).trans rfl; have hfz2 := blk_frozen BK.out 2; have hcz3 : w6.cell? ⟨gb, 3, none⟩ = some (.slice none 0 0) := (blk_cell BK.out 3).trans rfl; have hfz3 := blk_frozen BK.out 3))
      refine bodyPost_ret (results_cell_row rfl _ _ gb 29 #[.int .i64 4, .string ⟨#[101, 114, 114, 111, 114]⟩, .int .i64 0, .slice (some ⟨w5.heap.size, 0, none⟩) 2 2] (0, 0) _ rfl (by refine blk_put (cs := #[.int .i64 4, .string ⟨#[101, 114, 114, 111, 114]⟩, .int .i64 0, .slice none 0 0]) ?_ 3 _ rfl; refine blk_put (cs := #[.int .i64 4, .string ⟨#[101, 114, 114, 111, 114]⟩, .int .i64 0, .slice none 0 0]) ?_ 2 _ rfl; refine blk_put (cs := #[.int .i64 4, .string (⟨#[]⟩ : ByteArray), .int .i64 0, .slice none 0 0]) ?_ 1 _ rfl; refine blk_put (cs := #[.int .i64 0, .string (⟨#[]⟩ : ByteArray), .int .i64 0, .slice none 0 0]) ?_ 0 _ rfl; exact BK.out) Try.underlying29 rfl (by kernel_rfl)) rfl ?_
      have hg : w.heap.size ≤ gb := by have := HG.out; omega
      refine ⟨_, rfl, ?_, below_set (below_set (below_set (below_set HB.out hg) hg) hg) hg⟩
      rw [show errKids a true s = [⟨2, ⟨#[117, 110, 107, 110, 111, 119, 110]⟩, 0, []⟩, ⟨2, s, 0, []⟩] from by unfold errKids; rw [he]; rfl]
      have hne : ∀ k_, w5.heap.size ≤ k_ → k_ ≠ gb := fun k_ hk_ e_ => by have := HLT.out; omega
      exact Kd.S_mono (Kd.S_lower (Kd.S_far (p := ⟨gb, 3, none⟩) (Kd.S_far (p := ⟨gb, 2, none⟩) (Kd.S_far (p := ⟨gb, 1, none⟩) (Kd.S_far (p := ⟨gb, 0, none⟩) BS.out hne _) hne _) hne _) hne _) HLE.out) (fun _ _ => trivial)
end
/-! #### markTerm -/
section
set_option linter.unusedSectionVars false
variable [fk_laws_eqTerm]
set_option maxHeartbeats 8000000 in
set_option maxRecDepth 100000 in
theorem markTerm_calls (mt : Int → ByteArray) (xs : List S29) (hM : MarkOf mt xs) (a0 : Int) (a1 : ByteArray) (a2 : Int) (A : Option Addr) (c : Nat) (k : Int) (w : World) (base : Nat) (ok : Nat → Prop) (hk : 0 < k) (hk2 : k + 3 * (cns29 xs : Int) ≤ 1000000000) (hbs : base ≤ w.heap.size) (hS : Kd.S kD29 29 w base ok (.slice A xs.length c) xs) :
    Calls Try.prog 29 #[.agg #[.int .i64 a0, .string a1, .int .i64 a2, .slice A xs.length c], .int .i64 k] w fun e w' => e = .returned (.int .i64 (k + 3 * (cns29 xs : Int))) ∧ Kd.S kD29 29 w' base ok (.slice A xs.length c) (mks29 mt xs k) ∧ Below base w w' ∧ Kept w w' ok := by
  have HS := Aside0.mk hS
  have HM := Aside0.mk hM
  have HK := Aside0.mk hk2
  clear hS hM hk2
  go_enter Try.func29, Try.ntmps29
  go_wp2_with (first
    | ((with_reducible refine gate_dst (N := 2) rfl ?_); refine box_event ?hg (N := 2) ?hd (cs := #[.int .i64 a0, .string a1, .int .i64 a2, .slice A xs.length c]) (t := 29) ?hr ?_; (case hd => rfl); (case hg => rfl); (case hr => first | (go_simp; done) | (go_simp; rfl)); intro gb hg w5 hbox hb; have HB := Aside0.mk hb; have hcz : w5.cell? ⟨gb, 3, none⟩ = some (.slice A xs.length c) := (blk_cell hbox 3).trans rfl; clear hg hbox hb)
    | ((with_reducible refine gate_callee (f := 66) rfl ?_); refine goesL_ (some 8) rfl rfl Try.func66 (by kernel_rfl) rfl #[.slice A xs.length c, .int .i64 k] rfl (by (try simp only [List.map_toArray, List.map_cons, List.map_nil]); first | done | rfl) ?_; refine (HM.out A c k _ base ok hk HK.out (Nat.le_trans hbs HB.out.size) (Kd.S_below HS.out HB.out)).mono ?_; rintro e w6 ⟨rfl, ho, hb, hkp⟩; refine ⟨_, rfl, ?_⟩))
  go_ret
  exact ⟨rfl, ho, (HB.out.mono hbs).trans hb, (Kept.of_below HB.out ok).then_ hkp (fun k hk => .inl hk)⟩
end
/-! #### the law FnExactErrorTerm, step by step, for any callees that tell what they should -/
section
set_option linter.unusedSectionVars false
variable [fk_laws_eqTerm]
set_option maxHeartbeats 16000000 in
set_option maxRecDepth 100000 in
theorem er_walk (a m t0 t2 : Int) (s t1 : ByteArray) (xs ys : List S29) (w : World)
    (hm : 0 ≤ m)
    (hsz : s.size ≤ 1048576)
    (c27 : ∀ W, Calls Try.prog 27 #[.int .i64 a, .string s] W fun e W' => ∃ v, e = .returned (.agg #[.int .i64 t0, .string t1, .int .i64 t2, v]) ∧ Kd.V k29 29 W' 0 (fun k => W.heap.size ≤ k) v xs ∧ Below W.heap.size W W')
    (c28 : ∀ W, Calls Try.prog 28 #[.int .i64 a, .string s] W fun e W' => ∃ v, e = .returned (.agg #[.int .i64 t0, .string t1, .int .i64 t2, v]) ∧ Kd.S kD29 29 W' W.heap.size (fun _ => True) v xs ∧ Below W.heap.size W W')
    (c19 : ∀ W A c B d, xs.length ≤ c → Kd.C k29 W A xs.length xs → xs.length ≤ d → Kd.C k29 W B xs.length xs → Calls Try.prog 19 #[.agg #[.int .i64 t0, .string t1, .int .i64 t2, .slice A xs.length c], .agg #[.int .i64 t0, .string t1, .int .i64 t2, .slice B xs.length d]] W fun e W' => e = .returned (.bool true) ∧ Below W.heap.size W W')
    (c29 : ∀ W base ok A c, base ≤ W.heap.size → Kd.S kD29 29 W base ok (.slice A xs.length c) xs → Calls Try.prog 29 #[.agg #[.int .i64 t0, .string t1, .int .i64 t2, .slice A xs.length c], .int .i64 1] W fun e W' => e = .returned (.int .i64 m) ∧ Kd.S kD29 29 W' base ok (.slice A xs.length c) ys ∧ Below base W W' ∧ Kept W W' ok)
    (c30 : ∀ W A c, xs.length ≤ c → Kd.C k29 W A xs.length ys → Calls Try.prog 30 #[.agg #[.int .i64 t0, .string t1, .int .i64 t2, .slice A xs.length c], .int .i64 1] W fun e W' => e = .returned (.int .i64 m) ∧ Below W.heap.size W W') :
    Calls Try.prog 6 #[.int .i64 a, .string s] w fun e w' => e = .returned (.bool true) ∧ Below w.heap.size w w' := by
    have cm0 : decide (m < 0) = false := decide_eq_false (by omega)
    have cm1 : (m != m) = false := by simp
    have cs0 : decide ((s.size : Int) > 1048576) = false := decide_eq_false (by omega)
    clear hsz
    have HB := Aside0.mk (Below.refl w.heap.size w)
    go_enter Try.func6, Try.ntmps6
    go_wp2_with (first
      | ((with_reducible refine gate_callee (f := 27) rfl ?_); refine goesL_ (some 15) rfl rfl Try.func27 (by kernel_rfl) rfl #[.int .i64 a, .string s] rfl (by (try simp only [List.map_toArray, List.map_cons, List.map_nil]); first | done | rfl) ?_; refine (c27 _).mono ?_; rintro e w1 ⟨v_w0, rfl, ho_w0, hb⟩; refine ⟨_, rfl, ?_⟩; have CH0 := Aside0.mk hb.size; have HW_w0 := Aside0.mk HB.out.size; have n0_ := Aside0.mk (below_step HB.out hb); clear HB; have HB := n0_; clear n0_; obtain ⟨A_w0, c_w0, rfl⟩ := Kd.V_slice ho_w0; have RW_w0 := Aside0.mk (Kd.V_mono (ok' := fun k_ => w.heap.size ≤ k_ ∧ k_ < w1.heap.size) (Kd.V_bound ho_w0) (fun k_ hk_ => hk_)); clear hb ho_w0)
      | ((with_reducible refine gate_dst (N := 5) rfl ?_); refine box_event ?hg5 (N := 5) ?hd5 (cs := #[.int .i64 0, .string (⟨#[]⟩ : ByteArray), .int .i64 0, .slice none 0 0]) (t := 29) ?hr5 ?_; (case hd5 => rfl); (case hg5 => rfl); (case hr5 => first | (go_simp; done) | (go_simp; rfl)); intro g_b5 hg z_b5 hbox hb; have HG_b5 := Aside0.mk hg; have BB_b5 := Aside0.mk hbox; have HBB_b5 := Aside0.mk hb; have hz_b5_0 : z_b5.cell? ⟨g_b5, 0, none⟩ = some (.int .i64 0) := (blk_cell BB_b5.out 0).trans rfl; have hf_b5_0 := blk_frozen BB_b5.out 0; have hz_b5_1 : z_b5.cell? ⟨g_b5, 1, none⟩ = some (.string (⟨#[]⟩ : ByteArray)) := (blk_cell BB_b5.out 1).trans rfl; have hf_b5_1 := blk_frozen BB_b5.out 1; have hz_b5_2 : z_b5.cell? ⟨g_b5, 2, none⟩ = some (.int .i64 0) := (blk_cell BB_b5.out 2).trans rfl; have hf_b5_2 := blk_frozen BB_b5.out 2; have hz_b5_3 : z_b5.cell? ⟨g_b5, 3, none⟩ = some (.slice none 0 0) := (blk_cell BB_b5.out 3).trans rfl; have hf_b5_3 := blk_frozen BB_b5.out 3; clear hg hbox hb)
      | ((with_reducible refine gate_store (t := 29) (p := 5) rfl ?_); refine store_event (t := 29) (p := 5) (v := ?vo5) (w1 := ((((z_b5.setCell ⟨g_b5, 0, none⟩ (.int .i64 t0)).setCell ⟨g_b5, 1, none⟩ (.string t1)).setCell ⟨g_b5, 2, none⟩ (.int .i64 t2)).setCell ⟨g_b5, 3, none⟩ (.slice A_w0 xs.length c_w0))) ?hgs5 ?hos5 ?hns5 ?hrs5 ?_; (case hos5 => rfl); (case hgs5 => rfl); (case hns5 => rfl); (case hrs5 => first | (go_simp; done) | (go_simp; rfl)); intro w2 hw; have hb : Below w1.heap.size w1 w2 := (by rw [hw]; exact (below_set (below_set (below_set (below_set HBB_b5.out (by have := HG_b5.out; omega)) (by have := HG_b5.out; omega)) (by have := HG_b5.out; omega)) (by have := HG_b5.out; omega))); have CH1 := Aside0.mk hb.size; have n0_ := Aside0.mk (below_step HB.out hb); have n1_ := Aside0.mk (Kd.V_below RW_w0.out hb); clear HB RW_w0; have HB := n0_; have RW_w0 := n1_; clear n0_ n1_; have BK_b5 : Aside0 (w2.heap[g_b5]? = some (.cells #[.int .i64 t0, .string t1, .int .i64 t2, .slice A_w0 xs.length c_w0] 29 (0, 0))) := ⟨by rw [hw]; refine blk_put (cs := #[.int .i64 t0, .string t1, .int .i64 t2, .slice none 0 0]) ?_ 3 _ rfl; refine blk_put (cs := #[.int .i64 t0, .string t1, .int .i64 0, .slice none 0 0]) ?_ 2 _ rfl; refine blk_put (cs := #[.int .i64 t0, .string (⟨#[]⟩ : ByteArray), .int .i64 0, .slice none 0 0]) ?_ 1 _ rfl; refine blk_put (cs := #[.int .i64 0, .string (⟨#[]⟩ : ByteArray), .int .i64 0, .slice none 0 0]) ?_ 0 _ rfl; exact BB_b5.out⟩; have HL_b5 := Aside0.mk (show g_b5 < w2.heap.size from blk_lt BK_b5.out); clear hb hw hz_b5_0 hf_b5_0 hz_b5_1 hf_b5_1 hz_b5_2 hf_b5_2 hz_b5_3 hf_b5_3; have hc_b5_0 : w2.cell? ⟨g_b5, 0, none⟩ = some (.int .i64 t0) := (blk_cell BK_b5.out 0).trans rfl; have hc_b5_1 : w2.cell? ⟨g_b5, 1, none⟩ = some (.string t1) := (blk_cell BK_b5.out 1).trans rfl; have hc_b5_2 : w2.cell? ⟨g_b5, 2, none⟩ = some (.int .i64 t2) := (blk_cell BK_b5.out 2).trans rfl; have hc_b5_3 : w2.cell? ⟨g_b5, 3, none⟩ = some (.slice A_w0 xs.length c_w0) := (blk_cell BK_b5.out 3).trans rfl)
      | ((with_reducible refine gate_callee (f := 28) rfl ?_); refine goesL_ (some 18) rfl rfl Try.func28 (by kernel_rfl) rfl #[.int .i64 a, .string s] rfl (by (try simp only [List.map_toArray, List.map_cons, List.map_nil]); first | done | rfl) ?_; refine (c28 _).mono ?_; rintro e w3 ⟨v_g0, rfl, ho_g0, hb⟩; refine ⟨_, rfl, ?_⟩; have CH2 := Aside0.mk hb.size; have HW_g0 := Aside0.mk HB.out.size; have n0_ := Aside0.mk (below_step HB.out hb); have n1_ := Aside0.mk (blk_below BK_b5.out hb); have n2_ := Aside0.mk (Kd.V_below RW_w0.out hb); clear HB BK_b5 RW_w0; have HB := n0_; have BK_b5 := n1_; have RW_w0 := n2_; clear n0_ n1_ n2_; obtain ⟨A_g0, c_g0, rfl⟩ := Kd.S_slice ho_g0; have RW_g0 := Aside0.mk (Kd.S_mono (ok' := fun k_ => w2.heap.size ≤ k_ ∧ k_ < w3.heap.size) (Kd.S_bound ho_g0) (fun k_ hk_ => ⟨hk_.2.1, hk_.2.2.1⟩)); clear hb ho_g0; clear hc_b5_0 hc_b5_1 hc_b5_2 hc_b5_3; have hc_b5_0 : w3.cell? ⟨g_b5, 0, none⟩ = some (.int .i64 t0) := (blk_cell BK_b5.out 0).trans rfl; have hc_b5_1 : w3.cell? ⟨g_b5, 1, none⟩ = some (.string t1) := (blk_cell BK_b5.out 1).trans rfl; have hc_b5_2 : w3.cell? ⟨g_b5, 2, none⟩ = some (.int .i64 t2) := (blk_cell BK_b5.out 2).trans rfl; have hc_b5_3 : w3.cell? ⟨g_b5, 3, none⟩ = some (.slice A_w0 xs.length c_w0) := (blk_cell BK_b5.out 3).trans rfl)
      | ((with_reducible refine gate_dst (N := 6) rfl ?_); refine box_event ?hg6 (N := 6) ?hd6 (cs := #[.int .i64 0, .string (⟨#[]⟩ : ByteArray), .int .i64 0, .slice none 0 0]) (t := 29) ?hr6 ?_; (case hd6 => rfl); (case hg6 => rfl); (case hr6 => first | (go_simp; done) | (go_simp; rfl)); intro g_b6 hg z_b6 hbox hb; have HG_b6 := Aside0.mk hg; have BB_b6 := Aside0.mk hbox; have HBB_b6 := Aside0.mk hb; have hz_b6_0 : z_b6.cell? ⟨g_b6, 0, none⟩ = some (.int .i64 0) := (blk_cell BB_b6.out 0).trans rfl; have hf_b6_0 := blk_frozen BB_b6.out 0; have hz_b6_1 : z_b6.cell? ⟨g_b6, 1, none⟩ = some (.string (⟨#[]⟩ : ByteArray)) := (blk_cell BB_b6.out 1).trans rfl; have hf_b6_1 := blk_frozen BB_b6.out 1; have hz_b6_2 : z_b6.cell? ⟨g_b6, 2, none⟩ = some (.int .i64 0) := (blk_cell BB_b6.out 2).trans rfl; have hf_b6_2 := blk_frozen BB_b6.out 2; have hz_b6_3 : z_b6.cell? ⟨g_b6, 3, none⟩ = some (.slice none 0 0) := (blk_cell BB_b6.out 3).trans rfl; have hf_b6_3 := blk_frozen BB_b6.out 3; clear hg hbox hb)
      | ((with_reducible refine gate_store (t := 29) (p := 6) rfl ?_); refine store_event (t := 29) (p := 6) (v := ?vo6) (w1 := ((((z_b6.setCell ⟨g_b6, 0, none⟩ (.int .i64 t0)).setCell ⟨g_b6, 1, none⟩ (.string t1)).setCell ⟨g_b6, 2, none⟩ (.int .i64 t2)).setCell ⟨g_b6, 3, none⟩ (.slice A_g0 xs.length c_g0))) ?hgs6 ?hos6 ?hns6 ?hrs6 ?_; (case hos6 => rfl); (case hgs6 => rfl); (case hns6 => rfl); (case hrs6 => first | (go_simp; done) | (go_simp; rfl)); intro w4 hw; have hb : Below w3.heap.size w3 w4 := (by rw [hw]; exact (below_set (below_set (below_set (below_set HBB_b6.out (by have := HG_b6.out; omega)) (by have := HG_b6.out; omega)) (by have := HG_b6.out; omega)) (by have := HG_b6.out; omega))); have CH3 := Aside0.mk hb.size; have n0_ := Aside0.mk (below_step HB.out hb); have n1_ := Aside0.mk (blk_below BK_b5.out hb); have n2_ := Aside0.mk (Kd.V_below RW_w0.out hb); have n3_ := Aside0.mk (Kd.S_below RW_g0.out hb); clear HB BK_b5 RW_w0 RW_g0; have HB := n0_; have BK_b5 := n1_; have RW_w0 := n2_; have RW_g0 := n3_; clear n0_ n1_ n2_ n3_; have BK_b6 : Aside0 (w4.heap[g_b6]? = some (.cells #[.int .i64 t0, .string t1, .int .i64 t2, .slice A_g0 xs.length c_g0] 29 (0, 0))) := ⟨by rw [hw]; refine blk_put (cs := #[.int .i64 t0, .string t1, .int .i64 t2, .slice none 0 0]) ?_ 3 _ rfl; refine blk_put (cs := #[.int .i64 t0, .string t1, .int .i64 0, .slice none 0 0]) ?_ 2 _ rfl; refine blk_put (cs := #[.int .i64 t0, .string (⟨#[]⟩ : ByteArray), .int .i64 0, .slice none 0 0]) ?_ 1 _ rfl; refine blk_put (cs := #[.int .i64 0, .string (⟨#[]⟩ : ByteArray), .int .i64 0, .slice none 0 0]) ?_ 0 _ rfl; exact BB_b6.out⟩; have HL_b6 := Aside0.mk (show g_b6 < w4.heap.size from blk_lt BK_b6.out); clear hb hw hz_b6_0 hf_b6_0 hz_b6_1 hf_b6_1 hz_b6_2 hf_b6_2 hz_b6_3 hf_b6_3; clear hc_b5_0 hc_b5_1 hc_b5_2 hc_b5_3; have hc_b5_0 : w4.cell? ⟨g_b5, 0, none⟩ = some (.int .i64 t0) := (blk_cell BK_b5.out 0).trans rfl; have hc_b5_1 : w4.cell? ⟨g_b5, 1, none⟩ = some (.string t1) := (blk_cell BK_b5.out 1).trans rfl; have hc_b5_2 : w4.cell? ⟨g_b5, 2, none⟩ = some (.int .i64 t2) := (blk_cell BK_b5.out 2).trans rfl; have hc_b5_3 : w4.cell? ⟨g_b5, 3, none⟩ = some (.slice A_w0 xs.length c_w0) := (blk_cell BK_b5.out 3).trans rfl; have hc_b6_0 : w4.cell? ⟨g_b6, 0, none⟩ = some (.int .i64 t0) := (blk_cell BK_b6.out 0).trans rfl; have hc_b6_1 : w4.cell? ⟨g_b6, 1, none⟩ = some (.string t1) := (blk_cell BK_b6.out 1).trans rfl; have hc_b6_2 : w4.cell? ⟨g_b6, 2, none⟩ = some (.int .i64 t2) := (blk_cell BK_b6.out 2).trans rfl; have hc_b6_3 : w4.cell? ⟨g_b6, 3, none⟩ = some (.slice A_g0 xs.length c_g0) := (blk_cell BK_b6.out 3).trans rfl)
      | ((with_reducible refine gate_callee (f := 19) rfl ?_); refine goesL_ (some 21) rfl rfl Try.func19 (by kernel_rfl) rfl #[.agg #[.int .i64 t0, .string t1, .int .i64 t2, .slice A_g0 xs.length c_g0], .agg #[.int .i64 t0, .string t1, .int .i64 t2, .slice A_w0 xs.length c_w0]] rfl (by (try simp only [List.map_toArray, List.map_cons, List.map_nil]); first | done | rfl) ?_; refine (c19 _ _ _ _ _ (readS RW_g0.out).1 (readS RW_g0.out).2 (readV RW_w0.out).1 (readV RW_w0.out).2).mono ?_; rintro e w5 ⟨rfl, hb⟩; refine ⟨_, rfl, ?_⟩; have CH4 := Aside0.mk hb.size; have n0_ := Aside0.mk (below_step HB.out hb); have n1_ := Aside0.mk (blk_below BK_b5.out hb); have n2_ := Aside0.mk (blk_below BK_b6.out hb); have n3_ := Aside0.mk (Kd.V_below RW_w0.out hb); have n4_ := Aside0.mk (Kd.S_below RW_g0.out hb); clear HB BK_b5 BK_b6 RW_w0 RW_g0; have HB := n0_; have BK_b5 := n1_; have BK_b6 := n2_; have RW_w0 := n3_; have RW_g0 := n4_; clear n0_ n1_ n2_ n3_ n4_; clear hc_b5_0 hc_b5_1 hc_b5_2 hc_b5_3 hc_b6_0 hc_b6_1 hc_b6_2 hc_b6_3; have hc_b5_0 : w5.cell? ⟨g_b5, 0, none⟩ = some (.int .i64 t0) := (blk_cell BK_b5.out 0).trans rfl; have hc_b5_1 : w5.cell? ⟨g_b5, 1, none⟩ = some (.string t1) := (blk_cell BK_b5.out 1).trans rfl; have hc_b5_2 : w5.cell? ⟨g_b5, 2, none⟩ = some (.int .i64 t2) := (blk_cell BK_b5.out 2).trans rfl; have hc_b5_3 : w5.cell? ⟨g_b5, 3, none⟩ = some (.slice A_w0 xs.length c_w0) := (blk_cell BK_b5.out 3).trans rfl; have hc_b6_0 : w5.cell? ⟨g_b6, 0, none⟩ = some (.int .i64 t0) := (blk_cell BK_b6.out 0).trans rfl; have hc_b6_1 : w5.cell? ⟨g_b6, 1, none⟩ = some (.string t1) := (blk_cell BK_b6.out 1).trans rfl; have hc_b6_2 : w5.cell? ⟨g_b6, 2, none⟩ = some (.int .i64 t2) := (blk_cell BK_b6.out 2).trans rfl; have hc_b6_3 : w5.cell? ⟨g_b6, 3, none⟩ = some (.slice A_g0 xs.length c_g0) := (blk_cell BK_b6.out 3).trans rfl)
      | ((with_reducible refine gate_callee (f := 29) rfl ?_); refine goesL_ (some 25) rfl rfl Try.func29 (by kernel_rfl) rfl #[.agg #[.int .i64 t0, .string t1, .int .i64 t2, .slice A_g0 xs.length c_g0], .int .i64 1] rfl (by (try simp only [List.map_toArray, List.map_cons, List.map_nil]); first | done | rfl) ?_; refine (c29 _ w2.heap.size _ _ _ (by have := CH0.out; have := CH1.out; have := CH2.out; have := CH3.out; have := CH4.out; omega) RW_g0.out).mono ?_; rintro e w6 ⟨rfl, ho, hb, hk⟩; refine ⟨_, rfl, ?_⟩; have CH5 := Aside0.mk hk.1; have n0_ := Aside0.mk (below_weaken HB.out HW_g0.out hb); have n1_ := Aside0.mk (blk_kept BK_b5.out hk (by have := HG_b5.out; have := HL_b5.out; have := CH0.out; have := CH1.out; have := CH2.out; have := CH3.out; have := CH4.out; omega)); have n2_ := Aside0.mk (blk_kept BK_b6.out hk (by have := HG_b6.out; have := HL_b6.out; have := CH0.out; have := CH1.out; have := CH2.out; have := CH3.out; have := CH4.out; omega)); have n3_ := Aside0.mk (Kd.V_kept RW_w0.out hk (fun k_ hk1_ hk2_ => by have := CH0.out; have := CH1.out; have := CH2.out; have := CH3.out; have := CH4.out; omega)); clear HB BK_b5 BK_b6 RW_w0; have HB := n0_; have BK_b5 := n1_; have BK_b6 := n2_; have RW_w0 := n3_; clear n0_ n1_ n2_ n3_; clear RW_g0; have RW_g0 := Aside0.mk ho; clear ho hb hk; clear hc_b5_0 hc_b5_1 hc_b5_2 hc_b5_3 hc_b6_0 hc_b6_1 hc_b6_2 hc_b6_3; have hc_b5_0 : w6.cell? ⟨g_b5, 0, none⟩ = some (.int .i64 t0) := (blk_cell BK_b5.out 0).trans rfl; have hc_b5_1 : w6.cell? ⟨g_b5, 1, none⟩ = some (.string t1) := (blk_cell BK_b5.out 1).trans rfl; have hc_b5_2 : w6.cell? ⟨g_b5, 2, none⟩ = some (.int .i64 t2) := (blk_cell BK_b5.out 2).trans rfl; have hc_b5_3 : w6.cell? ⟨g_b5, 3, none⟩ = some (.slice A_w0 xs.length c_w0) := (blk_cell BK_b5.out 3).trans rfl; have hc_b6_0 : w6.cell? ⟨g_b6, 0, none⟩ = some (.int .i64 t0) := (blk_cell BK_b6.out 0).trans rfl; have hc_b6_1 : w6.cell? ⟨g_b6, 1, none⟩ = some (.string t1) := (blk_cell BK_b6.out 1).trans rfl; have hc_b6_2 : w6.cell? ⟨g_b6, 2, none⟩ = some (.int .i64 t2) := (blk_cell BK_b6.out 2).trans rfl; have hc_b6_3 : w6.cell? ⟨g_b6, 3, none⟩ = some (.slice A_g0 xs.length c_g0) := (blk_cell BK_b6.out 3).trans rfl)
      | ((with_reducible refine gate_callee (f := 30) rfl ?_); refine goesL_ (some 28) rfl rfl Try.func30 (by kernel_rfl) rfl #[.agg #[.int .i64 t0, .string t1, .int .i64 t2, .slice A_g0 xs.length c_g0], .int .i64 1] rfl (by (try simp only [List.map_toArray, List.map_cons, List.map_nil]); first | done | rfl) ?_; refine (c30 _ _ _ (readS RW_g0.out).1 (readS RW_g0.out).2).mono ?_; rintro e w7 ⟨rfl, hb⟩; refine ⟨_, rfl, ?_⟩; have CH6 := Aside0.mk hb.size; have n0_ := Aside0.mk (below_step HB.out hb); have n1_ := Aside0.mk (blk_below BK_b5.out hb); have n2_ := Aside0.mk (blk_below BK_b6.out hb); have n3_ := Aside0.mk (Kd.V_below RW_w0.out hb); have n4_ := Aside0.mk (Kd.S_below RW_g0.out hb); clear HB BK_b5 BK_b6 RW_w0 RW_g0; have HB := n0_; have BK_b5 := n1_; have BK_b6 := n2_; have RW_w0 := n3_; have RW_g0 := n4_; clear n0_ n1_ n2_ n3_ n4_; clear hc_b5_0 hc_b5_1 hc_b5_2 hc_b5_3 hc_b6_0 hc_b6_1 hc_b6_2 hc_b6_3; have hc_b5_0 : w7.cell? ⟨g_b5, 0, none⟩ = some (.int .i64 t0) := (blk_cell BK_b5.out 0).trans rfl; have hc_b5_1 : w7.cell? ⟨g_b5, 1, none⟩ = some (.string t1) := (blk_cell BK_b5.out 1).trans rfl; have hc_b5_2 : w7.cell? ⟨g_b5, 2, none⟩ = some (.int .i64 t2) := (blk_cell BK_b5.out 2).trans rfl; have hc_b5_3 : w7.cell? ⟨g_b5, 3, none⟩ = some (.slice A_w0 xs.length c_w0) := (blk_cell BK_b5.out 3).trans rfl; have hc_b6_0 : w7.cell? ⟨g_b6, 0, none⟩ = some (.int .i64 t0) := (blk_cell BK_b6.out 0).trans rfl; have hc_b6_1 : w7.cell? ⟨g_b6, 1, none⟩ = some (.string t1) := (blk_cell BK_b6.out 1).trans rfl; have hc_b6_2 : w7.cell? ⟨g_b6, 2, none⟩ = some (.int .i64 t2) := (blk_cell BK_b6.out 2).trans rfl; have hc_b6_3 : w7.cell? ⟨g_b6, 3, none⟩ = some (.slice A_g0 xs.length c_g0) := (blk_cell BK_b6.out 3).trans rfl)
      | ((with_reducible refine gate_callee (f := 28) rfl ?_); refine goesL_ (some 36) rfl rfl Try.func28 (by kernel_rfl) rfl #[.int .i64 a, .string s] rfl (by (try simp only [List.map_toArray, List.map_cons, List.map_nil]); first | done | rfl) ?_; refine (c28 _).mono ?_; rintro e w8 ⟨v_h0, rfl, ho_h0, hb⟩; refine ⟨_, rfl, ?_⟩; have CH7 := Aside0.mk hb.size; have HW_h0 := Aside0.mk HB.out.size; have n0_ := Aside0.mk (below_step HB.out hb); have n1_ := Aside0.mk (blk_below BK_b5.out hb); have n2_ := Aside0.mk (blk_below BK_b6.out hb); have n3_ := Aside0.mk (Kd.V_below RW_w0.out hb); have n4_ := Aside0.mk (Kd.S_below RW_g0.out hb); clear HB BK_b5 BK_b6 RW_w0 RW_g0; have HB := n0_; have BK_b5 := n1_; have BK_b6 := n2_; have RW_w0 := n3_; have RW_g0 := n4_; clear n0_ n1_ n2_ n3_ n4_; obtain ⟨A_h0, c_h0, rfl⟩ := Kd.S_slice ho_h0; have RW_h0 := Aside0.mk (Kd.S_mono (ok' := fun k_ => w7.heap.size ≤ k_ ∧ k_ < w8.heap.size) (Kd.S_bound ho_h0) (fun k_ hk_ => ⟨hk_.2.1, hk_.2.2.1⟩)); clear hb ho_h0; clear hc_b5_0 hc_b5_1 hc_b5_2 hc_b5_3 hc_b6_0 hc_b6_1 hc_b6_2 hc_b6_3; have hc_b5_0 : w8.cell? ⟨g_b5, 0, none⟩ = some (.int .i64 t0) := (blk_cell BK_b5.out 0).trans rfl; have hc_b5_1 : w8.cell? ⟨g_b5, 1, none⟩ = some (.string t1) := (blk_cell BK_b5.out 1).trans rfl; have hc_b5_2 : w8.cell? ⟨g_b5, 2, none⟩ = some (.int .i64 t2) := (blk_cell BK_b5.out 2).trans rfl; have hc_b5_3 : w8.cell? ⟨g_b5, 3, none⟩ = some (.slice A_w0 xs.length c_w0) := (blk_cell BK_b5.out 3).trans rfl; have hc_b6_0 : w8.cell? ⟨g_b6, 0, none⟩ = some (.int .i64 t0) := (blk_cell BK_b6.out 0).trans rfl; have hc_b6_1 : w8.cell? ⟨g_b6, 1, none⟩ = some (.string t1) := (blk_cell BK_b6.out 1).trans rfl; have hc_b6_2 : w8.cell? ⟨g_b6, 2, none⟩ = some (.int .i64 t2) := (blk_cell BK_b6.out 2).trans rfl; have hc_b6_3 : w8.cell? ⟨g_b6, 3, none⟩ = some (.slice A_g0 xs.length c_g0) := (blk_cell BK_b6.out 3).trans rfl)
      | ((with_reducible refine gate_dst (N := 9) rfl ?_); refine box_event ?hg9 (N := 9) ?hd9 (cs := #[.int .i64 0, .string (⟨#[]⟩ : ByteArray), .int .i64 0, .slice none 0 0]) (t := 29) ?hr9 ?_; (case hd9 => rfl); (case hg9 => rfl); (case hr9 => first | (go_simp; done) | (go_simp; rfl)); intro g_b9 hg z_b9 hbox hb; have HG_b9 := Aside0.mk hg; have BB_b9 := Aside0.mk hbox; have HBB_b9 := Aside0.mk hb; have hz_b9_0 : z_b9.cell? ⟨g_b9, 0, none⟩ = some (.int .i64 0) := (blk_cell BB_b9.out 0).trans rfl; have hf_b9_0 := blk_frozen BB_b9.out 0; have hz_b9_1 : z_b9.cell? ⟨g_b9, 1, none⟩ = some (.string (⟨#[]⟩ : ByteArray)) := (blk_cell BB_b9.out 1).trans rfl; have hf_b9_1 := blk_frozen BB_b9.out 1; have hz_b9_2 : z_b9.cell? ⟨g_b9, 2, none⟩ = some (.int .i64 0) := (blk_cell BB_b9.out 2).trans rfl; have hf_b9_2 := blk_frozen BB_b9.out 2; have hz_b9_3 : z_b9.cell? ⟨g_b9, 3, none⟩ = some (.slice none 0 0) := (blk_cell BB_b9.out 3).trans rfl; have hf_b9_3 := blk_frozen BB_b9.out 3; clear hg hbox hb)
      | ((with_reducible refine gate_store (t := 29) (p := 9) rfl ?_); refine store_event (t := 29) (p := 9) (v := ?vo9) (w1 := ((((z_b9.setCell ⟨g_b9, 0, none⟩ (.int .i64 t0)).setCell ⟨g_b9, 1, none⟩ (.string t1)).setCell ⟨g_b9, 2, none⟩ (.int .i64 t2)).setCell ⟨g_b9, 3, none⟩ (.slice A_h0 xs.length c_h0))) ?hgs9 ?hos9 ?hns9 ?hrs9 ?_; (case hos9 => rfl); (case hgs9 => rfl); (case hns9 => rfl); (case hrs9 => first | (go_simp; done) | (go_simp; rfl)); intro w9 hw; have hb : Below w8.heap.size w8 w9 := (by rw [hw]; exact (below_set (below_set (below_set (below_set HBB_b9.out (by have := HG_b9.out; omega)) (by have := HG_b9.out; omega)) (by have := HG_b9.out; omega)) (by have := HG_b9.out; omega))); have CH8 := Aside0.mk hb.size; have n0_ := Aside0.mk (below_step HB.out hb); have n1_ := Aside0.mk (blk_below BK_b5.out hb); have n2_ := Aside0.mk (blk_below BK_b6.out hb); have n3_ := Aside0.mk (Kd.V_below RW_w0.out hb); have n4_ := Aside0.mk (Kd.S_below RW_g0.out hb); have n5_ := Aside0.mk (Kd.S_below RW_h0.out hb); clear HB BK_b5 BK_b6 RW_w0 RW_g0 RW_h0; have HB := n0_; have BK_b5 := n1_; have BK_b6 := n2_; have RW_w0 := n3_; have RW_g0 := n4_; have RW_h0 := n5_; clear n0_ n1_ n2_ n3_ n4_ n5_; have BK_b9 : Aside0 (w9.heap[g_b9]? = some (.cells #[.int .i64 t0, .string t1, .int .i64 t2, .slice A_h0 xs.length c_h0] 29 (0, 0))) := ⟨by rw [hw]; refine blk_put (cs := #[.int .i64 t0, .string t1, .int .i64 t2, .slice none 0 0]) ?_ 3 _ rfl; refine blk_put (cs := #[.int .i64 t0, .string t1, .int .i64 0, .slice none 0 0]) ?_ 2 _ rfl; refine blk_put (cs := #[.int .i64 t0, .string (⟨#[]⟩ : ByteArray), .int .i64 0, .slice none 0 0]) ?_ 1 _ rfl; refine blk_put (cs := #[.int .i64 0, .string (⟨#[]⟩ : ByteArray), .int .i64 0, .slice none 0 0]) ?_ 0 _ rfl; exact BB_b9.out⟩; have HL_b9 := Aside0.mk (show g_b9 < w9.heap.size from blk_lt BK_b9.out); clear hb hw hz_b9_0 hf_b9_0 hz_b9_1 hf_b9_1 hz_b9_2 hf_b9_2 hz_b9_3 hf_b9_3; clear hc_b5_0 hc_b5_1 hc_b5_2 hc_b5_3 hc_b6_0 hc_b6_1 hc_b6_2 hc_b6_3; have hc_b5_0 : w9.cell? ⟨g_b5, 0, none⟩ = some (.int .i64 t0) := (blk_cell BK_b5.out 0).trans rfl; have hc_b5_1 : w9.cell? ⟨g_b5, 1, none⟩ = some (.string t1) := (blk_cell BK_b5.out 1).trans rfl; have hc_b5_2 : w9.cell? ⟨g_b5, 2, none⟩ = some (.int .i64 t2) := (blk_cell BK_b5.out 2).trans rfl; have hc_b5_3 : w9.cell? ⟨g_b5, 3, none⟩ = some (.slice A_w0 xs.length c_w0) := (blk_cell BK_b5.out 3).trans rfl; have hc_b6_0 : w9.cell? ⟨g_b6, 0, none⟩ = some (.int .i64 t0) := (blk_cell BK_b6.out 0).trans rfl; have hc_b6_1 : w9.cell? ⟨g_b6, 1, none⟩ = some (.string t1) := (blk_cell BK_b6.out 1).trans rfl; have hc_b6_2 : w9.cell? ⟨g_b6, 2, none⟩ = some (.int .i64 t2) := (blk_cell BK_b6.out 2).trans rfl; have hc_b6_3 : w9.cell? ⟨g_b6, 3, none⟩ = some (.slice A_g0 xs.length c_g0) := (blk_cell BK_b6.out 3).trans rfl; have hc_b9_0 : w9.cell? ⟨g_b9, 0, none⟩ = some (.int .i64 t0) := (blk_cell BK_b9.out 0).trans rfl; have hc_b9_1 : w9.cell? ⟨g_b9, 1, none⟩ = some (.string t1) := (blk_cell BK_b9.out 1).trans rfl; have hc_b9_2 : w9.cell? ⟨g_b9, 2, none⟩ = some (.int .i64 t2) := (blk_cell BK_b9.out 2).trans rfl; have hc_b9_3 : w9.cell? ⟨g_b9, 3, none⟩ = some (.slice A_h0 xs.length c_h0) := (blk_cell BK_b9.out 3).trans rfl)
      | ((with_reducible refine gate_callee (f := 19) rfl ?_); refine goesL_ (some 39) rfl rfl Try.func19 (by kernel_rfl) rfl #[.agg #[.int .i64 t0, .string t1, .int .i64 t2, .slice A_h0 xs.length c_h0], .agg #[.int .i64 t0, .string t1, .int .i64 t2, .slice A_w0 xs.length c_w0]] rfl (by (try simp only [List.map_toArray, List.map_cons, List.map_nil]); first | done | rfl) ?_; refine (c19 _ _ _ _ _ (readS RW_h0.out).1 (readS RW_h0.out).2 (readV RW_w0.out).1 (readV RW_w0.out).2).mono ?_; rintro e w10 ⟨rfl, hb⟩; refine ⟨_, rfl, ?_⟩; have CH9 := Aside0.mk hb.size; have n0_ := Aside0.mk (below_step HB.out hb); have n1_ := Aside0.mk (blk_below BK_b5.out hb); have n2_ := Aside0.mk (blk_below BK_b6.out hb); have n3_ := Aside0.mk (blk_below BK_b9.out hb); have n4_ := Aside0.mk (Kd.V_below RW_w0.out hb); have n5_ := Aside0.mk (Kd.S_below RW_g0.out hb); have n6_ := Aside0.mk (Kd.S_below RW_h0.out hb); clear HB BK_b5 BK_b6 BK_b9 RW_w0 RW_g0 RW_h0; have HB := n0_; have BK_b5 := n1_; have BK_b6 := n2_; have BK_b9 := n3_; have RW_w0 := n4_; have RW_g0 := n5_; have RW_h0 := n6_; clear n0_ n1_ n2_ n3_ n4_ n5_ n6_; clear hc_b5_0 hc_b5_1 hc_b5_2 hc_b5_3 hc_b6_0 hc_b6_1 hc_b6_2 hc_b6_3 hc_b9_0 hc_b9_1 hc_b9_2 hc_b9_3; have hc_b5_0 : w10.cell? ⟨g_b5, 0, none⟩ = some (.int .i64 t0) := (blk_cell BK_b5.out 0).trans rfl; have hc_b5_1 : w10.cell? ⟨g_b5, 1, none⟩ = some (.string t1) := (blk_cell BK_b5.out 1).trans rfl; have hc_b5_2 : w10.cell? ⟨g_b5, 2, none⟩ = some (.int .i64 t2) := (blk_cell BK_b5.out 2).trans rfl; have hc_b5_3 : w10.cell? ⟨g_b5, 3, none⟩ = some (.slice A_w0 xs.length c_w0) := (blk_cell BK_b5.out 3).trans rfl; have hc_b6_0 : w10.cell? ⟨g_b6, 0, none⟩ = some (.int .i64 t0) := (blk_cell BK_b6.out 0).trans rfl; have hc_b6_1 : w10.cell? ⟨g_b6, 1, none⟩ = some (.string t1) := (blk_cell BK_b6.out 1).trans rfl; have hc_b6_2 : w10.cell? ⟨g_b6, 2, none⟩ = some (.int .i64 t2) := (blk_cell BK_b6.out 2).trans rfl; have hc_b6_3 : w10.cell? ⟨g_b6, 3, none⟩ = some (.slice A_g0 xs.length c_g0) := (blk_cell BK_b6.out 3).trans rfl; have hc_b9_0 : w10.cell? ⟨g_b9, 0, none⟩ = some (.int .i64 t0) := (blk_cell BK_b9.out 0).trans rfl; have hc_b9_1 : w10.cell? ⟨g_b9, 1, none⟩ = some (.string t1) := (blk_cell BK_b9.out 1).trans rfl; have hc_b9_2 : w10.cell? ⟨g_b9, 2, none⟩ = some (.int .i64 t2) := (blk_cell BK_b9.out 2).trans rfl; have hc_b9_3 : w10.cell? ⟨g_b9, 3, none⟩ = some (.slice A_h0 xs.length c_h0) := (blk_cell BK_b9.out 3).trans rfl)
      | ((with_reducible refine gate_callee (f := 30) rfl ?_); refine goesL_ (some 43) rfl rfl Try.func30 (by kernel_rfl) rfl #[.agg #[.int .i64 t0, .string t1, .int .i64 t2, .slice A_g0 xs.length c_g0], .int .i64 1] rfl (by (try simp only [List.map_toArray, List.map_cons, List.map_nil]); first | done | rfl) ?_; refine (c30 _ _ _ (readS RW_g0.out).1 (readS RW_g0.out).2).mono ?_; rintro e w11 ⟨rfl, hb⟩; refine ⟨_, rfl, ?_⟩; have CH10 := Aside0.mk hb.size; have n0_ := Aside0.mk (below_step HB.out hb); have n1_ := Aside0.mk (blk_below BK_b5.out hb); have n2_ := Aside0.mk (blk_below BK_b6.out hb); have n3_ := Aside0.mk (blk_below BK_b9.out hb); have n4_ := Aside0.mk (Kd.V_below RW_w0.out hb); have n5_ := Aside0.mk (Kd.S_below RW_g0.out hb); have n6_ := Aside0.mk (Kd.S_below RW_h0.out hb); clear HB BK_b5 BK_b6 BK_b9 RW_w0 RW_g0 RW_h0; have HB := n0_; have BK_b5 := n1_; have BK_b6 := n2_; have BK_b9 := n3_; have RW_w0 := n4_; have RW_g0 := n5_; have RW_h0 := n6_; clear n0_ n1_ n2_ n3_ n4_ n5_ n6_; clear hc_b5_0 hc_b5_1 hc_b5_2 hc_b5_3 hc_b6_0 hc_b6_1 hc_b6_2 hc_b6_3 hc_b9_0 hc_b9_1 hc_b9_2 hc_b9_3; have hc_b5_0 : w11.cell? ⟨g_b5, 0, none⟩ = some (.int .i64 t0) := (blk_cell BK_b5.out 0).trans rfl; have hc_b5_1 : w11.cell? ⟨g_b5, 1, none⟩ = some (.string t1) := (blk_cell BK_b5.out 1).trans rfl; have hc_b5_2 : w11.cell? ⟨g_b5, 2, none⟩ = some (.int .i64 t2) := (blk_cell BK_b5.out 2).trans rfl; have hc_b5_3 : w11.cell? ⟨g_b5, 3, none⟩ = some (.slice A_w0 xs.length c_w0) := (blk_cell BK_b5.out 3).trans rfl; have hc_b6_0 : w11.cell? ⟨g_b6, 0, none⟩ = some (.int .i64 t0) := (blk_cell BK_b6.out 0).trans rfl; have hc_b6_1 : w11.cell? ⟨g_b6, 1, none⟩ = some (.string t1) := (blk_cell BK_b6.out 1).trans rfl; have hc_b6_2 : w11.cell? ⟨g_b6, 2, none⟩ = some (.int .i64 t2) := (blk_cell BK_b6.out 2).trans rfl; have hc_b6_3 : w11.cell? ⟨g_b6, 3, none⟩ = some (.slice A_g0 xs.length c_g0) := (blk_cell BK_b6.out 3).trans rfl; have hc_b9_0 : w11.cell? ⟨g_b9, 0, none⟩ = some (.int .i64 t0) := (blk_cell BK_b9.out 0).trans rfl; have hc_b9_1 : w11.cell? ⟨g_b9, 1, none⟩ = some (.string t1) := (blk_cell BK_b9.out 1).trans rfl; have hc_b9_2 : w11.cell? ⟨g_b9, 2, none⟩ = some (.int .i64 t2) := (blk_cell BK_b9.out 2).trans rfl; have hc_b9_3 : w11.cell? ⟨g_b9, 3, none⟩ = some (.slice A_h0 xs.length c_h0) := (blk_cell BK_b9.out 3).trans rfl))
    go_ret
    exact ⟨rfl, HB.out⟩
set_option maxHeartbeats 8000000 in
theorem er_big (a : Int) (s : ByteArray) (w : World) (h : ¬ s.size ≤ 1048576) : Calls Try.prog 6 #[.int .i64 a, .string s] w fun e w' => e = .returned (.bool true) ∧ Below w.heap.size w w' := by
  have cs0 : decide ((s.size : Int) > 1048576) = true := decide_eq_true (by omega)
  clear h
  go_enter Try.func6, Try.ntmps6
  go_wp2
  go_ret
  exact ⟨rfl, Below.refl _ _⟩
end
/-! #### FnExactErrorTerm -/
theorem spec_err_ev (a : Int) (s : ByteArray) (hs : s.size ≤ 1048576) : Ev (fun k => spec_ErrorTerm.f k a s) (4, ⟨#[101, 114, 114, 111, 114]⟩, 0, errKids a (nameB s) s) := by
  have hj : ∀ word : ByteArray, Ev (fun k => spec_ErrorTerm.j0 k s word) (4, ⟨#[101, 114, 114, 111, 114]⟩, 0, [⟨2, word, 0, []⟩, ⟨2, errName (nameB s) s, 0, []⟩]) := by
    intro word
    refine Ev.step (f := fun k => (spec_l03Name.f k s).bind fun t => (if t = true then some ((4 : Int), (⟨#[101, 114, 114, 111, 114]⟩ : ByteArray), (0 : Int), ([⟨2, word, 0, []⟩, ⟨2, s, 0, []⟩] : List S29)) else some (4, ⟨#[101, 114, 114, 111, 114]⟩, 0, [⟨2, word, 0, []⟩, ⟨2, ⟨#[110, 111, 110, 101]⟩, 0, []⟩]))) (fun k => by simp only [spec_ErrorTerm.j0, spec_l03Atom.f, spec_l03Two.f, Option.bind_some]) ?_
    refine Ev.bind (f := fun k t => (if t = true then some ((4 : Int), (⟨#[101, 114, 114, 111, 114]⟩ : ByteArray), (0 : Int), ([⟨2, word, 0, []⟩, ⟨2, s, 0, []⟩] : List S29)) else some (4, ⟨#[101, 114, 114, 111, 114]⟩, 0, [⟨2, word, 0, []⟩, ⟨2, ⟨#[110, 111, 110, 101]⟩, 0, []⟩]))) (name_spec s hs) ?_
    cases nameB s
    · exact Ev.congr (fun k => if_neg (by simp)) (Ev.now _)
    · exact Ev.congr (fun k => if_pos rfl) (Ev.now _)
  unfold spec_ErrorTerm.f errKids errWord
  by_cases c1 : a = 1
  · simp only [if_pos c1]; exact hj _
  simp only [if_neg c1]
  by_cases c2 : a = 2
  · simp only [if_pos c2]; exact hj _
  simp only [if_neg c2]
  by_cases c3 : a = 3
  · simp only [if_pos c3]; exact hj _
  simp only [if_neg c3]
  by_cases c4 : a = 4
  · simp only [if_pos c4]; exact hj _
  simp only [if_neg c4]
  exact hj _
theorem er_all (a : Int) (s : ByteArray) (w : World) (_ha : (Lit.int .i64 a).wf = true) (_hs : s.size ≤ 140737488351232) : Calls Try.prog 6 #[.int .i64 a, .string s] w fun e w' => e = .returned (.bool true) ∧ Below w.heap.size w w' := by
  letI : fk_laws_eqTerm := i_eq 2
  by_cases hs : s.size ≤ 1048576
  · obtain ⟨xs, hxs⟩ : ∃ xs, xs = errKids a (nameB s) s := ⟨_, rfl⟩
    have hcn : cns29 xs = 2 ∧ hts29 xs ≤ 2 := by
      rw [hxs]
      unfold errKids
      constructor
      · simp [cns29, cn29]
      · simp [hts29, ht29]
    obtain ⟨k1, he⟩ := Ev.rounds (eqTermS_ev 2 xs hcn.2 (by omega))
    have hmk : MarkOf mtx xs := mark_calls mtx 11 (fun n h0 h1 => mtx_ok n h0 h1) 2 xs hcn.2
    obtain ⟨k2, hd⟩ := Ev.rounds (held_ev 2 xs hcn.2 (by omega) 1 (by omega) (by omega))
    obtain ⟨k3, hsp⟩ := Ev.rounds (spec_err_ev a s hs)
    obtain ⟨k4, hnm⟩ := Ev.rounds (name_impl s hs)
    have hyl : (mks29 mtx xs 1).length = xs.length := mks29_length _ _ _
    refine er_walk a (1 + 3 * (cns29 xs : Int)) 4 0 s ⟨#[101, 114, 114, 111, 114]⟩ xs (mks29 mtx xs 1) w (by omega) hs ?_ ?_ ?_ ?_ ?_
    · intro W
      refine (spec_ErrorTerm.calls k3 a s _ _ _ _ W hsp).mono fun e W' => ?_
      rintro ⟨v, rfl, ho, hb⟩
      exact ⟨v, rfl, by rw [hxs]; exact Kd.N_V ho, hb⟩
    · intro W
      refine (err_calls k4 a s _ W hnm).mono fun e W' => ?_
      rintro ⟨v, rfl, ho, hb⟩
      exact ⟨v, rfl, by rw [hxs]; exact ho, hb⟩
    · intro W A c B d h1 h2 h3 h4
      refine laws_eqTerm.calls k1 4 _ 0 A c xs 4 _ 0 B d xs true W h2 h1 h4 h3 ?_
      unfold laws_eqTerm.f
      rw [if_pos rfl, if_pos rfl, if_pos rfl, he]
      rfl
    · intro W base ok A c h1 h2
      exact markTerm_calls mtx xs hmk 4 _ 0 A c 1 W base ok (by omega) (by omega) h1 h2
    · intro W A c h1 h2
      have := laws_heldTerm.calls k2 4 ⟨#[101, 114, 114, 111, 114]⟩ 0 A c (mks29 mtx xs 1) 1 (1 + 3 * (cns29 xs : Int)) W (by rw [hyl]; exact h2) (by omega) (by unfold laws_heldTerm.f; rw [hd]; simp only [Option.bind_some]; rw [if_neg (by omega)])
      rw [hyl] at this
      exact this
  · exact er_big a s w hs
end Go.Proofs.Ytojedbogbodkiaa.KEr
