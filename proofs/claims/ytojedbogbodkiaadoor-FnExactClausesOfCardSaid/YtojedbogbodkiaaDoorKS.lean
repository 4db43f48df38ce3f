/- A kind of slice whose elements, when they are made, lead to blocks that no two of them share, all the way down. No condition. -/
import Derived.Test.YtojedbogbodkiaaDoorWApart
namespace Go.Proofs.YtojedbogbodkiaaDoorW.PrintWords
open Go.RowKit
set_option linter.unusedVariables false
namespace Kd
/-- A slice as a field: what it leads to is told apart, element by element. -/
def sliceS {α : Type} (e : Nat) (d : Kd α) : Kd (List α) where
  sz := 1
  E := e :: d.E
  K := fun w xs cs => ∃ A c, cs = [.slice A xs.length c] ∧ xs.length ≤ c ∧ d.C w A xs.length xs
  M := fun w base ok xs cs => ∃ v, cs = [v] ∧ S d e w base ok v xs
  K_len := by
    rintro w x cs ⟨A, c, rfl, _⟩
    rfl
  K_one := by
    rintro w x cs ⟨A, c, rfl, _⟩ u hu
    rw [List.mem_singleton.1 hu]
    rfl
  K_below := by
    rintro w w1 x cs hb ⟨A, c, rfl, hl, hr⟩
    exact ⟨A, c, rfl, hl, C_below hr hb⟩
  K_of_M := by
    rintro w base ok x cs ⟨v, rfl, h⟩
    obtain ⟨A, c, rfl, hl, hr⟩ := S_reads h
    exact ⟨A, c, rfl, hl, hr⟩
  M_mono := by
    rintro w base ok ok' x cs hok ⟨v, rfl, h⟩
    exact ⟨v, rfl, S_mono h hok⟩
  M_bound := by
    rintro w base ok x cs ⟨v, rfl, h⟩
    exact ⟨v, rfl, S_bound h⟩
  M_move := by
    rintro w w1 base ok x cs hm ⟨v, rfl, h⟩
    exact ⟨v, rfl, S_move h hm⟩
  M_lower := by
    rintro w base base' ok x cs hb ⟨v, rfl, h⟩
    exact ⟨v, rfl, S_lower h hb⟩
theorem S_imp {α : Type} {d d' : Kd α} (hs : d.sz = d'.sz) (h : ∀ w base ok x cs, d.M w base ok x cs → d'.M w base ok x cs) {e : Nat} {w : World} {base : Nat} {ok : Nat → Prop} {v : Value} {xs : List α} (hr : S d e w base ok v xs) : S d' e w base ok v xs := by
  obtain ⟨f, hr⟩ := hr
  exact ⟨f, R_imp (d := tag f d) (d' := tag f d') hs (fun w base ok x cs hm => h _ _ _ _ _ hm) hr⟩
theorem mono_sliceS {α β : Type} (e : Nat) {G : Kd α → Kd β} (hG : Mono G) : Mono (fun d => sliceS e (G d)) := by
  refine ⟨fun _ _ _ => rfl, ?_, ?_⟩
  · rintro d d' hs h w x cs ⟨A, c, rfl, hl, hr⟩
    exact ⟨A, c, rfl, hl, C_imp (hG.sz d d' hs) (hG.K d d' hs h) hr⟩
  · rintro d d' hs h w base ok x cs ⟨v, rfl, hr⟩
    exact ⟨v, rfl, S_imp (hG.sz d d' hs) (hG.M d d' hs h) hr⟩
theorem sub_sliceS {α β : Type} {E : List Nat} (e : Nat) {G : Kd α → Kd β} (he : e ∈ E) (hG : Sub G E) : Sub (fun d => sliceS e (G d)) E := fun d h q hq => by
  rcases List.mem_cons.1 hq with rfl | hq
  · exact he
  · exact hG d h q hq
section
variable {α : Type} {F : Kd α → Kd α} {sz : Nat} {E : List Nat} {hs : ∀ n, (upto F sz E n).sz = sz} {hE : ∀ n q, q ∈ (upto F sz E n).E → q ∈ E}
theorem fix_S {n : Nat} {e : Nat} {w : World} {base : Nat} {ok : Nat → Prop} {v : Value} {xs : List α} (h : S (upto F sz E n) e w base ok v xs) : S (fix F sz E hs hE) e w base ok v xs :=
  S_imp (d' := fix F sz E hs hE) (hs n) (fun w base ok x cs hp => (⟨n, hp⟩ : ∃ n, (upto F sz E n).M w base ok x cs)) h
theorem fix_S_back (hm : Mono F) {e : Nat} {w : World} {base : Nat} {ok : Nat → Prop} {v : Value} {xs : List α} (h : S (fix F sz E hs hE) e w base ok v xs) : ∃ n, S (upto F sz E n) e w base ok v xs := by
  obtain ⟨f, h0, inner, ho, hr⟩ := h
  obtain ⟨N, hN⟩ := reps_bounded (R := fun n (p : α × Nat) c => (upto F sz E n).M w base (fun k => (ok k ∧ some k ≠ v.ownBlock) ∧ f k = p.2) p.1 c) (fun n m p c hnm hp => upto_M_le hm hs hnm hp) hr
  refine ⟨N, f, h0, inner, ?_, ?_⟩
  · show w.ownsRow base e (upto F sz E N).sz v _ inner
    rw [hs N]; exact ho
  · show Reps _ (upto F sz E N).sz _ inner
    rw [hs N]; exact hN
theorem upto_S_le (hm : Mono F) (hs : ∀ n, (upto F sz E n).sz = sz) {n m : Nat} (hnm : n ≤ m) {e : Nat} {w : World} {base : Nat} {ok : Nat → Prop} {v : Value} {xs : List α} (h : S (upto F sz E n) e w base ok v xs) : S (upto F sz E m) e w base ok v xs :=
  S_imp (by rw [hs n, hs m]) (fun _ _ _ _ _ hp => upto_M_le hm hs hnm hp) h
end
/-- A block that was made with these elements: none of their blocks is in two. -/
theorem S_lit_new {α : Type} (d : Kd α) (W : World) (base e : Nat) {xs : List α} {inner : List Value} {ok : Nat → Prop} (okj : Nat → Nat → Prop) (hl : inner.length = xs.length * d.sz)
    (hrep : ∀ j x, xs[j]? = some x → d.M W base (okj j) x ((inner.drop (j * d.sz)).take d.sz)) (hap : ∀ i j k, okj i k → okj j k → i = j) (hok : ∀ j k, okj j k → ok k) (hfresh : ok W.heap.size) (hbase : base ≤ W.heap.size) (hm : xs.length ≤ 9223372036854775807) :
    S d e (W.alloc (.cells inner.toArray e)) base ok (.slice (some ⟨W.heap.size, 0, none⟩) xs.length xs.length) xs := by
  obtain ⟨f, hr⟩ := reps_tag (d := d) (w := W) (base := base) (ok := ok) okj hap hok hl hrep
  refine ⟨f, fun k hk => ?_, inner, ?_, ?_⟩
  · have : W.heap.size = k := by simpa [Value.ownBlock] using hk
    subst this
    exact hfresh
  · have h2 := World.ownsRow_lit (base := base) (e := e) (size := d.sz) W inner.toArray xs.length hbase (by simpa [maxLen] using hm) (by simpa using hl)
    rw [List.length_zipIdx]
    exact h2
  · refine hr.imp_ (fun p c hp => (tag f d).M_mono (fun k hk => ⟨hk.1, fun he => ?_⟩) (M_below ((tag f d).M_bound hp) (below_alloc (Below.refl _ _) _)))
    have h3 : k = W.heap.size := by simpa [Value.ownBlock] using he
    have := hk.2.2.1
    omega
/-- A row without elements says nothing of its kind. -/
theorem S_of_nil {α β : Type} {d : Kd α} {d' : Kd β} (hs : d.sz = d'.sz) {e : Nat} {w : World} {base : Nat} {ok : Nat → Prop} {v : Value} (h : d.R e w base ok v []) : S d' e w base ok v [] := by
  obtain ⟨h0, inner, ho, hr⟩ := h
  refine ⟨fun _ => 0, h0, inner, by rw [show (tag (fun _ => 0) d').sz = d.sz from hs.symm]; exact ho, by have := hr.1; simpa using this, fun j p hj => by simp at hj⟩
end Kd
end Go.Proofs.YtojedbogbodkiaaDoorW.PrintWords
