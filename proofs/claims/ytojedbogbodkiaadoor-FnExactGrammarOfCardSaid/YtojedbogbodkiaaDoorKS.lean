/- Of this claim's own making;what nothing names is struck (fewall.py). -/
import Derived.Test.YtojedbogbodkiaaDoorKV
namespace Go.Proofs.YtojedbogbodkiaaDoorW.PrintWords
open Go.RowKit
set_option linter.unusedVariables false
namespace Kd
def sliceS {α : Type} (e : Nat) (d : Kd α) : Kd (List α) where
  sz:=1
  E:=e :: d.E
  K:=fun w xs cs => ∃ A c,cs = [.slice A xs.length c] ∧ xs.length ≤ c ∧ d.C w A xs.length xs
  M:=fun w base ok xs cs => ∃ v,cs = [v] ∧ S d e w base ok v xs
  K_len:=by
    rintro w x cs ⟨A,c,rfl,_⟩
    rfl
  K_one:=by
    rintro w x cs ⟨A,c,rfl,_⟩ u hu
    rw [List.mem_singleton.1 hu]
    rfl
  K_below:=by
    rintro w w1 x cs hb ⟨A,c,rfl,hl,hr⟩
    exact ⟨A,c,rfl,hl,C_below hr hb⟩
  K_of_M:=by
    rintro w base ok x cs ⟨v,rfl,h⟩
    obtain ⟨A,c,rfl,hl,hr⟩:=S_reads h
    exact ⟨A,c,rfl,hl,hr⟩
  M_mono:=by
    rintro w base ok ok' x cs hok ⟨v,rfl,h⟩
    exact ⟨v,rfl,S_mono h hok⟩
  M_bound:=by
    rintro w base ok x cs ⟨v,rfl,h⟩
    exact ⟨v,rfl,S_bound h⟩
  M_move:=by
    rintro w w1 base ok x cs hm ⟨v,rfl,h⟩
    exact ⟨v,rfl,S_move h hm⟩
  M_lower:=by
    rintro w base base' ok x cs hb ⟨v,rfl,h⟩
    exact ⟨v,rfl,S_lower h hb⟩
theorem S_imp {α : Type} {d d' : Kd α} (hs : d.sz = d'.sz) (h : ∀ w base ok x cs,d.M w base ok x cs → d'.M w base ok x cs) {e : Nat} {w : World} {base : Nat} {ok : Nat → Prop} {v : Value} {xs : List α} (hr : S d e w base ok v xs) : S d' e w base ok v xs:=by
  obtain ⟨f,hr⟩:=hr
  exact ⟨f,R_imp (d:=tag f d) (d':=tag f d') hs (fun w base ok x cs hm => h _ _ _ _ _ hm) hr⟩
theorem mono_sliceS {α β : Type} (e : Nat) {G : Kd α → Kd β} (hG : Mono G) : Mono (fun d => sliceS e (G d)):=by
  refine ⟨fun _ _ _ => rfl,?_,?_⟩
  · rintro d d' hs h w x cs ⟨A,c,rfl,hl,hr⟩
    exact ⟨A,c,rfl,hl,C_imp (hG.sz d d' hs) (hG.K d d' hs h) hr⟩
  · rintro d d' hs h w base ok x cs ⟨v,rfl,hr⟩
    exact ⟨v,rfl,S_imp (hG.sz d d' hs) (hG.M d d' hs h) hr⟩
theorem sub_sliceS {α β : Type} {E : List Nat} (e : Nat) {G : Kd α → Kd β} (he : e ∈ E) (hG : Sub G E) : Sub (fun d => sliceS e (G d)) E:=fun d h q hq => by
  rcases List.mem_cons.1 hq with rfl | hq
  · exact he
  · exact hG d h q hq
section
variable {α : Type} {F : Kd α → Kd α} {sz : Nat} {E : List Nat} {hs : ∀ n, (upto F sz E n).sz = sz} {hE : ∀ n q, q ∈ (upto F sz E n).E → q ∈ E}
theorem fix_S {n : Nat} {e : Nat} {w : World} {base : Nat} {ok : Nat → Prop} {v : Value} {xs : List α} (h : S (upto F sz E n) e w base ok v xs) : S (fix F sz E hs hE) e w base ok v xs :=
  S_imp (d':=fix F sz E hs hE) (hs n) (fun w base ok x cs hp => (⟨n,hp⟩ : ∃ n,(upto F sz E n).M w base ok x cs)) h
theorem fix_S_back (hm : Mono F) {e : Nat} {w : World} {base : Nat} {ok : Nat → Prop} {v : Value} {xs : List α} (h : S (fix F sz E hs hE) e w base ok v xs) : ∃ n,S (upto F sz E n) e w base ok v xs:=by
  obtain ⟨f,h0,inner,ho,hr⟩:=h
  obtain ⟨N,hN⟩:=reps_bounded (R:=fun n (p : α × Nat) c => (upto F sz E n).M w base (fun k => (ok k ∧ some k ≠ v.ownBlock) ∧ f k = p.2) p.1 c) (fun n m p c hnm hp => upto_M_le hm hs hnm hp) hr
  refine ⟨N,f,h0,inner,?_,?_⟩
  · show w.ownsRow base e (upto F sz E N).sz v _ inner
    rw [hs N];exact ho
  · show Reps _ (upto F sz E N).sz _ inner
    rw [hs N];exact hN
end
end Kd
end Go.Proofs.YtojedbogbodkiaaDoorW.PrintWords
