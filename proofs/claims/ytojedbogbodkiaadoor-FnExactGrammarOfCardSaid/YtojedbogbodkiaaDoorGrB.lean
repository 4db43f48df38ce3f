/- Of this claim's own making;what nothing names is struck (fewall.py). -/
import Derived.Test.YtojedbogbodkiaaDoorKGrx8
import Derived.Test.YtojedbogbodkiaaDoorGrA
import Derived.Test.YtojedbogbodkiaaDoorKS
set_option linter.unusedVariables false
set_option linter.unusedSimpArgs false
namespace Go.Proofs.YtojedbogbodkiaaDoor.KGr
open Go.RowKit Go.Proofs.YtojedbogbodkiaaDoorW.PrintWords Go.Proofs.YtojedbogbodkiaaDoorW.PrintLast Go.Proofs.YtojedbogbodkiaaDoorW.PrintMore
def TermRow (W : World) (p : Value × List S29) : Prop:=∃ A c,p.1 = .slice A p.2.length c ∧ p.2.length ≤ c ∧ Kd.C k29 W A p.2.length p.2
def FootRow (W : World) (Q : Nat → Prop) (p : Value × List S29) : Prop:=∀ W',(∀ k,Q k → k < W.heap.size → W'.heap[k]? = W.heap[k]?) → TermRow W' p
def As.pool (u : World) (P : Nat → Prop) (l : List (Value × List S29)) : As :=
 ⟨fun _ W ok => ∀ W',(∀ k,ok k → k < W.heap.size → W'.heap[k]? = W.heap[k]?) → (∀ k,P k → k < u.heap.size → W'.heap[k]? = u.heap[k]?) → ∀ p ∈ l,TermRow W' p,
  fun h x W' h1 h2 => x W' (fun k hk hl => h1 k (h k hk) hl) h2,
  fun x W' h1 h2 => x W' (fun k hk hl => h1 k ⟨hk,hl⟩ hl) h2,
  fun {b W W' ok} h x W2 h1 h2 => x W2 (fun k hk hl => by
   have e:=h k hk
   have hl' : k < W'.heap.size:=by
    rw [Array.getElem?_eq_getElem hl] at e
    exact (Array.getElem?_eq_some_iff.1 e).1
   exact (h1 k hk hl').trans e) h2,
  fun _ x => x⟩
section
variable {w u W : World} {ok : Nat → Prop} {os : List As}
theorem Run.ro {P : Nat → Prop} (h : Run w u ok os W) (hP : ∀ k,P k → ¬ ok k) : ∀ k,P k → k < u.heap.size → W.heap[k]? = u.heap[k]?:=fun k hk hl => h.kept.2 k hl (hP k hk)
theorem Run.pooled {P : Nat → Prop} {l : List (Value × List S29)} (h : Run w u ok os W) (hP : ∀ k,P k → ¬ ok k) (i : Nat) (hi : os[i]? = some (As.pool u P l)) : ∀ p ∈ l,TermRow W p:=by
 obtain ⟨f,hf⟩:=h.sep
 exact hf i _ hi W (fun _ _ _ => rfl) (h.ro hP)
theorem pool_in {b : Nat} {P ok : Nat → Prop} {l : List (Value × List S29)} (h : ∀ p ∈ l,FootRow u P p) : (As.pool u P l).M b u ok:=fun W' _ h2 p hp => h p hp W' h2
theorem Run.pool_out {P : Nat → Prop} {l : List (Value × List S29)} (h : Run w u ok os W) (hP : ∀ k,P k → ¬ ok k) (i : Nat) (hi : os[i]? = some (As.pool u P l)) (j : Nat) {g t : Nat} {cs : Array Value} (hj : os[j]? = some (As.box g t cs)) (hij : i ≠ j) (hg : ∀ k,ok k → k = g) :
  ∀ p ∈ l,FootRow W (fun k => P k ∨ u.heap.size ≤ k) p:=by
 obtain ⟨f,hf⟩:=h.sep
 intro p hp W' h1
 refine hf i _ hi W' (fun k hk hl => h1 k (.inr ?_) hl) (fun k hk hl => (h1 k (.inl hk) (Nat.lt_of_lt_of_le hl h.up)).trans (h.ro hP k hk hl)) p hp
 rcases hk.2 with h2|h2
 ·exact absurd (hk.1.symm.trans ((hg k h2) ▸ (hf j _ hj).1.1)) hij
 ·exact h2
theorem Run.ask {P : Nat → Prop} {l : List (Value × List S29)} (h : Run w u ok os W) (hP : ∀ k,P k → ¬ ok k) (i j : Nat) {g t : Nat} {cs : Array Value} (hi : os[i]? = some (As.pool u P l)) (hj : os[j]? = some (As.box g t cs)) (hij : i ≠ j) :
  ∃ Q : Nat → Prop,¬ Q g ∧ W.heap[g]? = some (.cells cs t (0,0)) ∧ (∀ p ∈ l,FootRow W Q p) ∧ ∀ (W' : World) (cs' : Array Value) (rs : List (Value × List S29)),Below w.heap.size W W' → Kept W W' (fun k => k = g) → W'.heap[g]? = some (.cells cs' t (0,0)) →
   (∀ r ∈ rs,FootRow W' (fun k => Q k ∨ W.heap.size ≤ k) r) → Run w u ok ((os.set i (As.pool u P (rs ++ l))).set j (As.box g t cs')) W':=by
 obtain ⟨f,hf⟩:=h.sep
 have hb:=hf j _ hj
 have hup:=h.up
 have hgi : f g ≠ i:=fun e => hij (e.symm.trans hb.1.1)
 refine ⟨fun k => (f k = i ∧ (ok k ∨ u.heap.size ≤ k)) ∨ (P k ∧ k < u.heap.size),?_,hb.2,?_,?_⟩
 ·rintro (h1|h1)
  ·exact hgi h1.1
  ·rcases hb.1.2 with h2|h2
   ·exact hP g h1.1 h2
   ·omega
 ·intro p hp W' h1
  exact hf i _ hi W' (fun k hk hl => h1 k (.inl hk) hl) (fun k hk hl => (h1 k (.inr ⟨hk,hl⟩) (Nat.lt_of_lt_of_le hl hup)).trans (h.ro hP k hk hl)) p hp
 ·intro W' cs' rs hB hkp hcs hr
  have hgW : g < W.heap.size:=blk_lt hb.2
  have same : ∀ k,k < W.heap.size → k ≠ g → W'.heap[k]? = W.heap[k]?:=fun k hl hn => hkp.2 k hl hn
  refine ⟨h.old,h.lowok,h.bel.trans hB,h.kept.then_ hkp (fun k h2 => h2 ▸ hb.1.2),fun k => if W.heap.size ≤ k then i else f k,fun m c hc => ?_⟩
  by_cases hjm : j = m
  ·subst hjm
   rw [List.getElem?_set_self (by rw [List.length_set];exact (List.getElem?_eq_some_iff.1 hj).1)] at hc
   obtain rfl:=Option.some.inj hc
   refine ⟨⟨?_,hb.1.2⟩,hcs⟩
   show (if W.heap.size ≤ g then i else f g) = j
   rw [if_neg (by omega)];exact hb.1.1
  ·rw [List.getElem?_set_ne hjm] at hc
   by_cases him : i = m
   ·subst him
    rw [List.getElem?_set_self (by exact (List.getElem?_eq_some_iff.1 hi).1)] at hc
    obtain rfl:=Option.some.inj hc
    intro W2 h1 h2 p hp
    have ro2 : ∀ k,P k → k < u.heap.size → W2.heap[k]? = W.heap[k]?:=fun k hk hl => (h2 k hk hl).trans (h.ro hP k hk hl).symm
    have own2 : ∀ k,(f k = i ∧ (ok k ∨ u.heap.size ≤ k)) → k < W.heap.size → W2.heap[k]? = W'.heap[k]?:=fun k hk hl =>
     h1 k ⟨by show (if W.heap.size ≤ k then i else f k) = i;rw [if_neg (by omega)];exact hk.1,hk.2⟩ (Nat.lt_of_lt_of_le hl hkp.1)
    rcases List.mem_append.1 hp with hp|hp
    ·refine hr p hp W2 (fun k hq hl => ?_)
     rcases hq with (hq|hq)|hq
     ·by_cases hl2 : k < W.heap.size
      ·exact own2 k hq hl2
      ·exact h1 k ⟨by show (if W.heap.size ≤ k then i else f k) = i;rw [if_pos (by omega)],.inr (by omega)⟩ hl
     ·rw [ro2 k hq.1 hq.2,same k (Nat.lt_of_lt_of_le hq.2 hup) (fun e => by
       subst e
       rcases hb.1.2 with h3|h3
       ·exact hP _ hq.1 h3
       ·omega)]
     ·exact h1 k ⟨by show (if W.heap.size ≤ k then i else f k) = i;rw [if_pos hq],.inr (Nat.le_trans hup hq)⟩ hl
    ·exact hf i _ hi W2 (fun k hk hl => (own2 k hk hl).trans (same k hl (fun e => hgi (e ▸ hk.1)))) h2 p hp
   ·rw [List.getElem?_set_ne him] at hc
    refine c.mono (fun k h2 => ?_) (c.move (fun k h2 => ?_) (c.bound (hf m c hc)))
    ·show (if W.heap.size ≤ k then i else f k) = m ∧ _
     rw [if_neg (by have:=h2.2;omega)];exact h2.1
    ·exact same k h2.2 (fun e => hjm (hb.1.1.symm.trans (e ▸ h2.1.1)))
end
section
variable {w u W : World} {ok : Nat → Prop} {os : List As}
theorem term_nil (W : World) : TermRow W (.slice none 0 0,[]):=⟨none,0,rfl,Nat.le_refl _,Kd.C_nil k29 W⟩
theorem foot_nil (W : World) (Q : Nat → Prop) : FootRow W Q (.slice none 0 0,[]):=fun W' _ => term_nil W'
theorem Run.ask0 {P : Nat → Prop} {l : List (Value × List S29)} (h : Run w u ok os W) (hP : ∀ k,P k → ¬ ok k) (i : Nat) (hi : os[i]? = some (As.pool u P l)) :
  ∃ Q : Nat → Prop,(∀ p ∈ l,FootRow W Q p) ∧ ∀ (W' : World) (rs : List (Value × List S29)),Below W.heap.size W W' → (∀ r ∈ rs,FootRow W' (fun k => Q k ∨ W.heap.size ≤ k) r) → Run w u ok (os.set i (As.pool u P (rs ++ l))) W':=by
 obtain ⟨f,hf⟩:=h.sep
 have hup:=h.up
 refine ⟨fun k => (f k = i ∧ (ok k ∨ u.heap.size ≤ k)) ∨ (P k ∧ k < u.heap.size),?_,?_⟩
 ·intro p hp W' h1
  exact hf i _ hi W' (fun k hk hl => h1 k (.inl hk) hl) (fun k hk hl => (h1 k (.inr ⟨hk,hl⟩) (Nat.lt_of_lt_of_le hl hup)).trans (h.ro hP k hk hl)) p hp
 ·intro W' rs hB hr
  refine ⟨h.old,h.lowok,below_then h.bel h.ww hB,h.kept.below hB,fun k => if W.heap.size ≤ k then i else f k,fun m c hc => ?_⟩
  by_cases him : i = m
  ·subst him
   rw [List.getElem?_set_self (by exact (List.getElem?_eq_some_iff.1 hi).1)] at hc
   obtain rfl:=Option.some.inj hc
   intro W2 h1 h2 p hp
   have ro2 : ∀ k,P k → k < u.heap.size → W2.heap[k]? = W.heap[k]?:=fun k hk hl => (h2 k hk hl).trans (h.ro hP k hk hl).symm
   have own2 : ∀ k,(f k = i ∧ (ok k ∨ u.heap.size ≤ k)) → k < W.heap.size → W2.heap[k]? = W'.heap[k]?:=fun k hk hl =>
    h1 k ⟨by show (if W.heap.size ≤ k then i else f k) = i;rw [if_neg (by omega)];exact hk.1,hk.2⟩ (Nat.lt_of_lt_of_le hl hB.size)
   rcases List.mem_append.1 hp with hp|hp
   ·refine hr p hp W2 (fun k hq hl => ?_)
    by_cases hl2 : k < W.heap.size
    ·rcases hq with (hq|hq)|hq
     ·exact own2 k hq hl2
     ·rw [ro2 k hq.1 hq.2,hB.block k hl2]
     ·omega
    ·exact h1 k ⟨by show (if W.heap.size ≤ k then i else f k) = i;rw [if_pos (by omega)],.inr (by omega)⟩ hl
   ·exact hf i _ hi W2 (fun k hk hl => (own2 k hk hl).trans (hB.block k hl)) h2 p hp
  ·rw [List.getElem?_set_ne him] at hc
   refine c.mono (fun k h2 => ?_) (c.move (fun k h2 => ?_) (c.bound (hf m c hc)))
   ·show (if W.heap.size ≤ k then i else f k) = m ∧ _
    rw [if_neg (by have:=h2.2;omega)];exact h2.1
   ·exact hB.block k h2.2
theorem Run.pool_lit {P : Nat → Prop} {l : List (Value × List S29)} (h : Run w u ok os W) (i j : Nat) {g t : Nat} {cs : Array Value} (hi : os[i]? = some (As.pool u P l)) (hj : os[j]? = some (As.box g t cs)) (hij : i ≠ j) (ts : List S29) (n : Nat) (hn : ts.length = n) (hl : n ≤ 9223372036854775807)
  (ht : ∀ m x,ts[m]? = some x → ∃ v,(v,x.f3) ∈ l ∧ ∀ q u,[Value.int .i64 x.f0,.string x.f1,.int .i64 x.f2,v][q]? = some u → cs[m * 4 + q]? = some u) :
  Run w u ok ((os.set j As.none).set i (As.pool u P ((.slice (some ⟨g,0,none⟩) n n,ts) :: l))) W:=by
 obtain ⟨f,hf⟩:=h.sep
 have hb:=hf j _ hj
 refine ⟨h.old,h.lowok,h.bel,h.kept,fun k => if f k = j then i else f k,fun m c hc => ?_⟩
 by_cases him : i = m
 ·subst him
  rw [List.getElem?_set_self (by rw [List.length_set];exact (List.getElem?_eq_some_iff.1 hi).1)] at hc
  obtain rfl:=Option.some.inj hc
  intro W2 h1 h2 p hp
  have old : ∀ p ∈ l,TermRow W2 p:=fun p hp => hf i _ hi W2 (fun k hk hl => h1 k ⟨by show (if f k = j then i else f k) = i;rw [if_neg (by rw [hk.1];exact hij)];exact hk.1,hk.2⟩ hl) h2 p hp
  have hg : W2.heap[g]? = some (.cells cs t (0,0)):=(h1 g ⟨by show (if f g = j then i else f g) = i;rw [if_pos hb.1.1],hb.1.2⟩ (blk_lt hb.2)).trans hb.2
  rcases List.mem_cons.1 hp with rfl|hp
  ·refine ⟨some ⟨g,0,none⟩,n,by rw [hn],by show ts.length ≤ n;omega,?_⟩
   refine ⟨rfl,by show ts.length ≤ _;omega,fun _ => ⟨_,rfl,fun m x hx => ?_⟩⟩
   obtain ⟨v,hv,hcs⟩:=ht m x hx
   obtain ⟨A,c,e,hc1,hc2⟩:=old _ hv
   refine ⟨[.int .i64 x.f0,.string x.f1,.int .i64 x.f2,v],rfl,?_,fun q z hz => ?_⟩
   ·have e' : v = .slice A x.f3.length c:=e
    rw [e']
    exact k29_mk W2 x hc1 hc2
   ·rw [Go.Proofs.YtojedbogbodkiaaDoorW.PrintWords.add_plain]
    rw [show k29.sz = 4 from rfl]
    exact (blk_cell hg _).trans (hcs q z hz)
  ·exact old p hp
 ·rw [List.getElem?_set_ne him] at hc
  by_cases hjm : j = m
  ·subst hjm
   rw [List.getElem?_set_self (by exact (List.getElem?_eq_some_iff.1 hj).1)] at hc
   obtain rfl:=Option.some.inj hc
   trivial
  ·rw [List.getElem?_set_ne hjm] at hc
   refine c.mono (fun k hk => ?_) (hf m c hc)
   show (if f k = j then i else f k) = m ∧ _
   rw [if_neg (by rw [hk.1];exact fun e => hjm e.symm)]
   exact hk
end
theorem foot_F {W : World} {Q : Nat → Prop} {A : Option Addr} {c : Nat} {ts : List S29} (h : FootRow W Q (.slice A ts.length c,ts)) : ts.length ≤ c ∧ Kd.F k29 W Q A ts.length ts:=by
 refine ⟨?_,fun W' hW => ?_⟩
 ·obtain ⟨A',c',e,h1,_⟩:=h W (fun _ _ _ => rfl)
  injection e with _ _ e3
  omega
 ·obtain ⟨A',c',e,_,h2⟩:=h W' hW
  injection e with e1 _ _
  rw [e1]
  exact h2
theorem F_foot {W : World} {Q : Nat → Prop} {A : Option Addr} {c : Nat} {ts : List S29} (hl : ts.length ≤ c) (h : Kd.F k29 W Q A ts.length ts) : FootRow W Q (.slice A ts.length c,ts):=fun W' hW => ⟨A,c,rfl,hl,h W' hW⟩
theorem foot_kid {W : World} {Q : Nat → Prop} {A : Option Addr} {c : Nat} {ts : List S29} (h : FootRow W Q (.slice A ts.length c,ts)) (i : Nat) (x : S29) (hx : ts[i]? = some x) :
  ∃ ad A3 c3,A = some ad ∧ Q ad.block ∧ W.cell? (ad.add (i * 4)) = some (.int .i64 x.f0) ∧ W.cell? ⟨(ad.add (i * 4)).block,(ad.add (i * 4)).off + 1,none⟩ = some (.string x.f1) ∧ W.cell? ⟨(ad.add (i * 4)).block,(ad.add (i * 4)).off + 2,none⟩ = some (.int .i64 x.f2) ∧ W.cell? ⟨(ad.add (i * 4)).block,(ad.add (i * 4)).off + 3,none⟩ = some (.slice A3 x.f3.length c3) ∧ FootRow W Q (.slice A3 x.f3.length c3,x.f3):=by
 obtain ⟨hl,hF⟩:=foot_F h
 have hi : i < ts.length:=(List.getElem?_eq_some_iff.1 hx).1
 obtain ⟨ad,cs,e,hcl,hK,hc0,hq⟩:=Kd.F_get hF z29 (i : Int) (by omega) (by omega)
 have hx2 : ts.getD (i : Int).toNat z29 = x:=by rw [Int.toNat_natCast,List.getD_eq_getElem?_getD,hx];rfl
 rw [hx2] at hK
 have hc : ∀ j u,cs[j]? = some u → W.cell? (ad.add (i * 4 + j)) = some u:=hc0
 obtain ⟨A3,c3,rfl,l3,g3⟩:=k29_openF hK
 exact ⟨ad,A3,c3,e,hq (by decide),hc 0 _ rfl,by rw [← add_field _ _ 1 (by omega)];exact hc 1 _ rfl,by rw [← add_field _ _ 2 (by omega)];exact hc 2 _ rfl,by rw [← add_field _ _ 3 (by omega)];exact hc 3 _ rfl,F_foot l3 g3⟩
theorem Run.pool_out0 {w u W : World} {ok : Nat → Prop} {os : List As} {P : Nat → Prop} {l : List (Value × List S29)} (h : Run w u ok os W) (hno : ∀ k,¬ ok k) (i : Nat) (hi : os[i]? = some (As.pool u P l)) : ∀ p ∈ l,FootRow W (fun k => P k ∨ u.heap.size ≤ k) p:=by
 obtain ⟨f,hf⟩:=h.sep
 intro p hp W' h1
 exact hf i _ hi W' (fun k hk hl => h1 k (.inr (hk.2.elim (fun h2 => absurd h2 (hno k)) id)) hl) (fun k hk hl => (h1 k (.inl hk) (Nat.lt_of_lt_of_le hl h.up)).trans (h.ro (fun k _ => hno k) k hk hl)) p hp
theorem lit2_ok {l : List (Value × List S29)} {a b : S29} {va vb : Value} (ha : (va,a.f3) ∈ l) (hb : (vb,b.f3) ∈ l) : ∀ m x,[a,b][m]? = some x → ∃ v,(v,x.f3) ∈ l ∧ ∀ q u,[Value.int .i64 x.f0,.string x.f1,.int .i64 x.f2,v][q]? = some u → (#[Value.int .i64 a.f0,.string a.f1,.int .i64 a.f2,va,.int .i64 b.f0,.string b.f1,.int .i64 b.f2,vb] : Array Value)[m * 4 + q]? = some u:=by
 intro m x hx
 match m with
 | 0 =>
  obtain rfl : a = x:=by simpa using hx
  refine ⟨va,ha,fun q u hq => ?_⟩
  match q with
  | 0 => simpa using hq
  | 1 => simpa using hq
  | 2 => simpa using hq
  | 3 => simpa using hq
  | q + 4 => simp at hq
 | 1 =>
  obtain rfl : b = x:=by simpa using hx
  refine ⟨vb,hb,fun q u hq => ?_⟩
  match q with
  | 0 => simpa using hq
  | 1 => simpa using hq
  | 2 => simpa using hq
  | 3 => simpa using hq
  | q + 4 => simp at hq
 | m + 2 => simp at hx
section
set_option linter.unusedSectionVars false
variable [fk_laws_szTerm] [fk_laws_eqTerm] [fk_spec_l34Term] [fk_strconv_Itoa]
set_option maxHeartbeats 8000000 in
set_option maxRecDepth 100000 in
theorem struct_calls (s : ByteArray) (A : Option Addr) (n c : Nat) (w : World) : Calls Tryd.prog 62 #[.string s,.slice A n c] w fun e w' => e = .returned (.agg #[.int .i64 4,.string s,.int .i64 0,.slice A n c]) ∧ Below w.heap.size w w':=by
 go_enter Tryd.func62,Tryd.ntmps62
 go_wp2
 refine bodyPost_ret (results_cell_row rfl _ _ w.heap.size 29 #[.int .i64 4,.string s,.int .i64 0,.slice A n c] (0,0) _ rfl (blk_new w _) Tryd.underlying29 rfl (by kernel_rfl)) rfl ?_
 exact ⟨rfl,below_alloc (Below.refl _ _) _⟩
end
theorem ad_zero (ad : Addr) : ad.add 0 = ad:=by
 cases ad
 unfold Addr.add
 split <;> simp_all
theorem ad_four (ad : Addr) : ad.add ((1 : Int).toNat * 4) = ⟨ad.block,ad.off + 4,none⟩:=by
 unfold Addr.add
 rfl
section
set_option linter.unusedSectionVars false
variable [fk_laws_szTerm] [fk_laws_eqTerm] [fk_spec_l34Term] [fk_strconv_Itoa]
theorem foot_wide {W W' : World} {Q : Nat → Prop} {B : Nat} {p : Value × List S29} (h : FootRow W Q p) (hb : Below W.heap.size W W') : FootRow W' (fun k => Q k ∨ B ≤ k) p:=fun W2 h2 => h W2 (fun k hk hl => (h2 k (.inl hk) (Nat.lt_of_lt_of_le hl hb.size)).trans (hb.block k hl))
def it5_T : Bool × List (List Nat × List Nat):=(true,[([],[]),([0],[0]),([1],[1]),([2],[2]),([],[]),([3,4],[3,4]),([5],[5]),([6],[6]),([6],[6]),([],[]),([9,7,5,0,1,2,3,4,5,6,7,9],[7,9]),([8,10,0,1,2,3,4,5,6,7,8,9,10],[8])])
def it5_B : List Nat:=[0,1,3,7,0,31,63,127,127,0,767,2047]
theorem it5_tab : rtab .any (opsOf Tryd.f103 5) = it5_T:=by kernel_rfl
theorem it5_bits : waitsOk it5_T.2 it5_B = true:=by kernel_rfl
def it6_T : Bool × List (List Nat × List Nat):=(true,[([],[]),([0],[0]),([1],[1]),([2],[2]),([],[]),([3,4],[3,4]),([5],[5]),([],[]),([6,6,0,1,2,3,4,5,6],[6]),([7,8,0,1,2,3,4,5,6,7,8],[7])])
def it6_B : List Nat:=[0,1,3,7,0,31,63,0,127,511]
theorem it6_tab : rtab .any (opsOf Tryd.f103 6) = it6_T:=by kernel_rfl
theorem it6_bits : waitsOk it6_T.2 it6_B = true:=by kernel_rfl
set_option maxHeartbeats 16000000 in
set_option maxRecDepth 100000 in
theorem it_nil (t e : S29) (A : Option Addr) (c : Nat) (A2 : Option Addr) (c2 : Nat) (w : World) (Q : Nat → Prop) (he : FootRow w Q (.slice A2 e.f3.length c2,e.f3))
  (h1 : ∀ W,Below w.heap.size w W → Calls Tryd.prog 115 #[.agg #[.int .i64 t.f0,.string t.f1,.int .i64 t.f2,.slice A t.f3.length c],.string (⟨#[91,93]⟩ : ByteArray)] W fun e W' => e = .returned (.bool true) ∧ Below W.heap.size W W') :
  Calls Tryd.prog 103 #[.agg #[.int .i64 t.f0,.string t.f1,.int .i64 t.f2,.slice A t.f3.length c],.agg #[.int .i64 e.f0,.string e.f1,.int .i64 e.f2,.slice A2 e.f3.length c2]] w fun en w' => ∃ A c,en = .returned (.tuple #[.agg #[.int .i64 e.f0,.string e.f1,.int .i64 e.f2,.slice A e.f3.length c],.bool true]) ∧ FootRow w' (fun k => Q k ∨ w.heap.size ≤ k) (.slice A e.f3.length c,e.f3) ∧ Below w.heap.size w w':=by
 have H1:=asd h1
 have HE:=asd he
 have HR:=asd (run_law w)
 clear h1 he
 go_enter Tryd.func103,Tryd.ntmps103
 go_wp2_with (first
  | ((with_reducible refine gate_dst (N:=2) rfl ?_);refine nb HR 2 (cs:=#[.int .i64 t.f0,.string t.f1,.int .i64 t.f2,.slice A t.f3.length c]) (t:=29) rfl rfl (by first | (go_simp;done) | (go_simp;rfl)) ?_;clear HR;intro ga w1 HR)
  | ((with_reducible refine gate_dst (N:=3) rfl ?_);refine nb HR 3 (cs:=#[.int .i64 e.f0,.string e.f1,.int .i64 e.f2,.slice A2 e.f3.length c2]) (t:=29) rfl rfl (by first | (go_simp;done) | (go_simp;rfl)) ?_;clear HR;intro ge w2 HR)
  | ((with_reducible refine gate_dst (N:=4) rfl ?_);refine nb HR 4 (cs:=#[.int .i64 0,.string (⟨#[]⟩ : ByteArray),.int .i64 0,.slice none 0 0]) (t:=29) rfl rfl (by first | (go_simp;done) | (go_simp;rfl)) ?_;clear HR;intro gr w3 HR;obtain ⟨c3ga0,c3ga1,c3ga2,c3ga3⟩:=HR.out.c4 2 rfl)
  | (go_at_call 115;(with_reducible refine (H1.out w3 HR.out.bel).mono ?_);rintro e_ w4 ⟨rfl,hb⟩;replace HR:=asd (HR.out.step hb);clear hb;clear c3ga0 c3ga1 c3ga2 c3ga3;obtain ⟨c4ge0,c4ge1,c4ge2,c4ge3⟩:=HR.out.c4 1 rfl;obtain ⟨c4gr0,c4gr1,c4gr2,c4gr3⟩:=HR.out.c4 0 rfl;obtain ⟨f4gr0,f4gr1,f4gr2,f4gr3⟩:=HR.out.f4 0 rfl)
  | ((with_reducible refine gate_store (t:=29) (p:=4) rfl ?_);refine stA HR 0 rfl [.int .i64 e.f0,.string e.f1,.int .i64 e.f2,.slice A2 e.f3.length c2] rfl rfl rfl rfl (by first | (go_simp;done) | (go_simp;rfl)) ?_;clear HR;intro w5 HR;clear c4ge0 c4ge1 c4ge2 c4ge3 c4gr0 c4gr1 c4gr2 c4gr3 f4gr0 f4gr1 f4gr2 f4gr3))
 refine bodyPost_ret (results_ct rfl _ _ gr 29 #[.int .i64 e.f0,.string e.f1,.int .i64 e.f2,.slice A2 e.f3.length c2] (0,0) _ rfl (HR.out.has 0 rfl).2 Tryd.underlying29 rfl (by kernel_rfl)) rfl ?_
 exact ⟨A2,c2,rfl,foot_wide HE.out HR.out.bel,HR.out.bel⟩
set_option maxHeartbeats 16000000 in
set_option maxRecDepth 100000 in
theorem it_no (t e : S29) (A : Option Addr) (c : Nat) (A2 : Option Addr) (c2 : Nat) (w : World) (Q : Nat → Prop) (he : FootRow w Q (.slice A2 e.f3.length c2,e.f3))
  (h1 : ∀ W,Below w.heap.size w W → Calls Tryd.prog 115 #[.agg #[.int .i64 t.f0,.string t.f1,.int .i64 t.f2,.slice A t.f3.length c],.string (⟨#[91,93]⟩ : ByteArray)] W fun e W' => e = .returned (.bool false) ∧ Below W.heap.size W W') (h2 : ∀ W,Below w.heap.size w W → Calls Tryd.prog 116 #[.agg #[.int .i64 t.f0,.string t.f1,.int .i64 t.f2,.slice A t.f3.length c]] W fun e W' => e = .returned (.bool false) ∧ Below W.heap.size W W') :
  Calls Tryd.prog 103 #[.agg #[.int .i64 t.f0,.string t.f1,.int .i64 t.f2,.slice A t.f3.length c],.agg #[.int .i64 e.f0,.string e.f1,.int .i64 e.f2,.slice A2 e.f3.length c2]] w fun en w' => ∃ A c,en = .returned (.tuple #[.agg #[.int .i64 z29.f0,.string z29.f1,.int .i64 z29.f2,.slice A z29.f3.length c],.bool false]) ∧ FootRow w' (fun k => Q k ∨ w.heap.size ≤ k) (.slice A z29.f3.length c,z29.f3) ∧ Below w.heap.size w w':=by
 have H1:=asd h1
 have H2:=asd h2
 have HE:=asd he
 have HR:=asd (run_law w)
 clear h1 he h2
 go_enter Tryd.func103,Tryd.ntmps103
 go_wp2_with (first
  | ((with_reducible refine gate_dst (N:=2) rfl ?_);refine nb HR 2 (cs:=#[.int .i64 t.f0,.string t.f1,.int .i64 t.f2,.slice A t.f3.length c]) (t:=29) rfl rfl (by first | (go_simp;done) | (go_simp;rfl)) ?_;clear HR;intro ga w1 HR)
  | ((with_reducible refine gate_dst (N:=3) rfl ?_);refine nb HR 3 (cs:=#[.int .i64 e.f0,.string e.f1,.int .i64 e.f2,.slice A2 e.f3.length c2]) (t:=29) rfl rfl (by first | (go_simp;done) | (go_simp;rfl)) ?_;clear HR;intro ge w2 HR)
  | ((with_reducible refine gate_dst (N:=4) rfl ?_);refine nb HR 4 (cs:=#[.int .i64 0,.string (⟨#[]⟩ : ByteArray),.int .i64 0,.slice none 0 0]) (t:=29) rfl rfl (by first | (go_simp;done) | (go_simp;rfl)) ?_;clear HR;intro gr w3 HR;obtain ⟨c3ga0,c3ga1,c3ga2,c3ga3⟩:=HR.out.c4 2 rfl)
  | (go_at_call 115;(with_reducible refine (H1.out w3 HR.out.bel).mono ?_);rintro e_ w4 ⟨rfl,hb⟩;replace HR:=asd (HR.out.step hb);clear hb;clear c3ga0 c3ga1 c3ga2 c3ga3;obtain ⟨c4ga0,c4ga1,c4ga2,c4ga3⟩:=HR.out.c4 2 rfl)
  | (go_at_call 116;(with_reducible refine (H2.out w4 HR.out.bel).mono ?_);rintro e_ w5 ⟨rfl,hb⟩;replace HR:=asd (HR.out.step hb);clear hb;clear c4ga0 c4ga1 c4ga2 c4ga3;obtain ⟨c5gr0,c5gr1,c5gr2,c5gr3⟩:=HR.out.c4 0 rfl;obtain ⟨f5gr0,f5gr1,f5gr2,f5gr3⟩:=HR.out.f4 0 rfl)
  | ((with_reducible refine gate_store (t:=29) (p:=4) rfl ?_);refine stA HR 0 rfl [.int .i64 0,.string (⟨#[]⟩ : ByteArray),.int .i64 0,.slice none 0 0] rfl rfl rfl rfl (by first | (go_simp;done) | (go_simp;rfl)) ?_;clear HR;intro w6 HR;clear c5gr0 c5gr1 c5gr2 c5gr3 f5gr0 f5gr1 f5gr2 f5gr3))
 refine bodyPost_ret (results_ct rfl _ _ gr 29 #[.int .i64 0,.string (⟨#[]⟩ : ByteArray),.int .i64 0,.slice none 0 0] (0,0) _ rfl (HR.out.has 0 rfl).2 Tryd.underlying29 rfl (by kernel_rfl)) rfl ?_
 exact ⟨none,0,rfl,foot_nil _ _,HR.out.bel⟩
set_option maxHeartbeats 16000000 in
set_option maxRecDepth 100000 in
theorem it_pair (a0 : Int) (a1 : ByteArray) (a2 : Int) (x y e r : S29) (b : Bool) (ad : Addr) (c : Nat) (A2 : Option Addr) (c2 : Nat) (w : World) (Q : Nat → Prop) (ht : FootRow w Q (.slice (some ad) 2 c,[x,y])) (he : FootRow w Q (.slice A2 e.f3.length c2,e.f3))
  (h1 : ∀ W,Below w.heap.size w W → Calls Tryd.prog 115 #[.agg #[.int .i64 a0,.string a1,.int .i64 a2,.slice (some ad) 2 c],.string (⟨#[91,93]⟩ : ByteArray)] W fun e W' => e = .returned (.bool false) ∧ Below W.heap.size W W') (h2 : ∀ W,Below w.heap.size w W → Calls Tryd.prog 116 #[.agg #[.int .i64 a0,.string a1,.int .i64 a2,.slice (some ad) 2 c]] W fun e W' => e = .returned (.bool true) ∧ Below W.heap.size W W')
  (ih : ∀ (W : World) (Q : Nat → Prop) (A : Option Addr) (c : Nat) (A2 : Option Addr) (c2 : Nat),FootRow W Q (.slice A y.f3.length c,y.f3) → FootRow W Q (.slice A2 e.f3.length c2,e.f3) → Calls Tryd.prog 103 #[.agg #[.int .i64 y.f0,.string y.f1,.int .i64 y.f2,.slice A y.f3.length c],.agg #[.int .i64 e.f0,.string e.f1,.int .i64 e.f2,.slice A2 e.f3.length c2]] W fun en W' => ∃ A c,en = .returned (.tuple #[.agg #[.int .i64 r.f0,.string r.f1,.int .i64 r.f2,.slice A r.f3.length c],.bool b]) ∧ FootRow W' (fun k => Q k ∨ W.heap.size ≤ k) (.slice A r.f3.length c,r.f3) ∧ Below W.heap.size W W') :
  Calls Tryd.prog 103 #[.agg #[.int .i64 a0,.string a1,.int .i64 a2,.slice (some ad) 2 c],.agg #[.int .i64 e.f0,.string e.f1,.int .i64 e.f2,.slice A2 e.f3.length c2]] w fun en w' => ∃ A c,en = .returned (.tuple #[.agg #[.int .i64 (⟨4,(⟨#[46]⟩ : ByteArray),0,[x,r]⟩ : S29).f0,.string (⟨4,(⟨#[46]⟩ : ByteArray),0,[x,r]⟩ : S29).f1,.int .i64 (⟨4,(⟨#[46]⟩ : ByteArray),0,[x,r]⟩ : S29).f2,.slice A (⟨4,(⟨#[46]⟩ : ByteArray),0,[x,r]⟩ : S29).f3.length c],.bool b]) ∧ FootRow w' (fun k => Q k ∨ w.heap.size ≤ k) (.slice A (⟨4,(⟨#[46]⟩ : ByteArray),0,[x,r]⟩ : S29).f3.length c,(⟨4,(⟨#[46]⟩ : ByteArray),0,[x,r]⟩ : S29).f3) ∧ Below w.heap.size w w':=by
 obtain ⟨ad1,A3,c3,e1,qx,hx0,hx1,hx2,hx3,hfx⟩:=foot_kid (ts:=[x,y]) ht 0 x rfl
 obtain ⟨ad2,A7,c7,e2,qy,hy0,hy1,hy2,hy3,hfy⟩:=foot_kid (ts:=[x,y]) ht 1 y rfl
 injection e1 with e1
 injection e2 with e2
 rw [← e1] at hx0 hx1 hx2 hx3
 rw [← e2] at hy0 hy1 hy2 hy3
 clear qx qy e1 e2 ad1 ad2
 have E0 : ad.add (0 * 4) = ad:=ad_zero ad
 have E1 : ad.add (1 * 4) = ⟨ad.block,ad.off + 4,none⟩:=ad_four ad
 rw [E0] at hx0 hx1 hx2 hx3
 rw [E1] at hy0 hy1 hy2 hy3
 clear E0 E1
 replace hy1 : w.cell? ⟨ad.block,ad.off + 5,none⟩ = _:=hy1
 replace hy2 : w.cell? ⟨ad.block,ad.off + 6,none⟩ = _:=hy2
 replace hy3 : w.cell? ⟨ad.block,ad.off + 7,none⟩ = _:=hy3
 have HR:=asd ((run_law w).push (As.pool w Q [(.slice A3 x.f3.length c3,x.f3),(.slice A7 y.f3.length c7,y.f3),(.slice A2 e.f3.length c2,e.f3)]) (Below.refl _ _) (pool_in (by
  intro p hp
  rcases List.mem_cons.1 hp with rfl|hp
  ·exact hfx
  ·rcases List.mem_cons.1 hp with rfl|hp
   ·exact hfy
   ·obtain rfl:=List.mem_singleton.1 hp
    exact he)))
 have HX0:=asd hx0
 have HX1:=asd hx1
 have HX2:=asd hx2
 have HX3:=asd hx3
 have HY0:=asd hy0
 have HY1:=asd hy1
 have HY2:=asd hy2
 have HY3:=asd hy3
 have H1:=asd h1
 have H2:=asd h2
 have IH:=asd ih
 clear hx0 hx1 hx2 hx3 hy0 hy1 hy2 hy3 h1 h2 ih ht he hfx hfy
 go_enter Tryd.func103,Tryd.ntmps103
 go_wp2_with (first
  | ((with_reducible refine gate_dst (N:=2) rfl ?_);refine nb HR 2 (cs:=#[.int .i64 a0,.string a1,.int .i64 a2,.slice (some ad) 2 c]) (t:=29) rfl rfl (by first | (go_simp;done) | (go_simp;rfl)) ?_;clear HR;intro ga w1 HR)
  | ((with_reducible refine gate_dst (N:=3) rfl ?_);refine nb HR 3 (cs:=#[.int .i64 e.f0,.string e.f1,.int .i64 e.f2,.slice A2 e.f3.length c2]) (t:=29) rfl rfl (by first | (go_simp;done) | (go_simp;rfl)) ?_;clear HR;intro ge w2 HR)
  | ((with_reducible refine gate_dst (N:=4) rfl ?_);refine nb HR 4 (cs:=#[.int .i64 0,.string (⟨#[]⟩ : ByteArray),.int .i64 0,.slice none 0 0]) (t:=29) rfl rfl (by first | (go_simp;done) | (go_simp;rfl)) ?_;clear HR;intro gr w3 HR;obtain ⟨c3ga0,c3ga1,c3ga2,c3ga3⟩:=HR.out.c4 2 rfl)
  | (go_at_call 115;(with_reducible refine (H1.out w3 HR.out.bel).mono ?_);rintro e_ w4 ⟨rfl,hb⟩;replace HR:=asd (HR.out.step hb);clear hb;clear c3ga0 c3ga1 c3ga2 c3ga3;obtain ⟨c4ga0,c4ga1,c4ga2,c4ga3⟩:=HR.out.c4 2 rfl)
  | (go_at_call 116;(with_reducible refine (H2.out w4 HR.out.bel).mono ?_);rintro e_ w5 ⟨rfl,hb⟩;replace HR:=asd (HR.out.step hb);clear hb;clear c4ga0 c4ga1 c4ga2 c4ga3))
 replace HR:=asd (HR.out.drew)
 refine start_ (n:=12) (S:=fun w' => C4 w' ga (.int .i64 a0) (.string a1) (.int .i64 a2) (.slice (some ad) 2 c) ∧ C4 w' ge (.int .i64 e.f0) (.string e.f1) (.int .i64 e.f2) (.slice A2 e.f3.length c2) ∧ w'.cell? ⟨ad.block,ad.off + 4,none⟩ = some (.int .i64 y.f0) ∧ w'.cell? ⟨ad.block,ad.off + 5,none⟩ = some (.string y.f1) ∧ w'.cell? ⟨ad.block,ad.off + 6,none⟩ = some (.int .i64 y.f2) ∧ w'.cell? ⟨ad.block,ad.off + 7,none⟩ = some (.slice A7 y.f3.length c7)) (ds:=[10]) (bl 12 0) (by kernel_rfl) rfl rfl ⟨HR.out.c4 2 rfl,HR.out.c4 1 rfl,(HR.out.bel.cell (World.block_lt_of_cell? w _ HY0.out)).trans HY0.out,(HR.out.bel.cell (World.block_lt_of_cell? w _ HY1.out)).trans HY1.out,(HR.out.bel.cell (World.block_lt_of_cell? w _ HY2.out)).trans HY2.out,(HR.out.bel.cell (World.block_lt_of_cell? w _ HY3.out)).trans HY3.out⟩ (fun hHeld => ?_);refine with_tabW it5_tab it5_bits (fun HT_ HW_ => ?_)
 generalize w5.drew = w6 at HR hHeld ⊢
 refine pu 0 16 (bl 12 1) HT_ (by kernel_rfl) rfl rfl (by rfl) (fun _ _ _ h => h) (by intro w';go_simp;with_reducible rfl) (by simp only [Act.put,sa,s0,s1];rfl) ?_
 refine tk 1 17 (bl 12 3) HT_ HW_ (by kernel_rfl) rfl rfl (by rfl) (fun _ _ _ h => h) hHeld (by rintro w' ⟨⟨s0,s1,s2,s3⟩,⟨s4,s5,s6,s7⟩,s8,s9,s10,s11⟩;go_simp;with_reducible rfl) (by simp only [Act.put,sa,s0,s1];rfl) ?_
 refine pu 2 18 (bl 12 7) HT_ (by kernel_rfl) rfl rfl (by rfl) (fun _ _ _ h => h) (by intro w';go_simp;with_reducible rfl) (by simp only [Act.put,sa,s0,s1];rfl) ?_
 refine tk 3 19 (bl 12 15) HT_ HW_ (by kernel_rfl) rfl rfl (by rfl) (fun _ _ _ h => h) hHeld (by rintro w' ⟨⟨s0,s1,s2,s3⟩,⟨s4,s5,s6,s7⟩,s8,s9,s10,s11⟩;go_simp;with_reducible rfl) (by simp only [Act.put,sa,s0,s1];rfl) ?_
 refine tk 4 20 (bl 12 31) HT_ HW_ (by kernel_rfl) rfl rfl (by rfl) (fun _ _ _ h => h) hHeld (by rintro w' ⟨⟨s0,s1,s2,s3⟩,⟨s4,s5,s6,s7⟩,s8,s9,s10,s11⟩;go_simp;with_reducible rfl) (by simp only [Act.put,sa,s0,s1];rfl) ?_
 refine join_ (σ:=Option Addr × Nat × Nat) 2 (bl 12 1023) (fun s => let ⟨A5,c5,gx⟩:=s;[(21,.tuple #[.agg #[.int .i64 r.f0,.string r.f1,.int .i64 r.f2,.slice A5 r.f3.length c5],.bool b]),(15,.tuple #[.agg #[.int .i64 r.f0,.string r.f1,.int .i64 r.f2,.slice A5 r.f3.length c5],.bool b]),(22,.agg #[.int .i64 r.f0,.string r.f1,.int .i64 r.f2,.slice A5 r.f3.length c5]),(23,.bool b),(6,.pointer (some ⟨gx,0,none⟩))]) (fun s w' => let ⟨A5,c5,gx⟩:=s;Run w w (fun _ => False) [As.box gx 29 #[.int .i64 0,.string (⟨#[]⟩ : ByteArray),.int .i64 0,.slice none 0 0],As.box gr 29 #[.int .i64 0,.string (⟨#[]⟩ : ByteArray),.int .i64 0,.slice none 0 0],As.box ge 29 #[.int .i64 e.f0,.string e.f1,.int .i64 e.f2,.slice A2 e.f3.length c2],As.box ga 29 #[.int .i64 a0,.string a1,.int .i64 a2,.slice (some ad) 2 c],As.pool w Q ([(.slice A5 r.f3.length c5,r.f3)] ++ [(.slice A3 x.f3.length c3,x.f3),(.slice A7 y.f3.length c7,y.f3),(.slice A2 e.f3.length c2,e.f3)])] w') ?_ ?_
 rotate_left
 ·intro hCont
  refine tw 5 9 (some 21) (some 6) (bl 12 63) (bl 12 543) HT_ (by kernel_rfl) rfl rfl rfl rfl (by decide) (by decide) ?_ ?_
  ·skip
   obtain ⟨Q_,hQ_,hput_⟩:=HR.out.ask0 (fun _ _ h => h) 3 rfl
   refine clS Tryd.func103 (by kernel_rfl) rfl #[.agg #[.int .i64 y.f0,.string y.f1,.int .i64 y.f2,.slice A7 y.f3.length c7],.agg #[.int .i64 e.f0,.string e.f1,.int .i64 e.f2,.slice A2 e.f3.length c2]] (by rfl) rfl rfl (by (try simp only [List.map_toArray,List.map_cons,List.map_nil]);first|done|rfl) ((IH.out w6 Q_ A7 c7 A2 c2 (hQ_ _ (by simp)) (hQ_ _ (by simp))).mono ?_)
   rintro e_ w7 ⟨A5,c5,rfl,hr_,hb⟩
   replace HR:=asd (hput_ _ [(.slice A5 r.f3.length c5,r.f3)] hb (by intro p hp;obtain rfl:=List.mem_singleton.1 hp;exact hr_))
   clear hQ_ hput_ hr_ hb Q_
   refine ⟨_,rfl,⟨HR.out.c4 2 rfl,HR.out.c4 1 rfl,(HR.out.bel.cell (World.block_lt_of_cell? w _ HY0.out)).trans HY0.out,(HR.out.bel.cell (World.block_lt_of_cell? w _ HY1.out)).trans HY1.out,(HR.out.bel.cell (World.block_lt_of_cell? w _ HY2.out)).trans HY2.out,(HR.out.bel.cell (World.block_lt_of_cell? w _ HY3.out)).trans HY3.out⟩,fun hHeld => ?_⟩
   refine nm (by simp only [Act.put,sa,s0,s1];rfl) ?_
   refine pu 6 15 (bl 12 127) HT_ (by kernel_rfl) rfl rfl (by rfl) (fun _ _ _ h => h) (by intro w';go_simp;with_reducible rfl) (by simp only [Act.put,sa,s0,s1];rfl) ?_
   refine pu 7 22 (bl 12 255) HT_ (by kernel_rfl) rfl rfl (by rfl) (fun _ _ _ h => h) (by intro w';go_simp;with_reducible rfl) (by simp only [Act.put,sa,s0,s1];rfl) ?_
   refine pu 8 23 (bl 12 511) HT_ (by kernel_rfl) rfl rfl (by rfl) (fun _ _ _ h => h) (by intro w';go_simp;with_reducible rfl) (by simp only [Act.put,sa,s0,s1];rfl) ?_
   refine on 9 (some 6) (bl 12 1023) HT_ (by kernel_rfl) rfl rfl (by decide) ?_
   refine nbS HR 6 (cs:=#[.int .i64 0,.string (⟨#[]⟩ : ByteArray),.int .i64 0,.slice none 0 0]) (t:=29) (by rfl) rfl (by first|(go_simp;done)|(go_simp;rfl)) ?_
   clear HR;intro gx w8 HR
   refine ⟨⟨HR.out.c4 3 rfl,HR.out.c4 2 rfl,(HR.out.bel.cell (World.block_lt_of_cell? w _ HY0.out)).trans HY0.out,(HR.out.bel.cell (World.block_lt_of_cell? w _ HY1.out)).trans HY1.out,(HR.out.bel.cell (World.block_lt_of_cell? w _ HY2.out)).trans HY2.out,(HR.out.bel.cell (World.block_lt_of_cell? w _ HY3.out)).trans HY3.out⟩,fun hHeld => ?_⟩
   refine nm (by simp only [Act.put,sa,s0,s1];rfl) ?_
   exact nm (by simp only [putAll,Act.put,sa,s0,s1]) (hCont (A5,c5,gx) _ HR.out)
  ·skip
   refine nbS HR 6 (cs:=#[.int .i64 0,.string (⟨#[]⟩ : ByteArray),.int .i64 0,.slice none 0 0]) (t:=29) (by rfl) rfl (by first|(go_simp;done)|(go_simp;rfl)) ?_
   clear HR;intro gx w7 HR
   refine ⟨⟨HR.out.c4 3 rfl,HR.out.c4 2 rfl,(HR.out.bel.cell (World.block_lt_of_cell? w _ HY0.out)).trans HY0.out,(HR.out.bel.cell (World.block_lt_of_cell? w _ HY1.out)).trans HY1.out,(HR.out.bel.cell (World.block_lt_of_cell? w _ HY2.out)).trans HY2.out,(HR.out.bel.cell (World.block_lt_of_cell? w _ HY3.out)).trans HY3.out⟩,fun hHeld => ?_⟩
   refine nm (by simp only [Act.put,sa,s0,s1];rfl) ?_
   refine on 5 (some 21) (bl 12 575) HT_ (by kernel_rfl) rfl rfl (by decide) ?_
   obtain ⟨Q_,hQ_,hput_⟩:=HR.out.ask0 (fun _ _ h => h) 4 rfl
   refine clS Tryd.func103 (by kernel_rfl) rfl #[.agg #[.int .i64 y.f0,.string y.f1,.int .i64 y.f2,.slice A7 y.f3.length c7],.agg #[.int .i64 e.f0,.string e.f1,.int .i64 e.f2,.slice A2 e.f3.length c2]] (by rfl) rfl rfl (by (try simp only [List.map_toArray,List.map_cons,List.map_nil]);first|done|rfl) ((IH.out w7 Q_ A7 c7 A2 c2 (hQ_ _ (by simp)) (hQ_ _ (by simp))).mono ?_)
   rintro e_ w8 ⟨A5,c5,rfl,hr_,hb⟩
   replace HR:=asd (hput_ _ [(.slice A5 r.f3.length c5,r.f3)] hb (by intro p hp;obtain rfl:=List.mem_singleton.1 hp;exact hr_))
   clear hQ_ hput_ hr_ hb Q_
   refine ⟨_,rfl,⟨HR.out.c4 3 rfl,HR.out.c4 2 rfl,(HR.out.bel.cell (World.block_lt_of_cell? w _ HY0.out)).trans HY0.out,(HR.out.bel.cell (World.block_lt_of_cell? w _ HY1.out)).trans HY1.out,(HR.out.bel.cell (World.block_lt_of_cell? w _ HY2.out)).trans HY2.out,(HR.out.bel.cell (World.block_lt_of_cell? w _ HY3.out)).trans HY3.out⟩,fun hHeld => ?_⟩
   refine nm (by simp only [Act.put,sa,s0,s1];rfl) ?_
   refine pu 6 15 (bl 12 639) HT_ (by kernel_rfl) rfl rfl (by rfl) (fun _ _ _ h => h) (by intro w';go_simp;with_reducible rfl) (by simp only [Act.put,sa,s0,s1];rfl) ?_
   refine pu 7 22 (bl 12 767) HT_ (by kernel_rfl) rfl rfl (by rfl) (fun _ _ _ h => h) (by intro w';go_simp;with_reducible rfl) (by simp only [Act.put,sa,s0,s1];rfl) ?_
   refine pu 8 23 (bl 12 1023) HT_ (by kernel_rfl) rfl rfl (by rfl) (fun _ _ _ h => h) (by intro w';go_simp;with_reducible rfl) (by simp only [Act.put,sa,s0,s1];rfl) ?_
   exact nm (by simp only [putAll,Act.put,sa,s0,s1]) (hCont (A5,c5,gx) _ HR.out)
 rintro ⟨A5,c5,gx⟩ w9 hR_
 clear HR;have HR:=asd hR_;clear hR_;dsimp only at HR
 refine nm (by simp only [putAll,Act.put,sa,s0,s1];rfl) ?_
 obtain ⟨hz0_,hz1_,hz2_,hz3_⟩:=HR.out.c4 0 rfl;obtain ⟨fz0_,fz1_,fz2_,fz3_⟩:=HR.out.f4 0 rfl
 refine lsA HR 0 10 (bl 12 2047) HT_ (by kernel_rfl) rfl rfl (by decide) rfl [.int .i64 r.f0,.string r.f1,.int .i64 r.f2,.slice A5 r.f3.length c5] rfl (by rfl) (by first|(go_simp;done)|(go_simp;rfl)) ?_
 clear HR hz0_ hz1_ hz2_ hz3_ fz0_ fz1_ fz2_ fz3_;intro w10 HR
 refine pu 11 7 (bl 12 4095) HT_ (by kernel_rfl) rfl rfl (by rfl) (fun _ _ _ h => h) (by intro w';go_simp;with_reducible rfl) (by simp only [Act.put,sa,s0,s1];rfl) ?_
 refine done_ (done_of HT_.out (by kernel_rfl)) ?_
 go_wp2_with fail
 replace HR:=asd (HR.out.drew)
 refine start_ (n:=10) (S:=fun w' => C4 w' ga (.int .i64 a0) (.string a1) (.int .i64 a2) (.slice (some ad) 2 c) ∧ C4 w' gx (.int .i64 r.f0) (.string r.f1) (.int .i64 r.f2) (.slice A5 r.f3.length c5) ∧ w'.cell? ad = some (.int .i64 x.f0) ∧ w'.cell? ⟨ad.block,ad.off + 1,none⟩ = some (.string x.f1) ∧ w'.cell? ⟨ad.block,ad.off + 2,none⟩ = some (.int .i64 x.f2) ∧ w'.cell? ⟨ad.block,ad.off + 3,none⟩ = some (.slice A3 x.f3.length c3)) (ds:=[8]) (bl 10 0) (by kernel_rfl) rfl rfl ⟨HR.out.c4 3 rfl,HR.out.c4 0 rfl,(HR.out.bel.cell (World.block_lt_of_cell? w _ HX0.out)).trans HX0.out,(HR.out.bel.cell (World.block_lt_of_cell? w _ HX1.out)).trans HX1.out,(HR.out.bel.cell (World.block_lt_of_cell? w _ HX2.out)).trans HX2.out,(HR.out.bel.cell (World.block_lt_of_cell? w _ HX3.out)).trans HX3.out⟩ (fun hHeld => ?_);refine with_tabW it6_tab it6_bits (fun HT_ HW_ => ?_)
 generalize w10.drew = w11 at HR hHeld ⊢
 refine pu 0 24 (bl 10 1) HT_ (by kernel_rfl) rfl rfl (by rfl) (fun _ _ _ h => h) (by intro w';go_simp;with_reducible rfl) (by simp only [Act.put,sa,s0,s1];rfl) ?_
 refine tk 1 25 (bl 10 3) HT_ HW_ (by kernel_rfl) rfl rfl (by rfl) (fun _ _ _ h => h) hHeld (by rintro w' ⟨⟨s0,s1,s2,s3⟩,⟨s4,s5,s6,s7⟩,s8,s9,s10,s11⟩;go_simp;with_reducible rfl) (by simp only [Act.put,sa,s0,s1];rfl) ?_
 refine pu 2 26 (bl 10 7) HT_ (by kernel_rfl) rfl rfl (by rfl) (fun _ _ _ h => h) (by intro w';go_simp;with_reducible rfl) (by simp only [Act.put,sa,s0,s1];rfl) ?_
 refine tk 3 27 (bl 10 15) HT_ HW_ (by kernel_rfl) rfl rfl (by rfl) (fun _ _ _ h => h) hHeld (by rintro w' ⟨⟨s0,s1,s2,s3⟩,⟨s4,s5,s6,s7⟩,s8,s9,s10,s11⟩;go_simp;with_reducible rfl) (by simp only [Act.put,sa,s0,s1];rfl) ?_
 refine tk 4 28 (bl 10 31) HT_ HW_ (by kernel_rfl) rfl rfl (by rfl) (fun _ _ _ h => h) hHeld (by rintro w' ⟨⟨s0,s1,s2,s3⟩,⟨s4,s5,s6,s7⟩,s8,s9,s10,s11⟩;go_simp;with_reducible rfl) (by simp only [Act.put,sa,s0,s1];rfl) ?_
 refine pu 7 31 (bl 10 159) HT_ (by kernel_rfl) rfl rfl (by rfl) (fun _ _ _ h => h) (by intro w';go_simp;with_reducible rfl) (by simp only [Act.put,sa,s0,s1];rfl) ?_
 refine on 5 (some 29) (bl 10 191) HT_ (by kernel_rfl) rfl rfl (by decide) ?_
 refine ltS HR 29 2 (cs:=#[.int .i64 x.f0,.string x.f1,.int .i64 x.f2,.slice A3 x.f3.length c3,.int .i64 r.f0,.string r.f1,.int .i64 r.f2,.slice A5 r.f3.length c5]) (t:=29) (by rfl) rfl (by first|(go_simp;done)|(go_simp;rfl)) ?_
 clear HR;intro gl w12 HR
 refine ⟨⟨HR.out.c4 4 rfl,HR.out.c4 1 rfl,(HR.out.bel.cell (World.block_lt_of_cell? w _ HX0.out)).trans HX0.out,(HR.out.bel.cell (World.block_lt_of_cell? w _ HX1.out)).trans HX1.out,(HR.out.bel.cell (World.block_lt_of_cell? w _ HX2.out)).trans HX2.out,(HR.out.bel.cell (World.block_lt_of_cell? w _ HX3.out)).trans HX3.out⟩,fun hHeld => ?_⟩
 refine nm (by simp only [Act.put,sa,s0,s1];rfl) ?_
 refine on 6 (some 30) (bl 10 255) HT_ (by kernel_rfl) rfl rfl (by decide) ?_
 refine clS Tryd.func62 (by kernel_rfl) rfl #[.string (⟨#[46]⟩ : ByteArray),.slice (some ⟨gl,0,none⟩) 2 2] (by rfl) rfl rfl (by (try simp only [List.map_toArray,List.map_cons,List.map_nil]);first|done|rfl) ((struct_calls (⟨#[46]⟩ : ByteArray) (some ⟨gl,0,none⟩) 2 2 w12).mono ?_)
 rintro e_ w13 ⟨rfl,hb⟩
 replace HR:=asd (HR.out.step hb)
 clear hb
 refine ⟨_,rfl,⟨HR.out.c4 4 rfl,HR.out.c4 1 rfl,(HR.out.bel.cell (World.block_lt_of_cell? w _ HX0.out)).trans HX0.out,(HR.out.bel.cell (World.block_lt_of_cell? w _ HX1.out)).trans HX1.out,(HR.out.bel.cell (World.block_lt_of_cell? w _ HX2.out)).trans HX2.out,(HR.out.bel.cell (World.block_lt_of_cell? w _ HX3.out)).trans HX3.out⟩,fun hHeld => ?_⟩
 refine nm (by simp only [Act.put,sa,s0,s1];rfl) ?_
 obtain ⟨hz0_,hz1_,hz2_,hz3_⟩:=HR.out.c4 2 rfl;obtain ⟨fz0_,fz1_,fz2_,fz3_⟩:=HR.out.f4 2 rfl
 refine lsA HR 2 8 (bl 10 511) HT_ (by kernel_rfl) rfl rfl (by decide) rfl [.int .i64 4,.string (⟨#[46]⟩ : ByteArray),.int .i64 0,.slice (some ⟨gl,0,none⟩) 2 2] rfl (by rfl) (by first|(go_simp;done)|(go_simp;rfl)) ?_
 clear HR hz0_ hz1_ hz2_ hz3_ fz0_ fz1_ fz2_ fz3_;intro w14 HR
 refine pu 9 5 (bl 10 1023) HT_ (by kernel_rfl) rfl rfl (by rfl) (fun _ _ _ h => h) (by intro w';go_simp;with_reducible rfl) (by simp only [Act.put,sa,s0,s1];rfl) ?_
 refine done_ (done_of HT_.out (by kernel_rfl)) ?_
 try go_wp2
 refine bodyPost_ret (results_ct rfl _ _ gr 29 #[.int .i64 4,.string (⟨#[46]⟩ : ByteArray),.int .i64 0,.slice (some ⟨gl,0,none⟩) 2 2] (0,0) _ rfl (HR.out.has 2 rfl).2 Tryd.underlying29 rfl (by kernel_rfl)) rfl ?_
 have HP:=HR.out.pool_lit 5 0 rfl rfl (by decide) [x,r] 2 rfl (by decide) (lit2_ok (va:=.slice A3 x.f3.length c3) (vb:=.slice A5 r.f3.length c5) (by simp) (by simp))
 exact ⟨some ⟨gl,0,none⟩,2,rfl,HP.pool_out0 (fun _ h => h) 5 rfl _ (List.mem_cons_self),HR.out.bel⟩
end
section
set_option linter.unusedSectionVars false
variable [fk_laws_szTerm] [fk_laws_eqTerm] [fk_spec_l34Term] [fk_strconv_Itoa]
set_option maxHeartbeats 16000000 in
set_option maxRecDepth 100000 in
theorem two_calls (s : ByteArray) (a b : S29) (va vb : Value) (hva : va.cells.toList = [va]) (hvb : vb.cells.toList = [vb]) (h1 : va.oneCell' = true) (h2 : vb.oneCell' = true) (w : World) : Calls Tryd.prog 97 #[.string s,.agg #[.int .i64 a.f0,.string a.f1,.int .i64 a.f2,va],.agg #[.int .i64 b.f0,.string b.f1,.int .i64 b.f2,vb]] w fun e w' => ∃ g,e = .returned (.agg #[.int .i64 4,.string s,.int .i64 0,.slice (some ⟨g,0,none⟩) 2 2]) ∧ (w.heap.size ≤ g ∧ w'.heap[g]? = some (.cells #[.int .i64 a.f0,.string a.f1,.int .i64 a.f2,va,.int .i64 b.f0,.string b.f1,.int .i64 b.f2,vb] 29 (0,0))) ∧ Below w.heap.size w w':=by
 have HR:=asd (run_law w)
 go_enter Tryd.func97,Tryd.ntmps97
 go_wp2_with (first
  | ((with_reducible refine gate_dst (N:=4) rfl ?_);refine nb HR 4 (cs:=#[.int .i64 a.f0,.string a.f1,.int .i64 a.f2,va]) (t:=29) rfl rfl (by first | (go_simp;done) | (go_simp;rfl)) ?_;clear HR;intro ga w1 HR)
  | ((with_reducible refine gate_dst (N:=5) rfl ?_);refine nb HR 5 (cs:=#[.int .i64 b.f0,.string b.f1,.int .i64 b.f2,vb]) (t:=29) rfl rfl (by first | (go_simp;done) | (go_simp;rfl)) ?_;clear HR;intro gb w2 HR)
  | ((with_reducible refine gate_dst (N:=6) rfl ?_);refine nb HR 6 (cs:=#[.int .i64 0,.string (⟨#[]⟩ : ByteArray),.int .i64 0,.slice none 0 0]) (t:=29) rfl rfl (by first | (go_simp;done) | (go_simp;rfl)) ?_;clear HR;intro gr w3 HR;obtain ⟨c3ga0,c3ga1,c3ga2,c3ga3⟩:=HR.out.c4 2 rfl;obtain ⟨c3gb0,c3gb1,c3gb2,c3gb3⟩:=HR.out.c4 1 rfl)
  | ((with_reducible refine gate_dst (N:=10) rfl ?_);refine lt HR 10 2 (cs:=#[.int .i64 a.f0,.string a.f1,.int .i64 a.f2,va,.int .i64 b.f0,.string b.f1,.int .i64 b.f2,vb]) (t:=29) rfl rfl (by first | (go_simp;done) | (go_simp;rfl)) ?_;clear HR;intro gl w4 HR;clear c3ga0 c3ga1 c3ga2 c3ga3 c3gb0 c3gb1 c3gb2 c3gb3;obtain ⟨c4gr0,c4gr1,c4gr2,c4gr3⟩:=HR.out.c4 1 rfl;obtain ⟨f4gr0,f4gr1,f4gr2,f4gr3⟩:=HR.out.f4 1 rfl)
  | ((with_reducible refine gate_store (t:=29) (p:=6) rfl ?_);refine stA HR 1 rfl [.int .i64 4,.string s,.int .i64 0,.slice (some ⟨gl,0,none⟩) 2 2] rfl rfl rfl rfl (by first | (go_simp;done) | (go_simp;rfl)) ?_;clear HR;intro w5 HR;clear c4gr0 c4gr1 c4gr2 c4gr3 f4gr0 f4gr1 f4gr2 f4gr3))
 refine bodyPost_ret (results_cell_row rfl _ _ gr 29 #[.int .i64 4,.string s,.int .i64 0,.slice (some ⟨gl,0,none⟩) 2 2] (0,0) _ rfl (HR.out.has 1 rfl).2 Tryd.underlying29 rfl (by kernel_rfl)) rfl ?_
 exact ⟨gl,rfl,⟨(HR.out.has 0 rfl).1,(HR.out.has 0 rfl).2⟩,HR.out.bel⟩
def rw5_T : Bool × List (List Nat × List Nat):=(true,[([],[]),([0],[0]),([1],[1]),([2],[2]),([],[]),([3,4],[3,4]),([5],[5]),([6],[6]),([6],[6]),([],[]),([9,7,5,0,1,2,3,4,5,6,7,9],[7,9]),([8,10,0,1,2,3,4,5,6,7,8,9,10],[8])])
def rw5_B : List Nat:=[0,1,3,7,0,31,63,127,127,0,767,2047]
theorem rw5_tab : rtab .any (opsOf Tryd.f114 5) = rw5_T:=by kernel_rfl
theorem rw5_bits : waitsOk rw5_T.2 rw5_B = true:=by kernel_rfl
def rw6_T : Bool × List (List Nat × List Nat):=(true,[([],[]),([0],[0]),([1],[1]),([2],[2]),([],[]),([3,4],[3,4]),([],[]),([5,5,0,1,2,3,4,5],[5]),([6,7,0,1,2,3,4,5,6,7],[6])])
def rw6_B : List Nat:=[0,1,3,7,0,31,0,63,255]
theorem rw6_tab : rtab .any (opsOf Tryd.f114 6) = rw6_T:=by kernel_rfl
theorem rw6_bits : waitsOk rw6_T.2 rw6_B = true:=by kernel_rfl
set_option maxHeartbeats 16000000 in
set_option maxRecDepth 100000 in
theorem rw_nil (t e : S29) (A : Option Addr) (c : Nat) (A2 : Option Addr) (c2 : Nat) (w : World) (Q : Nat → Prop) (he : FootRow w Q (.slice A2 e.f3.length c2,e.f3)) (hk : t.f0 = 2) (hn : t.f1.toList = [91,93])
   :
  Calls Tryd.prog 114 #[.agg #[.int .i64 t.f0,.string t.f1,.int .i64 t.f2,.slice A t.f3.length c],.agg #[.int .i64 e.f0,.string e.f1,.int .i64 e.f2,.slice A2 e.f3.length c2]] w fun en w' => ∃ A c,en = .returned (.tuple #[.agg #[.int .i64 e.f0,.string e.f1,.int .i64 e.f2,.slice A e.f3.length c],.bool true]) ∧ FootRow w' (fun k => Q k ∨ w.heap.size ≤ k) (.slice A e.f3.length c,e.f3) ∧ Below w.heap.size w w':=by
 have HE:=asd he
 have HR:=asd (run_law w)
 have ck0 : (t.f0 == 2) = true:=beq_iff_eq.2 hk
 have ck1 : decide (t.f0 = 2) = true:=decide_eq_true hk
 have cn0 : (t.f1.toList == [91,93]) = true:=beq_iff_eq.2 hn
 clear he
 go_enter Tryd.func114,Tryd.ntmps114
 go_wp2_with (first
  | ((with_reducible refine gate_dst (N:=2) rfl ?_);refine nb HR 2 (cs:=#[.int .i64 t.f0,.string t.f1,.int .i64 t.f2,.slice A t.f3.length c]) (t:=29) rfl rfl (by first | (go_simp;done) | (go_simp;rfl)) ?_;clear HR;intro ga w1 HR)
  | ((with_reducible refine gate_dst (N:=3) rfl ?_);refine nb HR 3 (cs:=#[.int .i64 e.f0,.string e.f1,.int .i64 e.f2,.slice A2 e.f3.length c2]) (t:=29) rfl rfl (by first | (go_simp;done) | (go_simp;rfl)) ?_;clear HR;intro ge w2 HR)
  | ((with_reducible refine gate_dst (N:=4) rfl ?_);refine nb HR 4 (cs:=#[.int .i64 0,.string (⟨#[]⟩ : ByteArray),.int .i64 0,.slice none 0 0]) (t:=29) rfl rfl (by first | (go_simp;done) | (go_simp;rfl)) ?_;clear HR;intro gr w3 HR;obtain ⟨c3ga0,c3ga1,c3ga2,c3ga3⟩:=HR.out.c4 2 rfl;obtain ⟨c3ge0,c3ge1,c3ge2,c3ge3⟩:=HR.out.c4 1 rfl;obtain ⟨c3gr0,c3gr1,c3gr2,c3gr3⟩:=HR.out.c4 0 rfl;obtain ⟨f3gr0,f3gr1,f3gr2,f3gr3⟩:=HR.out.f4 0 rfl)
  | ((with_reducible refine gate_store (t:=29) (p:=4) rfl ?_);refine stA HR 0 rfl [.int .i64 e.f0,.string e.f1,.int .i64 e.f2,.slice A2 e.f3.length c2] rfl rfl rfl rfl (by first | (go_simp;done) | (go_simp;rfl)) ?_;clear HR;intro w4 HR;clear c3ga0 c3ga1 c3ga2 c3ga3 c3ge0 c3ge1 c3ge2 c3ge3 c3gr0 c3gr1 c3gr2 c3gr3 f3gr0 f3gr1 f3gr2 f3gr3))
 refine bodyPost_ret (results_ct rfl _ _ gr 29 #[.int .i64 e.f0,.string e.f1,.int .i64 e.f2,.slice A2 e.f3.length c2] (0,0) _ rfl (HR.out.has 0 rfl).2 Tryd.underlying29 rfl (by kernel_rfl)) rfl ?_
 exact ⟨A2,c2,rfl,foot_wide HE.out HR.out.bel,HR.out.bel⟩
set_option maxHeartbeats 16000000 in
set_option maxRecDepth 100000 in
theorem rw_no1 (t1 : ByteArray) (t2 : Int) (t3 : List S29) (e : S29) (A : Option Addr) (c : Nat) (A2 : Option Addr) (c2 : Nat) (w : World) (Q : Nat → Prop) (he : FootRow w Q (.slice A2 e.f3.length c2,e.f3)) (hn : t1.toList ≠ [91,93])
  (h2 : ∀ W,Below w.heap.size w W → Calls Tryd.prog 90 #[.agg #[.int .i64 2,.string t1,.int .i64 t2,.slice A t3.length c],.string (⟨#[46]⟩ : ByteArray),.int .i64 2] W fun e W' => e = .returned (.bool false) ∧ Below W.heap.size W W') :
  Calls Tryd.prog 114 #[.agg #[.int .i64 2,.string t1,.int .i64 t2,.slice A t3.length c],.agg #[.int .i64 e.f0,.string e.f1,.int .i64 e.f2,.slice A2 e.f3.length c2]] w fun en w' => ∃ A c,en = .returned (.tuple #[.agg #[.int .i64 z29.f0,.string z29.f1,.int .i64 z29.f2,.slice A z29.f3.length c],.bool false]) ∧ FootRow w' (fun k => Q k ∨ w.heap.size ≤ k) (.slice A z29.f3.length c,z29.f3) ∧ Below w.heap.size w w':=by
 have H2:=asd h2
 have HE:=asd he
 have HR:=asd (run_law w)
 have cn0 : (t1.toList == [91,93]) = false:=beq_eq_false_iff_ne.2 hn
 clear he h2
 go_enter Tryd.func114,Tryd.ntmps114
 go_wp2_with (first
  | ((with_reducible refine gate_dst (N:=2) rfl ?_);refine nb HR 2 (cs:=#[.int .i64 2,.string t1,.int .i64 t2,.slice A t3.length c]) (t:=29) rfl rfl (by first | (go_simp;done) | (go_simp;rfl)) ?_;clear HR;intro ga w1 HR)
  | ((with_reducible refine gate_dst (N:=3) rfl ?_);refine nb HR 3 (cs:=#[.int .i64 e.f0,.string e.f1,.int .i64 e.f2,.slice A2 e.f3.length c2]) (t:=29) rfl rfl (by first | (go_simp;done) | (go_simp;rfl)) ?_;clear HR;intro ge w2 HR)
  | ((with_reducible refine gate_dst (N:=4) rfl ?_);refine nb HR 4 (cs:=#[.int .i64 0,.string (⟨#[]⟩ : ByteArray),.int .i64 0,.slice none 0 0]) (t:=29) rfl rfl (by first | (go_simp;done) | (go_simp;rfl)) ?_;clear HR;intro gr w3 HR;obtain ⟨c3ga0,c3ga1,c3ga2,c3ga3⟩:=HR.out.c4 2 rfl)
  | (go_at_call 90;(with_reducible refine (H2.out w3 HR.out.bel).mono ?_);rintro e_ w4 ⟨rfl,hb⟩;replace HR:=asd (HR.out.step hb);clear hb;clear c3ga0 c3ga1 c3ga2 c3ga3;obtain ⟨c4gr0,c4gr1,c4gr2,c4gr3⟩:=HR.out.c4 0 rfl;obtain ⟨f4gr0,f4gr1,f4gr2,f4gr3⟩:=HR.out.f4 0 rfl)
  | ((with_reducible refine gate_store (t:=29) (p:=4) rfl ?_);refine stA HR 0 rfl [.int .i64 0,.string (⟨#[]⟩ : ByteArray),.int .i64 0,.slice none 0 0] rfl rfl rfl rfl (by first | (go_simp;done) | (go_simp;rfl)) ?_;clear HR;intro w5 HR;clear c4gr0 c4gr1 c4gr2 c4gr3 f4gr0 f4gr1 f4gr2 f4gr3))
 refine bodyPost_ret (results_ct rfl _ _ gr 29 #[.int .i64 0,.string (⟨#[]⟩ : ByteArray),.int .i64 0,.slice none 0 0] (0,0) _ rfl (HR.out.has 0 rfl).2 Tryd.underlying29 rfl (by kernel_rfl)) rfl ?_
 exact ⟨none,0,rfl,foot_nil _ _,HR.out.bel⟩
set_option maxHeartbeats 16000000 in
set_option maxRecDepth 100000 in
theorem rw_no2 (t e : S29) (A : Option Addr) (c : Nat) (A2 : Option Addr) (c2 : Nat) (w : World) (Q : Nat → Prop) (he : FootRow w Q (.slice A2 e.f3.length c2,e.f3)) (hk : t.f0 ≠ 2)
  (h2 : ∀ W,Below w.heap.size w W → Calls Tryd.prog 90 #[.agg #[.int .i64 t.f0,.string t.f1,.int .i64 t.f2,.slice A t.f3.length c],.string (⟨#[46]⟩ : ByteArray),.int .i64 2] W fun e W' => e = .returned (.bool false) ∧ Below W.heap.size W W') :
  Calls Tryd.prog 114 #[.agg #[.int .i64 t.f0,.string t.f1,.int .i64 t.f2,.slice A t.f3.length c],.agg #[.int .i64 e.f0,.string e.f1,.int .i64 e.f2,.slice A2 e.f3.length c2]] w fun en w' => ∃ A c,en = .returned (.tuple #[.agg #[.int .i64 z29.f0,.string z29.f1,.int .i64 z29.f2,.slice A z29.f3.length c],.bool false]) ∧ FootRow w' (fun k => Q k ∨ w.heap.size ≤ k) (.slice A z29.f3.length c,z29.f3) ∧ Below w.heap.size w w':=by
 have H2:=asd h2
 have HE:=asd he
 have HR:=asd (run_law w)
 have ck0 : (t.f0 == 2) = false:=beq_eq_false_iff_ne.2 hk
 have ck1 : decide (t.f0 = 2) = false:=decide_eq_false hk
 clear he h2
 go_enter Tryd.func114,Tryd.ntmps114
 go_wp2_with (first
  | ((with_reducible refine gate_dst (N:=2) rfl ?_);refine nb HR 2 (cs:=#[.int .i64 t.f0,.string t.f1,.int .i64 t.f2,.slice A t.f3.length c]) (t:=29) rfl rfl (by first | (go_simp;done) | (go_simp;rfl)) ?_;clear HR;intro ga w1 HR)
  | ((with_reducible refine gate_dst (N:=3) rfl ?_);refine nb HR 3 (cs:=#[.int .i64 e.f0,.string e.f1,.int .i64 e.f2,.slice A2 e.f3.length c2]) (t:=29) rfl rfl (by first | (go_simp;done) | (go_simp;rfl)) ?_;clear HR;intro ge w2 HR)
  | ((with_reducible refine gate_dst (N:=4) rfl ?_);refine nb HR 4 (cs:=#[.int .i64 0,.string (⟨#[]⟩ : ByteArray),.int .i64 0,.slice none 0 0]) (t:=29) rfl rfl (by first | (go_simp;done) | (go_simp;rfl)) ?_;clear HR;intro gr w3 HR;obtain ⟨c3ga0,c3ga1,c3ga2,c3ga3⟩:=HR.out.c4 2 rfl)
  | (go_at_call 90;(with_reducible refine (H2.out w3 HR.out.bel).mono ?_);rintro e_ w4 ⟨rfl,hb⟩;replace HR:=asd (HR.out.step hb);clear hb;clear c3ga0 c3ga1 c3ga2 c3ga3;obtain ⟨c4gr0,c4gr1,c4gr2,c4gr3⟩:=HR.out.c4 0 rfl;obtain ⟨f4gr0,f4gr1,f4gr2,f4gr3⟩:=HR.out.f4 0 rfl)
  | ((with_reducible refine gate_store (t:=29) (p:=4) rfl ?_);refine stA HR 0 rfl [.int .i64 0,.string (⟨#[]⟩ : ByteArray),.int .i64 0,.slice none 0 0] rfl rfl rfl rfl (by first | (go_simp;done) | (go_simp;rfl)) ?_;clear HR;intro w5 HR;clear c4gr0 c4gr1 c4gr2 c4gr3 f4gr0 f4gr1 f4gr2 f4gr3))
 refine bodyPost_ret (results_ct rfl _ _ gr 29 #[.int .i64 0,.string (⟨#[]⟩ : ByteArray),.int .i64 0,.slice none 0 0] (0,0) _ rfl (HR.out.has 0 rfl).2 Tryd.underlying29 rfl (by kernel_rfl)) rfl ?_
 exact ⟨none,0,rfl,foot_nil _ _,HR.out.bel⟩
set_option maxHeartbeats 16000000 in
set_option maxRecDepth 100000 in
theorem rw_pair (a0 : Int) (a1 : ByteArray) (a2 : Int) (x y e r : S29) (b : Bool) (ad : Addr) (c : Nat) (A2 : Option Addr) (c2 : Nat) (w : World) (Q : Nat → Prop) (ht : FootRow w Q (.slice (some ad) 2 c,[x,y])) (he : FootRow w Q (.slice A2 e.f3.length c2,e.f3))
  (hk : a0 ≠ 2) (h2 : ∀ W,Below w.heap.size w W → Calls Tryd.prog 90 #[.agg #[.int .i64 a0,.string a1,.int .i64 a2,.slice (some ad) 2 c],.string (⟨#[46]⟩ : ByteArray),.int .i64 2] W fun e W' => e = .returned (.bool true) ∧ Below W.heap.size W W')
  (ih : ∀ (W : World) (Q : Nat → Prop) (A : Option Addr) (c : Nat) (A2 : Option Addr) (c2 : Nat),FootRow W Q (.slice A y.f3.length c,y.f3) → FootRow W Q (.slice A2 e.f3.length c2,e.f3) → Calls Tryd.prog 114 #[.agg #[.int .i64 y.f0,.string y.f1,.int .i64 y.f2,.slice A y.f3.length c],.agg #[.int .i64 e.f0,.string e.f1,.int .i64 e.f2,.slice A2 e.f3.length c2]] W fun en W' => ∃ A c,en = .returned (.tuple #[.agg #[.int .i64 r.f0,.string r.f1,.int .i64 r.f2,.slice A r.f3.length c],.bool b]) ∧ FootRow W' (fun k => Q k ∨ W.heap.size ≤ k) (.slice A r.f3.length c,r.f3) ∧ Below W.heap.size W W') :
  Calls Tryd.prog 114 #[.agg #[.int .i64 a0,.string a1,.int .i64 a2,.slice (some ad) 2 c],.agg #[.int .i64 e.f0,.string e.f1,.int .i64 e.f2,.slice A2 e.f3.length c2]] w fun en w' => ∃ A c,en = .returned (.tuple #[.agg #[.int .i64 (⟨4,(⟨#[46]⟩ : ByteArray),0,[x,r]⟩ : S29).f0,.string (⟨4,(⟨#[46]⟩ : ByteArray),0,[x,r]⟩ : S29).f1,.int .i64 (⟨4,(⟨#[46]⟩ : ByteArray),0,[x,r]⟩ : S29).f2,.slice A (⟨4,(⟨#[46]⟩ : ByteArray),0,[x,r]⟩ : S29).f3.length c],.bool b]) ∧ FootRow w' (fun k => Q k ∨ w.heap.size ≤ k) (.slice A (⟨4,(⟨#[46]⟩ : ByteArray),0,[x,r]⟩ : S29).f3.length c,(⟨4,(⟨#[46]⟩ : ByteArray),0,[x,r]⟩ : S29).f3) ∧ Below w.heap.size w w':=by
 obtain ⟨ad1,A3,c3,e1,qx,hx0,hx1,hx2,hx3,hfx⟩:=foot_kid (ts:=[x,y]) ht 0 x rfl
 obtain ⟨ad2,A7,c7,e2,qy,hy0,hy1,hy2,hy3,hfy⟩:=foot_kid (ts:=[x,y]) ht 1 y rfl
 injection e1 with e1
 injection e2 with e2
 rw [← e1] at hx0 hx1 hx2 hx3
 rw [← e2] at hy0 hy1 hy2 hy3
 clear qx qy e1 e2 ad1 ad2
 have E0 : ad.add (0 * 4) = ad:=ad_zero ad
 have E1 : ad.add (1 * 4) = ⟨ad.block,ad.off + 4,none⟩:=ad_four ad
 rw [E0] at hx0 hx1 hx2 hx3
 rw [E1] at hy0 hy1 hy2 hy3
 clear E0 E1
 replace hy1 : w.cell? ⟨ad.block,ad.off + 5,none⟩ = _:=hy1
 replace hy2 : w.cell? ⟨ad.block,ad.off + 6,none⟩ = _:=hy2
 replace hy3 : w.cell? ⟨ad.block,ad.off + 7,none⟩ = _:=hy3
 have HR:=asd ((run_law w).push (As.pool w Q [(.slice A3 x.f3.length c3,x.f3),(.slice A7 y.f3.length c7,y.f3),(.slice A2 e.f3.length c2,e.f3)]) (Below.refl _ _) (pool_in (by
  intro p hp
  rcases List.mem_cons.1 hp with rfl|hp
  ·exact hfx
  ·rcases List.mem_cons.1 hp with rfl|hp
   ·exact hfy
   ·obtain rfl:=List.mem_singleton.1 hp
    exact he)))
 have HX0:=asd hx0
 have HX1:=asd hx1
 have HX2:=asd hx2
 have HX3:=asd hx3
 have HY0:=asd hy0
 have HY1:=asd hy1
 have HY2:=asd hy2
 have HY3:=asd hy3
 have H2:=asd h2
 have IH:=asd ih
 have ck0 : (a0 == 2) = false:=beq_eq_false_iff_ne.2 hk
 have ck1 : decide (a0 = 2) = false:=decide_eq_false hk
 clear hx0 hx1 hx2 hx3 hy0 hy1 hy2 hy3 h2 ih ht he hfx hfy
 go_enter Tryd.func114,Tryd.ntmps114
 go_wp2_with (first
  | ((with_reducible refine gate_dst (N:=2) rfl ?_);refine nb HR 2 (cs:=#[.int .i64 a0,.string a1,.int .i64 a2,.slice (some ad) 2 c]) (t:=29) rfl rfl (by first | (go_simp;done) | (go_simp;rfl)) ?_;clear HR;intro ga w1 HR)
  | ((with_reducible refine gate_dst (N:=3) rfl ?_);refine nb HR 3 (cs:=#[.int .i64 e.f0,.string e.f1,.int .i64 e.f2,.slice A2 e.f3.length c2]) (t:=29) rfl rfl (by first | (go_simp;done) | (go_simp;rfl)) ?_;clear HR;intro ge w2 HR)
  | ((with_reducible refine gate_dst (N:=4) rfl ?_);refine nb HR 4 (cs:=#[.int .i64 0,.string (⟨#[]⟩ : ByteArray),.int .i64 0,.slice none 0 0]) (t:=29) rfl rfl (by first | (go_simp;done) | (go_simp;rfl)) ?_;clear HR;intro gr w3 HR;obtain ⟨c3ga0,c3ga1,c3ga2,c3ga3⟩:=HR.out.c4 2 rfl)
  | (go_at_call 90;(with_reducible refine (H2.out w3 HR.out.bel).mono ?_);rintro e_ w4 ⟨rfl,hb⟩;replace HR:=asd (HR.out.step hb);clear hb;clear c3ga0 c3ga1 c3ga2 c3ga3))
 replace HR:=asd (HR.out.drew)
 refine start_ (n:=12) (S:=fun w' => C4 w' ga (.int .i64 a0) (.string a1) (.int .i64 a2) (.slice (some ad) 2 c) ∧ C4 w' ge (.int .i64 e.f0) (.string e.f1) (.int .i64 e.f2) (.slice A2 e.f3.length c2) ∧ w'.cell? ⟨ad.block,ad.off + 4,none⟩ = some (.int .i64 y.f0) ∧ w'.cell? ⟨ad.block,ad.off + 5,none⟩ = some (.string y.f1) ∧ w'.cell? ⟨ad.block,ad.off + 6,none⟩ = some (.int .i64 y.f2) ∧ w'.cell? ⟨ad.block,ad.off + 7,none⟩ = some (.slice A7 y.f3.length c7)) (ds:=[10]) (bl 12 0) (by kernel_rfl) rfl rfl ⟨HR.out.c4 2 rfl,HR.out.c4 1 rfl,(HR.out.bel.cell (World.block_lt_of_cell? w _ HY0.out)).trans HY0.out,(HR.out.bel.cell (World.block_lt_of_cell? w _ HY1.out)).trans HY1.out,(HR.out.bel.cell (World.block_lt_of_cell? w _ HY2.out)).trans HY2.out,(HR.out.bel.cell (World.block_lt_of_cell? w _ HY3.out)).trans HY3.out⟩ (fun hHeld => ?_);refine with_tabW rw5_tab rw5_bits (fun HT_ HW_ => ?_)
 generalize w4.drew = w5 at HR hHeld ⊢
 refine pu 0 22 (bl 12 1) HT_ (by kernel_rfl) rfl rfl (by rfl) (fun _ _ _ h => h) (by intro w';go_simp;with_reducible rfl) (by simp only [Act.put,sa,s0,s1];rfl) ?_
 refine tk 1 23 (bl 12 3) HT_ HW_ (by kernel_rfl) rfl rfl (by rfl) (fun _ _ _ h => h) hHeld (by rintro w' ⟨⟨s0,s1,s2,s3⟩,⟨s4,s5,s6,s7⟩,s8,s9,s10,s11⟩;go_simp;with_reducible rfl) (by simp only [Act.put,sa,s0,s1];rfl) ?_
 refine pu 2 24 (bl 12 7) HT_ (by kernel_rfl) rfl rfl (by rfl) (fun _ _ _ h => h) (by intro w';go_simp;with_reducible rfl) (by simp only [Act.put,sa,s0,s1];rfl) ?_
 refine tk 3 25 (bl 12 15) HT_ HW_ (by kernel_rfl) rfl rfl (by rfl) (fun _ _ _ h => h) hHeld (by rintro w' ⟨⟨s0,s1,s2,s3⟩,⟨s4,s5,s6,s7⟩,s8,s9,s10,s11⟩;go_simp;with_reducible rfl) (by simp only [Act.put,sa,s0,s1];rfl) ?_
 refine tk 4 26 (bl 12 31) HT_ HW_ (by kernel_rfl) rfl rfl (by rfl) (fun _ _ _ h => h) hHeld (by rintro w' ⟨⟨s0,s1,s2,s3⟩,⟨s4,s5,s6,s7⟩,s8,s9,s10,s11⟩;go_simp;with_reducible rfl) (by simp only [Act.put,sa,s0,s1];rfl) ?_
 refine join_ (σ:=Option Addr × Nat × Nat) 2 (bl 12 1023) (fun s => let ⟨A5,c5,gx⟩:=s;[(27,.tuple #[.agg #[.int .i64 r.f0,.string r.f1,.int .i64 r.f2,.slice A5 r.f3.length c5],.bool b]),(21,.tuple #[.agg #[.int .i64 r.f0,.string r.f1,.int .i64 r.f2,.slice A5 r.f3.length c5],.bool b]),(28,.agg #[.int .i64 r.f0,.string r.f1,.int .i64 r.f2,.slice A5 r.f3.length c5]),(29,.bool b),(6,.pointer (some ⟨gx,0,none⟩))]) (fun s w' => let ⟨A5,c5,gx⟩:=s;Run w w (fun _ => False) [As.box gx 29 #[.int .i64 0,.string (⟨#[]⟩ : ByteArray),.int .i64 0,.slice none 0 0],As.box gr 29 #[.int .i64 0,.string (⟨#[]⟩ : ByteArray),.int .i64 0,.slice none 0 0],As.box ge 29 #[.int .i64 e.f0,.string e.f1,.int .i64 e.f2,.slice A2 e.f3.length c2],As.box ga 29 #[.int .i64 a0,.string a1,.int .i64 a2,.slice (some ad) 2 c],As.pool w Q ([(.slice A5 r.f3.length c5,r.f3)] ++ [(.slice A3 x.f3.length c3,x.f3),(.slice A7 y.f3.length c7,y.f3),(.slice A2 e.f3.length c2,e.f3)])] w') ?_ ?_
 rotate_left
 ·intro hCont
  refine tw 5 9 (some 27) (some 6) (bl 12 63) (bl 12 543) HT_ (by kernel_rfl) rfl rfl rfl rfl (by decide) (by decide) ?_ ?_
  ·skip
   obtain ⟨Q_,hQ_,hput_⟩:=HR.out.ask0 (fun _ _ h => h) 3 rfl
   refine clS Tryd.func114 (by kernel_rfl) rfl #[.agg #[.int .i64 y.f0,.string y.f1,.int .i64 y.f2,.slice A7 y.f3.length c7],.agg #[.int .i64 e.f0,.string e.f1,.int .i64 e.f2,.slice A2 e.f3.length c2]] (by rfl) rfl rfl (by (try simp only [List.map_toArray,List.map_cons,List.map_nil]);first|done|rfl) ((IH.out w5 Q_ A7 c7 A2 c2 (hQ_ _ (by simp)) (hQ_ _ (by simp))).mono ?_)
   rintro e_ w6 ⟨A5,c5,rfl,hr_,hb⟩
   replace HR:=asd (hput_ _ [(.slice A5 r.f3.length c5,r.f3)] hb (by intro p hp;obtain rfl:=List.mem_singleton.1 hp;exact hr_))
   clear hQ_ hput_ hr_ hb Q_
   refine ⟨_,rfl,⟨HR.out.c4 2 rfl,HR.out.c4 1 rfl,(HR.out.bel.cell (World.block_lt_of_cell? w _ HY0.out)).trans HY0.out,(HR.out.bel.cell (World.block_lt_of_cell? w _ HY1.out)).trans HY1.out,(HR.out.bel.cell (World.block_lt_of_cell? w _ HY2.out)).trans HY2.out,(HR.out.bel.cell (World.block_lt_of_cell? w _ HY3.out)).trans HY3.out⟩,fun hHeld => ?_⟩
   refine nm (by simp only [Act.put,sa,s0,s1];rfl) ?_
   refine pu 6 21 (bl 12 127) HT_ (by kernel_rfl) rfl rfl (by rfl) (fun _ _ _ h => h) (by intro w';go_simp;with_reducible rfl) (by simp only [Act.put,sa,s0,s1];rfl) ?_
   refine pu 7 28 (bl 12 255) HT_ (by kernel_rfl) rfl rfl (by rfl) (fun _ _ _ h => h) (by intro w';go_simp;with_reducible rfl) (by simp only [Act.put,sa,s0,s1];rfl) ?_
   refine pu 8 29 (bl 12 511) HT_ (by kernel_rfl) rfl rfl (by rfl) (fun _ _ _ h => h) (by intro w';go_simp;with_reducible rfl) (by simp only [Act.put,sa,s0,s1];rfl) ?_
   refine on 9 (some 6) (bl 12 1023) HT_ (by kernel_rfl) rfl rfl (by decide) ?_
   refine nbS HR 6 (cs:=#[.int .i64 0,.string (⟨#[]⟩ : ByteArray),.int .i64 0,.slice none 0 0]) (t:=29) (by rfl) rfl (by first|(go_simp;done)|(go_simp;rfl)) ?_
   clear HR;intro gx w7 HR
   refine ⟨⟨HR.out.c4 3 rfl,HR.out.c4 2 rfl,(HR.out.bel.cell (World.block_lt_of_cell? w _ HY0.out)).trans HY0.out,(HR.out.bel.cell (World.block_lt_of_cell? w _ HY1.out)).trans HY1.out,(HR.out.bel.cell (World.block_lt_of_cell? w _ HY2.out)).trans HY2.out,(HR.out.bel.cell (World.block_lt_of_cell? w _ HY3.out)).trans HY3.out⟩,fun hHeld => ?_⟩
   refine nm (by simp only [Act.put,sa,s0,s1];rfl) ?_
   exact nm (by simp only [putAll,Act.put,sa,s0,s1]) (hCont (A5,c5,gx) _ HR.out)
  ·skip
   refine nbS HR 6 (cs:=#[.int .i64 0,.string (⟨#[]⟩ : ByteArray),.int .i64 0,.slice none 0 0]) (t:=29) (by rfl) rfl (by first|(go_simp;done)|(go_simp;rfl)) ?_
   clear HR;intro gx w6 HR
   refine ⟨⟨HR.out.c4 3 rfl,HR.out.c4 2 rfl,(HR.out.bel.cell (World.block_lt_of_cell? w _ HY0.out)).trans HY0.out,(HR.out.bel.cell (World.block_lt_of_cell? w _ HY1.out)).trans HY1.out,(HR.out.bel.cell (World.block_lt_of_cell? w _ HY2.out)).trans HY2.out,(HR.out.bel.cell (World.block_lt_of_cell? w _ HY3.out)).trans HY3.out⟩,fun hHeld => ?_⟩
   refine nm (by simp only [Act.put,sa,s0,s1];rfl) ?_
   refine on 5 (some 27) (bl 12 575) HT_ (by kernel_rfl) rfl rfl (by decide) ?_
   obtain ⟨Q_,hQ_,hput_⟩:=HR.out.ask0 (fun _ _ h => h) 4 rfl
   refine clS Tryd.func114 (by kernel_rfl) rfl #[.agg #[.int .i64 y.f0,.string y.f1,.int .i64 y.f2,.slice A7 y.f3.length c7],.agg #[.int .i64 e.f0,.string e.f1,.int .i64 e.f2,.slice A2 e.f3.length c2]] (by rfl) rfl rfl (by (try simp only [List.map_toArray,List.map_cons,List.map_nil]);first|done|rfl) ((IH.out w6 Q_ A7 c7 A2 c2 (hQ_ _ (by simp)) (hQ_ _ (by simp))).mono ?_)
   rintro e_ w7 ⟨A5,c5,rfl,hr_,hb⟩
   replace HR:=asd (hput_ _ [(.slice A5 r.f3.length c5,r.f3)] hb (by intro p hp;obtain rfl:=List.mem_singleton.1 hp;exact hr_))
   clear hQ_ hput_ hr_ hb Q_
   refine ⟨_,rfl,⟨HR.out.c4 3 rfl,HR.out.c4 2 rfl,(HR.out.bel.cell (World.block_lt_of_cell? w _ HY0.out)).trans HY0.out,(HR.out.bel.cell (World.block_lt_of_cell? w _ HY1.out)).trans HY1.out,(HR.out.bel.cell (World.block_lt_of_cell? w _ HY2.out)).trans HY2.out,(HR.out.bel.cell (World.block_lt_of_cell? w _ HY3.out)).trans HY3.out⟩,fun hHeld => ?_⟩
   refine nm (by simp only [Act.put,sa,s0,s1];rfl) ?_
   refine pu 6 21 (bl 12 639) HT_ (by kernel_rfl) rfl rfl (by rfl) (fun _ _ _ h => h) (by intro w';go_simp;with_reducible rfl) (by simp only [Act.put,sa,s0,s1];rfl) ?_
   refine pu 7 28 (bl 12 767) HT_ (by kernel_rfl) rfl rfl (by rfl) (fun _ _ _ h => h) (by intro w';go_simp;with_reducible rfl) (by simp only [Act.put,sa,s0,s1];rfl) ?_
   refine pu 8 29 (bl 12 1023) HT_ (by kernel_rfl) rfl rfl (by rfl) (fun _ _ _ h => h) (by intro w';go_simp;with_reducible rfl) (by simp only [Act.put,sa,s0,s1];rfl) ?_
   exact nm (by simp only [putAll,Act.put,sa,s0,s1]) (hCont (A5,c5,gx) _ HR.out)
 rintro ⟨A5,c5,gx⟩ w8 hR_
 clear HR;have HR:=asd hR_;clear hR_;dsimp only at HR
 refine nm (by simp only [putAll,Act.put,sa,s0,s1];rfl) ?_
 obtain ⟨hz0_,hz1_,hz2_,hz3_⟩:=HR.out.c4 0 rfl;obtain ⟨fz0_,fz1_,fz2_,fz3_⟩:=HR.out.f4 0 rfl
 refine lsA HR 0 10 (bl 12 2047) HT_ (by kernel_rfl) rfl rfl (by decide) rfl [.int .i64 r.f0,.string r.f1,.int .i64 r.f2,.slice A5 r.f3.length c5] rfl (by rfl) (by first|(go_simp;done)|(go_simp;rfl)) ?_
 clear HR hz0_ hz1_ hz2_ hz3_ fz0_ fz1_ fz2_ fz3_;intro w9 HR
 refine pu 11 7 (bl 12 4095) HT_ (by kernel_rfl) rfl rfl (by rfl) (fun _ _ _ h => h) (by intro w';go_simp;with_reducible rfl) (by simp only [Act.put,sa,s0,s1];rfl) ?_
 refine done_ (done_of HT_.out (by kernel_rfl)) ?_
 go_wp2_with fail
 replace HR:=asd (HR.out.drew)
 refine start_ (n:=9) (S:=fun w' => C4 w' ga (.int .i64 a0) (.string a1) (.int .i64 a2) (.slice (some ad) 2 c) ∧ C4 w' gx (.int .i64 r.f0) (.string r.f1) (.int .i64 r.f2) (.slice A5 r.f3.length c5) ∧ w'.cell? ad = some (.int .i64 x.f0) ∧ w'.cell? ⟨ad.block,ad.off + 1,none⟩ = some (.string x.f1) ∧ w'.cell? ⟨ad.block,ad.off + 2,none⟩ = some (.int .i64 x.f2) ∧ w'.cell? ⟨ad.block,ad.off + 3,none⟩ = some (.slice A3 x.f3.length c3)) (ds:=[7]) (bl 9 0) (by kernel_rfl) rfl rfl ⟨HR.out.c4 3 rfl,HR.out.c4 0 rfl,(HR.out.bel.cell (World.block_lt_of_cell? w _ HX0.out)).trans HX0.out,(HR.out.bel.cell (World.block_lt_of_cell? w _ HX1.out)).trans HX1.out,(HR.out.bel.cell (World.block_lt_of_cell? w _ HX2.out)).trans HX2.out,(HR.out.bel.cell (World.block_lt_of_cell? w _ HX3.out)).trans HX3.out⟩ (fun hHeld => ?_);refine with_tabW rw6_tab rw6_bits (fun HT_ HW_ => ?_)
 generalize w9.drew = w10 at HR hHeld ⊢
 refine pu 0 30 (bl 9 1) HT_ (by kernel_rfl) rfl rfl (by rfl) (fun _ _ _ h => h) (by intro w';go_simp;with_reducible rfl) (by simp only [Act.put,sa,s0,s1];rfl) ?_
 refine tk 1 31 (bl 9 3) HT_ HW_ (by kernel_rfl) rfl rfl (by rfl) (fun _ _ _ h => h) hHeld (by rintro w' ⟨⟨s0,s1,s2,s3⟩,⟨s4,s5,s6,s7⟩,s8,s9,s10,s11⟩;go_simp;with_reducible rfl) (by simp only [Act.put,sa,s0,s1];rfl) ?_
 refine pu 2 32 (bl 9 7) HT_ (by kernel_rfl) rfl rfl (by rfl) (fun _ _ _ h => h) (by intro w';go_simp;with_reducible rfl) (by simp only [Act.put,sa,s0,s1];rfl) ?_
 refine tk 3 33 (bl 9 15) HT_ HW_ (by kernel_rfl) rfl rfl (by rfl) (fun _ _ _ h => h) hHeld (by rintro w' ⟨⟨s0,s1,s2,s3⟩,⟨s4,s5,s6,s7⟩,s8,s9,s10,s11⟩;go_simp;with_reducible rfl) (by simp only [Act.put,sa,s0,s1];rfl) ?_
 refine tk 4 34 (bl 9 31) HT_ HW_ (by kernel_rfl) rfl rfl (by rfl) (fun _ _ _ h => h) hHeld (by rintro w' ⟨⟨s0,s1,s2,s3⟩,⟨s4,s5,s6,s7⟩,s8,s9,s10,s11⟩;go_simp;with_reducible rfl) (by simp only [Act.put,sa,s0,s1];rfl) ?_
 refine pu 6 36 (bl 9 95) HT_ (by kernel_rfl) rfl rfl (by rfl) (fun _ _ _ h => h) (by intro w';go_simp;with_reducible rfl) (by simp only [Act.put,sa,s0,s1];rfl) ?_
 refine on 5 (some 35) (bl 9 127) HT_ (by kernel_rfl) rfl rfl (by decide) ?_
 refine clS Tryd.func97 (by kernel_rfl) rfl #[.string (⟨#[46]⟩ : ByteArray),.agg #[.int .i64 x.f0,.string x.f1,.int .i64 x.f2,.slice A3 x.f3.length c3],.agg #[.int .i64 r.f0,.string r.f1,.int .i64 r.f2,.slice A5 r.f3.length c5]] (by rfl) rfl rfl (by (try simp only [List.map_toArray,List.map_cons,List.map_nil]);first|done|rfl) ((two_calls (⟨#[46]⟩ : ByteArray) x r (.slice A3 x.f3.length c3) (.slice A5 r.f3.length c5) rfl rfl rfl rfl w10).mono ?_)
 rintro e_ w11 ⟨gl,rfl,ho,hb⟩
 replace HR:=asd (HR.out.push (As.box gl 29 #[.int .i64 x.f0,.string x.f1,.int .i64 x.f2,.slice A3 x.f3.length c3,.int .i64 r.f0,.string r.f1,.int .i64 r.f2,.slice A5 r.f3.length c5]) hb ho)
 clear hb ho
 refine ⟨_,rfl,⟨HR.out.c4 4 rfl,HR.out.c4 1 rfl,(HR.out.bel.cell (World.block_lt_of_cell? w _ HX0.out)).trans HX0.out,(HR.out.bel.cell (World.block_lt_of_cell? w _ HX1.out)).trans HX1.out,(HR.out.bel.cell (World.block_lt_of_cell? w _ HX2.out)).trans HX2.out,(HR.out.bel.cell (World.block_lt_of_cell? w _ HX3.out)).trans HX3.out⟩,fun hHeld => ?_⟩
 refine nm (by simp only [Act.put,sa,s0,s1];rfl) ?_
 obtain ⟨hz0_,hz1_,hz2_,hz3_⟩:=HR.out.c4 2 rfl;obtain ⟨fz0_,fz1_,fz2_,fz3_⟩:=HR.out.f4 2 rfl
 refine lsA HR 2 7 (bl 9 255) HT_ (by kernel_rfl) rfl rfl (by decide) rfl [.int .i64 4,.string (⟨#[46]⟩ : ByteArray),.int .i64 0,.slice (some ⟨gl,0,none⟩) 2 2] rfl (by rfl) (by first|(go_simp;done)|(go_simp;rfl)) ?_
 clear HR hz0_ hz1_ hz2_ hz3_ fz0_ fz1_ fz2_ fz3_;intro w12 HR
 refine pu 8 5 (bl 9 511) HT_ (by kernel_rfl) rfl rfl (by rfl) (fun _ _ _ h => h) (by intro w';go_simp;with_reducible rfl) (by simp only [Act.put,sa,s0,s1];rfl) ?_
 refine done_ (done_of HT_.out (by kernel_rfl)) ?_
 try go_wp2
 refine bodyPost_ret (results_ct rfl _ _ gr 29 #[.int .i64 4,.string (⟨#[46]⟩ : ByteArray),.int .i64 0,.slice (some ⟨gl,0,none⟩) 2 2] (0,0) _ rfl (HR.out.has 2 rfl).2 Tryd.underlying29 rfl (by kernel_rfl)) rfl ?_
 have HP:=HR.out.pool_lit 5 0 rfl rfl (by decide) [x,r] 2 rfl (by decide) (lit2_ok (va:=.slice A3 x.f3.length c3) (vb:=.slice A5 r.f3.length c5) (by simp) (by simp))
 exact ⟨some ⟨gl,0,none⟩,2,rfl,HP.pool_out0 (fun _ h => h) 5 rfl _ (List.mem_cons_self),HR.out.bel⟩
end
def isB (s : ByteArray) (k : Int) (t : S29) : Bool:=if t.f0 = 4 then (if t.f1.toList = s.toList then ((t.f3.length : Int) == k) else false) else false
theorem is_i (s : ByteArray) (k : Int) (t : S29) : impl_isStruct.f t.f0 t.f1 t.f2 t.f3 s k = some (isB s k t):=by
 unfold impl_isStruct.f isB
 by_cases h1 : t.f0 = 4
 ·rw [if_pos h1,if_pos h1]
  by_cases h2 : t.f1.toList = s.toList
  ·rw [if_pos h2,if_pos h2]
  ·rw [if_neg h2,if_neg h2]
 ·rw [if_neg h1,if_neg h1]
theorem is_s (s : ByteArray) (k : Int) (t : S29) : spec_l03Is.f t.f0 t.f1 t.f2 t.f3 s k = some (isB s k t):=is_i s k t
theorem isB_kind {s : ByteArray} {k : Int} {t : S29} (h : isB s k t = true) : t.f0 = 4 ∧ (t.f3.length : Int) = k:=by
 unfold isB at h
 by_cases h1 : t.f0 = 4
 ·rw [if_pos h1] at h
  by_cases h2 : t.f1.toList = s.toList
  ·rw [if_pos h2] at h
   exact ⟨h1,eq_of_beq h⟩
  ·rw [if_neg h2] at h
   cases h
 ·rw [if_neg h1] at h
  cases h
def nilB (t : S29) : Bool:=decide (t.f0 = 2) && (t.f1.toList == [91,93])
theorem nil_i (t : S29) : impl_isAtom.f t.f0 t.f1 t.f2 t.f3 (⟨#[91,93]⟩ : ByteArray) = some (nilB t):=by
 unfold impl_isAtom.f nilB
 by_cases h1 : t.f0 = 2
 ·rw [if_pos h1,decide_eq_true h1,Bool.true_and,show (⟨#[91,93]⟩ : ByteArray).toList = [91,93] from by first|rfl|kernel_rfl|(go_simp;done)|simp [ByteArray.toList,ByteArray.toList.loop]]
 ·rw [if_neg h1,decide_eq_false h1,Bool.false_and]
theorem two_of_len {l : List S29} (h : l.length = 2) : ∃ x y,l = [x,y]:=by
 match l,h with
 | [x,y],_ => exact ⟨x,y,rfl⟩
def rowP : Nat → S29 → S29 → S29 × Bool
 | 0,_,_ => (z29,false)
 | n + 1,t,e => if nilB t = true then (e,true) else if isB (⟨#[46]⟩ : ByteArray) 2 t = true then (⟨4,(⟨#[46]⟩ : ByteArray),0,[t.f3.getD 0 z29,(rowP n (t.f3.getD 1 z29) e).1]⟩,(rowP n (t.f3.getD 1 z29) e).2) else (z29,false)
section
set_option linter.unusedSectionVars false
variable [fk_laws_szTerm] [fk_laws_eqTerm] [fk_spec_l34Term] [fk_strconv_Itoa]
set_option maxHeartbeats 4000000 in
theorem impl_row : ∀ (m : Nat) (t : S29),ht29 t ≤ m → ∀ (e : S29) (W : World) (Q : Nat → Prop) (A : Option Addr) (c : Nat) (A2 : Option Addr) (c2 : Nat),FootRow W Q (.slice A t.f3.length c,t.f3) → FootRow W Q (.slice A2 e.f3.length c2,e.f3) →
  Calls Tryd.prog 103 #[.agg #[.int .i64 t.f0,.string t.f1,.int .i64 t.f2,.slice A t.f3.length c],.agg #[.int .i64 e.f0,.string e.f1,.int .i64 e.f2,.slice A2 e.f3.length c2]] W fun en W' => ∃ A c,en = .returned (.tuple #[.agg #[.int .i64 (rowP m t e).1.f0,.string (rowP m t e).1.f1,.int .i64 (rowP m t e).1.f2,.slice A (rowP m t e).1.f3.length c],.bool (rowP m t e).2]) ∧ FootRow W' (fun k => Q k ∨ W.heap.size ≤ k) (.slice A (rowP m t e).1.f3.length c,(rowP m t e).1.f3) ∧ Below W.heap.size W W':=by
 intro m
 induction m with
 | zero =>
  intro t h
  rw [ht29_eq] at h
  omega
 | succ m ih =>
  intro t h e W Q A c A2 c2 ht he
  obtain ⟨hl,hF⟩:=foot_F ht
  have hC:=Kd.F_now hF
  by_cases h0 : nilB t = true
  ·have er : rowP (m + 1) t e = (e,true):=by rw [rowP,if_pos h0]
   rw [er]
   exact it_nil t e A c A2 c2 W Q he (fun W' hB => impl_isAtom.calls t.f0 t.f1 t.f2 A c t.f3 (⟨#[91,93]⟩ : ByteArray) true W' (Kd.C_below hC hB) hl (by rw [nil_i,h0]))
  ·have h0' : nilB t = false:=by simpa using h0
   by_cases h1 : isB (⟨#[46]⟩ : ByteArray) 2 t = true
   ·have hk:=isB_kind h1
    obtain ⟨x,y,hxy⟩:=two_of_len (l:=t.f3) (by omega)
    have er : rowP (m + 1) t e = (⟨4,(⟨#[46]⟩ : ByteArray),0,[x,(rowP m y e).1]⟩,(rowP m y e).2):=by rw [rowP,if_neg h0,if_pos h1,hxy];rfl
    rw [er]
    have hy : ht29 y ≤ m:=by
     have h2:=hts29_mem (ts:=t.f3) (t:=y) (by rw [hxy];simp)
     rw [ht29_eq] at h
     omega
    obtain ⟨a0,a1,a2,l⟩:=t
    obtain rfl : l = [x,y]:=hxy
    obtain ⟨ad,rfl,_⟩:=hC.2.2 (by show 0 < 2;decide)
    exact it_pair a0 a1 a2 x y e _ _ ad c A2 c2 W Q ht he (fun W' hB => impl_isAtom.calls a0 a1 a2 (some ad) c [x,y] (⟨#[91,93]⟩ : ByteArray) false W' (Kd.C_below hC hB) hl (by have:=nil_i (⟨a0,a1,a2,[x,y]⟩ : S29);rw [h0'] at this;exact this)) (fun W' hB => impl_isPair.calls a0 a1 a2 (some ad) c [x,y] true W' (Kd.C_below hC hB) hl (by have:=is_i (⟨#[46]⟩ : ByteArray) 2 (⟨a0,a1,a2,[x,y]⟩ : S29);rw [h1] at this;unfold impl_isPair.f;rw [this];rfl)) (fun W Q A c A2 c2 q1 q2 => ih y hy e W Q A c A2 c2 q1 q2)
   ·have h1' : isB (⟨#[46]⟩ : ByteArray) 2 t = false:=by simpa using h1
    have er : rowP (m + 1) t e = (z29,false):=by rw [rowP,if_neg h0,if_neg h1]
    rw [er]
    exact it_no t e A c A2 c2 W Q he (fun W' hB => impl_isAtom.calls t.f0 t.f1 t.f2 A c t.f3 (⟨#[91,93]⟩ : ByteArray) false W' (Kd.C_below hC hB) hl (by rw [nil_i,h0'])) (fun W' hB => impl_isPair.calls t.f0 t.f1 t.f2 A c t.f3 false W' (Kd.C_below hC hB) hl (by unfold impl_isPair.f;rw [is_i,h1'];rfl))
set_option maxHeartbeats 4000000 in
theorem spec_row : ∀ (m : Nat) (t : S29),ht29 t ≤ m → ∀ (e : S29) (W : World) (Q : Nat → Prop) (A : Option Addr) (c : Nat) (A2 : Option Addr) (c2 : Nat),FootRow W Q (.slice A t.f3.length c,t.f3) → FootRow W Q (.slice A2 e.f3.length c2,e.f3) →
  Calls Tryd.prog 114 #[.agg #[.int .i64 t.f0,.string t.f1,.int .i64 t.f2,.slice A t.f3.length c],.agg #[.int .i64 e.f0,.string e.f1,.int .i64 e.f2,.slice A2 e.f3.length c2]] W fun en W' => ∃ A c,en = .returned (.tuple #[.agg #[.int .i64 (rowP m t e).1.f0,.string (rowP m t e).1.f1,.int .i64 (rowP m t e).1.f2,.slice A (rowP m t e).1.f3.length c],.bool (rowP m t e).2]) ∧ FootRow W' (fun k => Q k ∨ W.heap.size ≤ k) (.slice A (rowP m t e).1.f3.length c,(rowP m t e).1.f3) ∧ Below W.heap.size W W':=by
 intro m
 induction m with
 | zero =>
  intro t h
  rw [ht29_eq] at h
  omega
 | succ m ih =>
  intro t h e W Q A c A2 c2 ht he
  obtain ⟨hl,hF⟩:=foot_F ht
  have hC:=Kd.F_now hF
  by_cases h0 : nilB t = true
  ·have er : rowP (m + 1) t e = (e,true):=by rw [rowP,if_pos h0]
   rw [er]
   have hk2 : t.f0 = 2 ∧ t.f1.toList = [91,93]:=by unfold nilB at h0;simpa using h0
   exact rw_nil t e A c A2 c2 W Q he hk2.1 hk2.2
  ·have h0' : nilB t = false:=by simpa using h0
   by_cases h1 : isB (⟨#[46]⟩ : ByteArray) 2 t = true
   ·have hk:=isB_kind h1
    obtain ⟨x,y,hxy⟩:=two_of_len (l:=t.f3) (by omega)
    have er : rowP (m + 1) t e = (⟨4,(⟨#[46]⟩ : ByteArray),0,[x,(rowP m y e).1]⟩,(rowP m y e).2):=by rw [rowP,if_neg h0,if_pos h1,hxy];rfl
    rw [er]
    have hy : ht29 y ≤ m:=by
     have h2:=hts29_mem (ts:=t.f3) (t:=y) (by rw [hxy];simp)
     rw [ht29_eq] at h
     omega
    obtain ⟨a0,a1,a2,l⟩:=t
    obtain rfl : l = [x,y]:=hxy
    obtain ⟨ad,rfl,_⟩:=hC.2.2 (by show 0 < 2;decide)
    exact rw_pair a0 a1 a2 x y e _ _ ad c A2 c2 W Q ht he (by have:=hk.1;intro e2;have e3 : a0 = 4:=hk.1;omega) (fun W' hB => spec_l03Is.calls a0 a1 a2 (some ad) c [x,y] (⟨#[46]⟩ : ByteArray) 2 true W' (Kd.C_below hC hB) hl (by have:=is_s (⟨#[46]⟩ : ByteArray) 2 (⟨a0,a1,a2,[x,y]⟩ : S29);rw [h1] at this;exact this)) (fun W Q A c A2 c2 q1 q2 => ih y hy e W Q A c A2 c2 q1 q2)
   ·have h1' : isB (⟨#[46]⟩ : ByteArray) 2 t = false:=by simpa using h1
    have er : rowP (m + 1) t e = (z29,false):=by rw [rowP,if_neg h0,if_neg h1]
    rw [er]
    by_cases hk : t.f0 = 2
    ·have hn : t.f1.toList ≠ [91,93]:=by
      intro hn
      unfold nilB at h0'
      rw [decide_eq_true hk,hn] at h0'
      cases h0'
     obtain ⟨t0,t1,t2,t3⟩:=t
     obtain rfl : t0 = 2:=hk
     exact rw_no1 t1 t2 t3 e A c A2 c2 W Q he hn (fun W' hB => spec_l03Is.calls 2 t1 t2 A c t3 (⟨#[46]⟩ : ByteArray) 2 false W' (Kd.C_below hC hB) hl (by have:=is_s (⟨#[46]⟩ : ByteArray) 2 (⟨2,t1,t2,t3⟩ : S29);rw [h1'] at this;exact this))
    ·exact rw_no2 t e A c A2 c2 W Q he hk (fun W' hB => spec_l03Is.calls t.f0 t.f1 t.f2 A c t.f3 (⟨#[46]⟩ : ByteArray) 2 false W' (Kd.C_below hC hB) hl (by rw [is_s,h1']))
end
end Go.Proofs.YtojedbogbodkiaaDoor.KGr
