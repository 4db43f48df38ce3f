/- Of this claim's own making;what nothing names is struck (fewall.py). -/
import Derived.Test.YtojedbogbodkiaaDoorKGrx8
import Derived.Test.YtojedbogbodkiaaDoorKGrx7
import Derived.Test.YtojedbogbodkiaaDoorKGrx6
import Derived.Test.YtojedbogbodkiaaDoorKGrx5
import Derived.Test.YtojedbogbodkiaaDoorKGrx4
import Derived.Test.YtojedbogbodkiaaDoorKGrx3
import Derived.Test.YtojedbogbodkiaaDoorKGrx2
import Derived.Test.YtojedbogbodkiaaDoorKGrx1
import Derived.Test.YtojedbogbodkiaaDoorShelf
import Derived.Deep.Slices
import Derived.Lib.ItoaNum
import Derived.Lib.ItoaLen
import Derived.Lib.AppendIntMem
import Derived.OpenShut
import Derived.Test.YtojedbogbodkiaaDoorKS
set_option linter.unusedVariables false
set_option linter.unusedSimpArgs false
namespace Go.Proofs.YtojedbogbodkiaaDoor.KGr
open Go.RowKit Go.Proofs.YtojedbogbodkiaaDoorW.PrintWords Go.Proofs.YtojedbogbodkiaaDoorW.PrintLast Go.Proofs.YtojedbogbodkiaaDoorW.PrintMore
@[reducible] def i_it : fk_strconv_Itoa:=⟨fun _ n => if -9223372036854775808 ≤ n ∧ n ≤ 9223372036854775807 then some ⟨(Lib.itoa n).toArray⟩ else none,fun _ _ => LeO.refl _,fun k n r w hT h => by
 by_cases hn : -9223372036854775808 ≤ n ∧ n ≤ 9223372036854775807
 ·rw [if_pos hn] at h
  cases h
  refine (Tryd.strconv_Itoa n hn.1 hn.2 w hT.here).mono ?_
  rintro e w' ⟨rfl,k,os,rfl⟩
  refine ⟨rfl,?_⟩
  exact Lib.below_grow w.heap.size w (Nat.le_refl _) k os
 ·rw [if_neg hn] at h
  cases h⟩
@[reducible] def d_sz : fk_laws_szTerm:=⟨fun _ _ _ _ _ _ => none,fun _ _ _ _ _ _ => LeO.none _,by intros;contradiction⟩
@[reducible] def d_eq : fk_laws_eqTerm:=⟨fun _ _ _ _ _ _ _ _ _ => none,fun _ _ _ _ _ _ _ _ _ => LeO.none _,by intros;contradiction⟩
@[reducible] def d_34 : fk_spec_l34Term:=⟨fun _ _ _ _ _ => none,fun _ _ _ _ _ => LeO.none _,by intros;contradiction⟩
@[reducible] def i_sz : Nat → fk_laws_szTerm
 | 0 => d_sz
 | n + 1 => letI:=i_sz n;letI:=d_eq;letI:=d_34;letI:=i_it;⟨laws_szTerm.f,laws_szTerm.mono,laws_szTerm.calls⟩
@[reducible] def i_eq : Nat → fk_laws_eqTerm
 | 0 => d_eq
 | n + 1 => letI:=i_eq n;letI:=d_sz;letI:=d_34;letI:=i_it;⟨laws_eqTerm.f,laws_eqTerm.mono,laws_eqTerm.calls⟩
@[reducible] def i_34 : Nat → fk_spec_l34Term
 | 0 => d_34
 | n + 1 => letI:=i_34 n;letI:=d_sz;letI:=d_eq;letI:=i_it;⟨spec_l34Term.f,spec_l34Term.mono,spec_l34Term.calls⟩
mutual
def ht24 : S24 → Nat
 | ⟨_,_,_,ks⟩ => hts24 ks + 1
def hts24 : List S24 → Nat
 | [] => 0
 | t :: ts => max (ht24 t) (hts24 ts)
end
mutual
def wt24 : S24 → Nat
 | ⟨_,n,_,ks⟩ => n.size + (ks.length + wts24 ks)
def wts24 : List S24 → Nat
 | [] => 0
 | t :: ts => wt24 t + wts24 ts
end
mutual
def ok24 : S24 → Prop
 | ⟨_,n,_,ks⟩ => n.size ≤ 9223372036854775807 ∧ ks.length ≤ 9223372036854775807 ∧ oks24 ks
def oks24 : List S24 → Prop
 | [] => True
 | t :: ts => ok24 t ∧ oks24 ts
end
mutual
def to29 : S24 → S29
 | ⟨a,n,b,ks⟩ => ⟨a,n,b,tos29 ks⟩
def tos29 : List S24 → List S29
 | [] => []
 | t :: ts => to29 t :: tos29 ts
end
mutual
def ht29 : S29 → Nat
 | ⟨_,_,_,ks⟩ => hts29 ks + 1
def hts29 : List S29 → Nat
 | [] => 0
 | t :: ts => max (ht29 t) (hts29 ts)
end
mutual
def cn29 : S29 → Nat
 | ⟨_,_,_,ks⟩ => cns29 ks + 1
def cns29 : List S29 → Nat
 | [] => 0
 | t :: ts => cn29 t + cns29 ts
end
theorem ht24_eq (t : S24) : ht24 t = hts24 t.f3 + 1:=by cases t;rw [ht24]
theorem wt24_eq (t : S24) : wt24 t = t.f1.size + (t.f3.length + wts24 t.f3):=by cases t;rw [wt24]
theorem ok24_eq (t : S24) : ok24 t ↔ t.f1.size ≤ 9223372036854775807 ∧ t.f3.length ≤ 9223372036854775807 ∧ oks24 t.f3:=by cases t;rw [ok24]
theorem to29_eq (t : S24) : to29 t = ⟨t.f0,t.f1,t.f2,tos29 t.f3⟩:=by cases t;rw [to29]
theorem ht29_eq (t : S29) : ht29 t = hts29 t.f3 + 1:=by cases t;rw [ht29]
theorem cn29_eq (t : S29) : cn29 t = cns29 t.f3 + 1:=by cases t;rw [cn29]
theorem hts24_mem {ts : List S24} {t : S24} (h : t ∈ ts) : ht24 t ≤ hts24 ts:=by
 induction ts with
 | nil => simp at h
 | cons a l ih =>
  rw [hts24]
  rcases List.mem_cons.1 h with rfl|h
  ·omega
  ·have:=ih h;omega
theorem hts29_mem {ts : List S29} {t : S29} (h : t ∈ ts) : ht29 t ≤ hts29 ts:=by
 induction ts with
 | nil => simp at h
 | cons a l ih =>
  rw [hts29]
  rcases List.mem_cons.1 h with rfl|h
  ·omega
  ·have:=ih h;omega
theorem wts24_mem {ts : List S24} {t : S24} (h : t ∈ ts) : wt24 t ≤ wts24 ts:=by
 induction ts with
 | nil => simp at h
 | cons a l ih =>
  rw [wts24]
  rcases List.mem_cons.1 h with rfl|h
  ·omega
  ·have:=ih h;omega
theorem oks24_mem {ts : List S24} {t : S24} (h : t ∈ ts) (ho : oks24 ts) : ok24 t:=by
 induction ts with
 | nil => simp at h
 | cons a l ih =>
  rw [oks24] at ho
  rcases List.mem_cons.1 h with rfl|h
  ·exact ho.1
  ·exact ih h ho.2
theorem tos29_map (ts : List S24) : tos29 ts = ts.map to29:=by
 induction ts with
 | nil => rw [tos29];rfl
 | cons a l ih => rw [tos29,ih];rfl
theorem tos29_length (ts : List S24) : (tos29 ts).length = ts.length:=by rw [tos29_map,List.length_map]
theorem hts_to (n : Nat) : (∀ t : S24,ht24 t ≤ n → ht29 (to29 t) = ht24 t) ∧ (∀ ts : List S24,hts24 ts ≤ n → hts29 (tos29 ts) = hts24 ts):=by
 induction n with
 | zero =>
  have h1 : ∀ t : S24,ht24 t ≤ 0 → ht29 (to29 t) = ht24 t:=fun t h => by rw [ht24_eq] at h;omega
  refine ⟨h1,fun ts h => ?_⟩
  cases ts with
  | nil => rw [tos29,hts29,hts24]
  | cons a l => rw [hts24] at h;have:=ht24_eq a;omega
 | succ n ih =>
  have h1 : ∀ t : S24,ht24 t ≤ n + 1 → ht29 (to29 t) = ht24 t:=fun t h => by
   rw [ht24_eq] at h ⊢
   rw [to29_eq,ht29_eq]
   rw [ih.2 _ (by omega)]
  refine ⟨h1,fun ts => ?_⟩
  induction ts with
  | nil => intro _;rw [tos29,hts29,hts24]
  | cons a l ihl =>
   intro h
   rw [hts24] at h
   rw [tos29,hts29,hts24,h1 a (by omega),ihl (by omega)]
theorem ht_to (t : S24) : ht29 (to29 t) = ht24 t:=(hts_to (ht24 t)).1 t (Nat.le_refl _)
theorem cns_wt (n : Nat) : (∀ t : S24,ht24 t ≤ n → cn29 (to29 t) ≤ wt24 t + 1) ∧ (∀ ts : List S24,hts24 ts ≤ n → cns29 (tos29 ts) ≤ wts24 ts + ts.length):=by
 induction n with
 | zero =>
  refine ⟨fun t h => by rw [ht24_eq] at h;omega,fun ts h => ?_⟩
  cases ts with
  | nil => rw [tos29,cns29];omega
  | cons a l => rw [hts24] at h;have:=ht24_eq a;omega
 | succ n ih =>
  have h1 : ∀ t : S24,ht24 t ≤ n + 1 → cn29 (to29 t) ≤ wt24 t + 1:=fun t h => by
   rw [ht24_eq] at h
   rw [to29_eq,cn29_eq,wt24_eq]
   have:=ih.2 t.f3 (by omega)
   show cns29 (tos29 t.f3) + 1 ≤ _
   omega
  refine ⟨h1,fun ts => ?_⟩
  induction ts with
  | nil => intro _;rw [tos29,cns29];omega
  | cons a l ihl =>
   intro h
   rw [hts24] at h
   rw [tos29,cns29,wts24]
   have h2:=h1 a (by omega)
   have h3:=ihl (by omega)
   simp only [List.length_cons]
   omega
theorem cn_wt (t : S24) : cn29 (to29 t) ≤ wt24 t + 1:=(cns_wt (ht24 t)).1 t (Nat.le_refl _)
theorem t_wrap {i : Int} (h0 : -4611686018427387904 ≤ i) (h1 : i ≤ 4611686018427387904) : wrap64 i = i:=by
 unfold wrap64;omega
theorem rd24_at (xs : List S24) (i : Nat) (h : i < xs.length) : rd_T24 xs (i : Int) = xs[i]:=by
 unfold rd_T24;simp [List.getD,h]
theorem rd29_at (xs : List S29) (i : Nat) (h : i < xs.length) : rd_T29 xs (i : Int) = xs[i]:=by
 unfold rd_T29;simp [List.getD,h]
theorem eta29 (t : S29) : (⟨t.f0,t.f1,t.f2,t.f3⟩ : S29) = t:=by cases t;rfl
theorem next_i (i n : Nat) (h : i < n) (hn : n ≤ 1048576) : wrap64 ((i : Int) + 1) = ((i + 1 : Nat) : Int):=by
 rw [t_wrap (by omega) (by omega)];omega
theorem cns29_mem {ts : List S29} {t : S29} (h : t ∈ ts) : cn29 t ≤ cns29 ts:=by
 induction ts with
 | nil => simp at h
 | cons a l ih =>
  rw [cns29]
  rcases List.mem_cons.1 h with rfl|h
  ·omega
  ·have:=ih h;omega
theorem cns29_len (ts : List S29) : ts.length ≤ cns29 ts:=by
 induction ts with
 | nil => simp
 | cons a l ih => rw [cns29];have:=cn29_eq a;simp only [List.length_cons];omega
open Go.ChangeShapes Go.WideShapes
section
variable {H : Type} {enc : TypeId × Value → H} {w : World} {base : Nat} {spare : Nat → Bool} {held : Bool}
theorem list_of {α : Type} {Q : Nat → α → Prop} : ∀ (n : Nat),(∀ i,i < n → ∃ t,Q i t) → ∃ l : List α,l.length = n ∧ ∀ i t,l[i]? = some t → Q i t
 | 0,_ => ⟨[],rfl,fun i t h => by simp at h⟩
 | n + 1,h => by
  obtain ⟨l,hl,hq⟩:=list_of n (fun i hi => h i (by omega))
  obtain ⟨t,ht⟩:=h n (by omega)
  refine ⟨l ++ [t],by simp [hl],fun i t' hi => ?_⟩
  rcases Nat.lt_or_ge i n with h1|h1
  ·rw [List.getElem?_append_left (by omega)] at hi;exact hq i t' hi
  ·rw [List.getElem?_append_right (by omega),hl] at hi
   have : i = n:=by
    rcases Nat.eq_or_lt_of_le h1 with h2|h2
    ·exact h2.symm
    ·rw [List.getElem?_eq_none (by simp;omega)] at hi;simp at hi
   subst this
   simp at hi;rw [← hi];exact ht
theorem oks24_of {ts : List S24} (h : ∀ t ∈ ts,ok24 t) : oks24 ts:=by
 induction ts with
 | nil => rw [oks24];trivial
 | cons a l ih => rw [oks24];exact ⟨h a (by simp),ih fun t ht => h t (by simp [ht])⟩
set_option maxRecDepth 100000 in
theorem open_T (fuel : Nat) : ∀ (cs : List Value) (x : DataW H × List MemPlace),DataW.trod enc Tryd.prog w base spare held fuel 24 cs = some x → ∃ t : S24,k24.K w t cs ∧ ok24 t:=by
 induction fuel using Nat.strongRecOn with
 | _ fuel IH =>
  intro cs x h
  obtain ⟨xs,n,rfl,rfl,hlen,hxl,hf⟩:=DataW.trod_struct Tryd.underlying24 h
  have hC : Tryd.prog.cellsOf 24 = 4:=by kernel_rfl
  rw [hC] at hlen
  match cs,hlen,xs,hxl with
  | [c0,c1,c2,c3],_,[y0,y1,y2,y3],_ =>
   have C3 : Tryd.prog.cellsOf 3 = 1:=by kernel_rfl
   have C9 : Tryd.prog.cellsOf 9 = 1:=by kernel_rfl
   have C22 : Tryd.prog.cellsOf 22 = 1:=by kernel_rfl
   have g0 : DataW.trod enc Tryd.prog w base spare held n 3 [c0] = some y0:=by
    have g : DataW.trod enc Tryd.prog w base spare held n 3 (([c0,c1,c2,c3].drop 0).take (Tryd.prog.cellsOf 3)) = some y0:=hf 0 _ rfl
    rw [C3] at g
    exact g
   have g1 : DataW.trod enc Tryd.prog w base spare held n 9 [c1] = some y1:=by
    have g : DataW.trod enc Tryd.prog w base spare held n 9 (([c0,c1,c2,c3].drop 1).take (Tryd.prog.cellsOf 9)) = some y1:=hf 1 _ rfl
    rw [C9] at g
    exact g
   have g2 : DataW.trod enc Tryd.prog w base spare held n 3 [c2] = some y2:=by
    have g : DataW.trod enc Tryd.prog w base spare held n 3 (([c0,c1,c2,c3].drop 2).take (Tryd.prog.cellsOf 3)) = some y2:=hf 2 _ rfl
    rw [C3] at g
    exact g
   have g3 : DataW.trod enc Tryd.prog w base spare held n 22 [c3] = some y3:=by
    have g : DataW.trod enc Tryd.prog w base spare held n 22 (([c0,c1,c2,c3].drop 3).take (Tryd.prog.cellsOf 22)) = some y3:=hf 3 _ rfl
    rw [C22] at g
    exact g
   obtain ⟨a,ha,_,_⟩:=DataW.trod_int Tryd.underlying3 g0
   obtain ⟨nm,hn,_,hsz⟩:=DataW.trod_string Tryd.underlying9 g1
   obtain ⟨b,hb,_,_⟩:=DataW.trod_int Tryd.underlying3 g2
   simp only [List.cons.injEq,and_true] at ha hn hb
   subst ha hn hb
   have hm : maxLen = 9223372036854775807:=by decide +kernel
   rcases DataW.trod_slice Tryd.underlying22 g3 with ⟨h3,_⟩|⟨ad,len,cap,elems,rest,m,hm1,h3,_,_,hl,hcap,hel,hrd,_,_⟩
   ·simp only [List.cons.injEq,and_true] at h3
    subst h3
    refine ⟨⟨a,nm,b,[]⟩,k24_mk w ⟨a,nm,b,[]⟩ (A3:=none) (c3:=0) (Nat.le_refl _) ⟨rfl,by simp,fun h => by simp at h⟩,?_⟩
    rw [ok24];exact ⟨by omega,by simp,by rw [oks24];trivial⟩
   ·simp only [List.cons.injEq,and_true] at h3
    subst h3
    have hall : ∀ i,i < len → ∃ t : S24,ok24 t ∧ ∃ c : List Value,c.length = 4 ∧ k24.K w t c ∧ ∀ j u,c[j]? = some u → w.cell? (ad.add (i * 4 + j)) = some u:=by
     intro i hi
     have h4:=hrd i hi
     rw [hC,List.getElem?_eq_getElem (by omega)] at h4
     obtain ⟨c,hc,ht⟩:=Option.bind_eq_some_iff.1 h4
     obtain ⟨t,hK,hok⟩:=IH m (by omega) c _ ht
     obtain ⟨_,hcl,hat⟩:=World.cells?_some hc
     refine ⟨t,hok,c,hcl,hK,fun j u hj => ?_⟩
     have hj4 : j < 4:=by
      rcases Nat.lt_or_ge j 4 with h|h
      ·exact h
      ·rw [List.getElem?_eq_none (by omega)] at hj;simp at hj
     rw [← hj,← hat j hj4,Go.Deep.add_add]
    obtain ⟨l,hll,hq⟩:=list_of len hall
    have hoks : oks24 l:=oks24_of fun t ht => by
     obtain ⟨i,hi,rfl⟩:=List.getElem_of_mem ht
     exact (hq i _ (List.getElem?_eq_getElem hi)).1
    have hlc : l.length ≤ cap:=by omega
    have hk:=k24_mk w ⟨a,nm,b,l⟩ (A3:=some ad) (c3:=cap) hlc ⟨rfl,by show l.length ≤ _;omega,fun _ => ⟨ad,rfl,fun j p hj => by
     obtain ⟨_,c,h1,h2,h3⟩:=hq j p hj
     exact ⟨c,h1,h2,h3⟩⟩⟩
    refine ⟨⟨a,nm,b,l⟩,?_,?_⟩
    ·have : (⟨a,nm,b,l⟩ : S24).f3.length = len:=hll
     rw [this] at hk;exact hk
    ·rw [ok24];exact ⟨by omega,by omega,hoks⟩
end
def szr (w : Nat) (left : Int) : Int:=if (w : Int) ≤ left then left - w else -1
theorem szS_ev (n : Nat) (xs : List S24) (hlen : xs.length ≤ 1048576)
  (IH : ∀ x ∈ xs,∀ left : Int,0 ≤ left → left ≤ 1048576 → Ev (fun k => (i_sz n).f k x.f0 x.f1 x.f2 x.f3 left) (szr (wt24 x) left)) (d : Nat) :
  ∀ (i : Nat) (left : Int),i ≤ xs.length → xs.length - i = d → 0 ≤ left → left ≤ 1048576 →
  Ev (fun k => @laws_szTermS.l0 (i_sz n) k xs left i) (szr (wts24 (xs.drop i)) left):=by
 induction d with
 | zero =>
  intro i left hi hd h0 h1
  refine Ev.step (f:=fun _ => some left) (fun k => ?_) ?_
  ·simp only [laws_szTermS.l0];rw [if_neg (by omega)]
  ·rw [List.drop_eq_nil_of_le (by omega),wts24]
   unfold szr;rw [if_pos (by simpa using h0)]
   simpa using Ev.now left
 | succ d ih =>
  intro i left hi hd h0 h1
  have hlt : i < xs.length:=by omega
  refine Ev.step (f:=fun k => ((i_sz n).f k xs[i].f0 xs[i].f1 xs[i].f2 xs[i].f3 left).bind fun t => if t < 0 then some (-1) else @laws_szTermS.l0 (i_sz n) k xs t ((i + 1 : Nat) : Int)) (fun k => ?_) ?_
  ·simp only [laws_szTermS.l0]
   rw [if_pos (by omega),if_pos (by omega),rd24_at xs i hlt,next_i i _ hlt hlen]
  ·refine Ev.bind (f:=fun k t => if t < 0 then some (-1) else @laws_szTermS.l0 (i_sz n) k xs t ((i + 1 : Nat) : Int)) (IH xs[i] (List.getElem_mem hlt) left h0 h1) ?_
   rw [List.drop_eq_getElem_cons hlt,wts24]
   unfold szr
   by_cases hc : (wt24 xs[i] : Int) ≤ left
   ·rw [if_pos hc]
    have h2:=ih (i + 1) (left - wt24 xs[i]) (by omega) (by omega) (by omega) (by omega)
    unfold szr at h2
    have e : (if ((wt24 xs[i] + wts24 (xs.drop (i + 1)) : Nat) : Int) ≤ left then left - ((wt24 xs[i] + wts24 (xs.drop (i + 1)) : Nat) : Int) else -1) = (if (wts24 (xs.drop (i + 1)) : Int) ≤ left - wt24 xs[i] then left - wt24 xs[i] - (wts24 (xs.drop (i + 1)) : Int) else -1):=by
     by_cases h3 : (wts24 (xs.drop (i + 1)) : Int) ≤ left - wt24 xs[i]
     ·rw [if_pos h3,if_pos (by omega)];omega
     ·rw [if_neg h3,if_neg (by omega)]
    rw [e]
    exact Ev.congr (fun k => if_neg (by omega)) h2
   ·rw [if_neg hc,if_neg (by omega)]
    exact Ev.congr (fun k => if_pos (by omega)) (Ev.now (-1))
theorem sz_ev (n : Nat) : ∀ (t : S24),ok24 t → ht24 t ≤ n → ∀ left : Int,0 ≤ left → left ≤ 1048576 → Ev (fun k => (i_sz n).f k t.f0 t.f1 t.f2 t.f3 left) (szr (wt24 t) left):=by
 induction n with
 | zero => intro t _ h;rw [ht24_eq] at h;omega
 | succ n ih =>
  intro t ho h left h0 h1
  rw [ht24_eq] at h
  obtain ⟨o1,o2,o3⟩:=(ok24_eq t).1 ho
  show Ev (fun k => @laws_szTerm.f (i_sz n) k t.f0 t.f1 t.f2 t.f3 left) _
  unfold laws_szTerm.f
  have e1 : wrap64 (left - (t.f1.size : Int)) = left - t.f1.size:=by unfold wrap64;omega
  rw [e1,wt24_eq]
  by_cases c1 : left - (t.f1.size : Int) < 0
  ·refine Ev.congr (fun k => if_pos c1) ?_
   unfold szr;rw [if_neg (by omega)];exact Ev.now _
  refine Ev.congr (fun k => if_neg c1) ?_
  have hS : Ev (fun k => @laws_szTermS.f (i_sz n) k t.f3 (left - (t.f1.size : Int))) (szr (t.f3.length + wts24 t.f3) (left - (t.f1.size : Int))):=by
   unfold laws_szTermS.f
   have e2 : wrap64 (left - (t.f1.size : Int) - (t.f3.length : Int)) = left - t.f1.size - t.f3.length:=by unfold wrap64;omega
   rw [e2]
   by_cases c2 : left - (t.f1.size : Int) - (t.f3.length : Int) < 0
   ·refine Ev.congr (fun k => if_pos c2) ?_
    unfold szr;rw [if_neg (by omega)];exact Ev.now _
   ·refine Ev.congr (fun k => if_neg c2) ?_
    have:=szS_ev n t.f3 (by omega) (fun x hx left h0 h1 => ih x (oks24_mem hx o3) (by have:=hts24_mem hx;omega) left h0 h1) t.f3.length 0 (left - t.f1.size - t.f3.length) (by omega) (by omega) (by omega) (by omega)
    rw [List.drop_zero] at this
    have e : szr (t.f3.length + wts24 t.f3) (left - (t.f1.size : Int)) = szr (wts24 t.f3) (left - t.f1.size - t.f3.length):=by
     unfold szr
     by_cases h3 : (wts24 t.f3 : Int) ≤ left - t.f1.size - t.f3.length
     ·rw [if_pos h3,if_pos (by omega)];omega
     ·rw [if_neg h3,if_neg (by omega)]
    rw [e];exact this
  refine Ev.bind (f:=fun _ t => if t < 0 then some (-1) else some t) hS ?_
  have e : szr (t.f1.size + (t.f3.length + wts24 t.f3)) left = szr (t.f3.length + wts24 t.f3) (left - (t.f1.size : Int)):=by
   unfold szr
   by_cases h3 : ((t.f3.length + wts24 t.f3 : Nat) : Int) ≤ left - t.f1.size
   ·rw [if_pos h3,if_pos (by omega)];omega
   ·rw [if_neg h3,if_neg (by omega)]
  rw [e]
  by_cases c3 : szr (t.f3.length + wts24 t.f3) (left - (t.f1.size : Int)) < 0
  ·have : szr (t.f3.length + wts24 t.f3) (left - (t.f1.size : Int)) = -1:=by
    unfold szr at c3 ⊢;split at c3 <;> rename_i h
    ·omega
    ·rw [if_neg h]
   rw [this];exact Ev.now _
  ·exact Ev.congr (fun k => if_neg c3) (Ev.now _)
theorem eqS_ev (n : Nat) (xs : List S29) (hlen : xs.length ≤ 1048576)
  (IH : ∀ x ∈ xs,Ev (fun k => (i_eq n).f k x.f0 x.f1 x.f2 x.f3 x.f0 x.f1 x.f2 x.f3) true) (d : Nat) :
  ∀ (i : Nat),i ≤ xs.length → xs.length - i = d → Ev (fun k => @laws_eqTermS.l0 (i_eq n) k xs xs i) true:=by
 induction d with
 | zero =>
  intro i hi hd
  refine Ev.step (f:=fun _ => some true) (fun k => ?_) (Ev.now _)
  simp only [laws_eqTermS.l0];rw [if_neg (by omega)]
 | succ d ih =>
  intro i hi hd
  have hlt : i < xs.length:=by omega
  refine Ev.step (f:=fun k => ((i_eq n).f k xs[i].f0 xs[i].f1 xs[i].f2 xs[i].f3 xs[i].f0 xs[i].f1 xs[i].f2 xs[i].f3).bind fun b => if b = true then @laws_eqTermS.l0 (i_eq n) k xs xs ((i + 1 : Nat) : Int) else some false) (fun k => ?_) ?_
  ·simp only [laws_eqTermS.l0]
   rw [if_pos (by omega),if_pos (by omega),if_pos (by omega),rd29_at xs i hlt,next_i i _ hlt hlen]
  ·refine Ev.bind (f:=fun k b => if b = true then @laws_eqTermS.l0 (i_eq n) k xs xs ((i + 1 : Nat) : Int) else some false) (IH xs[i] (List.getElem_mem hlt)) ?_
   exact Ev.congr (fun k => if_pos rfl) (ih (i + 1) (by omega) (by omega))
theorem eq_ev (n : Nat) : ∀ (t : S29),ht29 t ≤ n → cn29 t ≤ 1048577 → Ev (fun k => (i_eq n).f k t.f0 t.f1 t.f2 t.f3 t.f0 t.f1 t.f2 t.f3) true:=by
 induction n with
 | zero => intro t h;rw [ht29_eq] at h;omega
 | succ n ih =>
  intro t h hc
  rw [ht29_eq] at h
  rw [cn29_eq] at hc
  have hcm : ∀ (ts : List S29),(∀ x ∈ ts,cn29 x ≤ cns29 ts) ∧ ts.length ≤ cns29 ts:=by
   intro ts
   induction ts with
   | nil => exact ⟨fun x hx => by simp at hx,by simp⟩
   | cons a l ihl =>
    rw [cns29]
    have:=cn29_eq a
    refine ⟨fun x hx => ?_,by simp only [List.length_cons];have:=ihl.2;omega⟩
    rcases List.mem_cons.1 hx with rfl|hx
    ·omega
    ·have:=ihl.1 x hx;omega
  show Ev (fun k => @laws_eqTerm.f (i_eq n) k t.f0 t.f1 t.f2 t.f3 t.f0 t.f1 t.f2 t.f3) _
  unfold laws_eqTerm.f
  refine Ev.congr (fun k => by rw [if_pos rfl,if_pos rfl,if_pos rfl]) ?_
  refine Ev.bind (f:=fun _ b => if b = true then some true else some false) (a:=true) ?_ (Ev.now _)
  unfold laws_eqTermS.f
  refine Ev.congr (fun k => if_pos rfl) ?_
  exact eqS_ev n t.f3 (by have:=(hcm t.f3).2;omega) (fun x hx => ih x (by have:=hts29_mem hx;omega) (by have:=(hcm t.f3).1 x hx;omega)) t.f3.length 0 (by omega) (by omega)
theorem Ev.pos {α : Type} {c : Prop} [Decidable c] {g f : Nat → Option α} {r : α} (h : c) (k : Ev g r) : Ev (fun n => if c then g n else f n) r:=Ev.congr (fun _ => if_pos h) k
theorem Ev.neg {α : Type} {c : Prop} [Decidable c] {g f : Nat → Option α} {r : α} (h : ¬c) (k : Ev f r) : Ev (fun n => if c then g n else f n) r:=Ev.congr (fun _ => if_neg h) k
def dg0 (u : Nat) : List UInt8:=if u = 0 then [] else Lib.decDigits u
theorem dg0_step (u : Nat) (h : 0 < u) : dg0 u = dg0 (u / 10) ++ [UInt8.ofNat (48 + u % 10)]:=by
 unfold dg0
 rw [if_neg (by omega),Lib.decDigits]
 by_cases h10 : u < 10
 ·rw [dif_pos h10,if_pos (by omega),show u % 10 = u by omega];rfl
 ·rw [dif_neg h10,if_neg (by omega)]
theorem push_fig (d : Nat) (hd : d < 10) (L : List UInt8) : strOfNums [((48 + d : Nat) : Int)] ++ (⟨L.toArray⟩ : ByteArray) = ⟨(UInt8.ofNat (48 + d) :: L).toArray⟩:=by
 apply ByteArray.ext
 rw [ByteArray.data_append]
 apply Array.toList_inj.1
 rw [Array.toList_append]
 have : d = 0 ∨ d = 1 ∨ d = 2 ∨ d = 3 ∨ d = 4 ∨ d = 5 ∨ d = 6 ∨ d = 7 ∨ d = 8 ∨ d = 9:=by omega
 rcases this with rfl|rfl|rfl|rfl|rfl|rfl|rfl|rfl|rfl|rfl <;> rfl
theorem fig_ok (d : Nat) (hd : d < 10) : spec_l01Figure.f (d : Int) = some ((48 + d : Nat) : Int):=by
 unfold spec_l01Figure.f
 rw [if_pos (by omega)]
 congr 1
 unfold wrap64
 omega
theorem dec_loop (b : Bool) (m : Nat) : ∀ (n : Int) (L : List UInt8),-9223372036854775808 ≤ n → n ≤ 9223372036854775807 → n.natAbs < 10 ^ m → L.length + m ≤ 100 →
  Ev (fun k => spec_Decimal.l0 k n b ⟨L.toArray⟩) (⟨((if b then [45] else []) ++ (dg0 n.natAbs ++ L)).toArray⟩ : ByteArray):=by
 induction m with
 | zero =>
  intro n L h0 h1 hm hl
  have hn : n = 0:=by omega
  subst hn
  cases b with
  | false =>
   refine Ev.step (f:=fun _ => some (⟨L.toArray⟩ : ByteArray)) (fun k => ?_) (Ev.now _)
   simp only [spec_Decimal.l0,if_true,Bool.false_eq_true,if_false]
  | true =>
   refine Ev.step (f:=fun _ => some ((⟨#[45]⟩ : ByteArray) ++ (⟨L.toArray⟩ : ByteArray))) (fun k => ?_) ?_
   ·simp only [spec_Decimal.l0,if_true]
    rw [if_pos (by show 1 + L.toArray.size ≤ _;rw [List.size_toArray];omega)]
   ·rw [show ((⟨#[45]⟩ : ByteArray) ++ (⟨L.toArray⟩ : ByteArray)) = (⟨((if true then [45] else []) ++ (dg0 (0 : Int).natAbs ++ L)).toArray⟩ : ByteArray) by
     apply ByteArray.ext;rw [ByteArray.data_append];apply Array.toList_inj.1;rw [Array.toList_append];rfl]
    exact Ev.now _
 | succ m ih =>
  intro n L h0 h1 hm hl
  by_cases hn : n = 0
  ·subst hn
   cases b with
   | false =>
    refine Ev.step (f:=fun _ => some (⟨L.toArray⟩ : ByteArray)) (fun k => ?_) (Ev.now _)
    simp only [spec_Decimal.l0,if_true,Bool.false_eq_true,if_false]
   | true =>
    refine Ev.step (f:=fun _ => some ((⟨#[45]⟩ : ByteArray) ++ (⟨L.toArray⟩ : ByteArray))) (fun k => ?_) ?_
    ·simp only [spec_Decimal.l0,if_true]
     rw [if_pos (by show 1 + L.toArray.size ≤ _;rw [List.size_toArray];omega)]
    ·rw [show ((⟨#[45]⟩ : ByteArray) ++ (⟨L.toArray⟩ : ByteArray)) = (⟨((if true then [45] else []) ++ (dg0 (0 : Int).natAbs ++ L)).toArray⟩ : ByteArray) by
      apply ByteArray.ext;rw [ByteArray.data_append];apply Array.toList_inj.1;rw [Array.toList_append];rfl]
     exact Ev.now _
  ·have hqa : (Int.tdiv n 10).natAbs = n.natAbs / 10:=Int.natAbs_tdiv n 10
   have hma : (Int.tmod n 10).natAbs = n.natAbs % 10:=Int.natAbs_tmod n 10
   have hqb : -1000000000000000000 ≤ Int.tdiv n 10 ∧ Int.tdiv n 10 ≤ 1000000000000000000:=by
    generalize Int.tdiv n 10 = q at hqa
    omega
   have hq : wrap64 (Int.tdiv n 10) = Int.tdiv n 10:=by
    generalize Int.tdiv n 10 = q at hqb
    unfold wrap64;omega
   have hlt : n.natAbs / 10 < 10 ^ m:=by rw [Nat.pow_succ] at hm;omega
   have hd : n.natAbs % 10 < 10:=Nat.mod_lt _ (by omega)
   have hres : dg0 n.natAbs ++ L = dg0 (Int.tdiv n 10).natAbs ++ (UInt8.ofNat (48 + n.natAbs % 10) :: L):=by
    rw [hqa,dg0_step n.natAbs (by omega),List.append_assoc];rfl
   have hnext:=ih (Int.tdiv n 10) (UInt8.ofNat (48 + n.natAbs % 10) :: L) (by have:=hqb.1;omega) (by have:=hqb.2;omega) (by rw [hqa];exact hlt) (by rw [List.length_cons];omega)
   rw [hres]
   refine Ev.step (fun k => ?_) hnext
   have hsz : (strOfNums [((48 + n.natAbs % 10 : Nat) : Int)]).size + (⟨L.toArray⟩ : ByteArray).size ≤ 9223372036854775807:=by
    show 1 + L.toArray.size ≤ _
    rw [List.size_toArray];omega
   by_cases hneg : Int.tmod n 10 < 0
   ·have e1 : wrap64 (-(Int.tmod n 10)) = ((n.natAbs % 10 : Nat) : Int):=by
     generalize Int.tmod n 10 = q at hma hneg
     unfold wrap64;omega
    simp only [spec_Decimal.l0,Option.bind_some]
    rw [if_neg hn,if_pos hneg,e1,fig_ok _ hd,Option.bind_some,if_pos hsz,push_fig _ hd,hq]
   ·have e1 : Int.tmod n 10 = ((n.natAbs % 10 : Nat) : Int):=by
     generalize Int.tmod n 10 = q at hma hneg
     omega
    simp only [spec_Decimal.l0,Option.bind_some]
    rw [if_neg hn,if_neg hneg,e1,fig_ok _ hd,Option.bind_some,if_pos hsz,push_fig _ hd,hq]
theorem dec_ev (n : Int) (h0 : -9223372036854775808 ≤ n) (h1 : n ≤ 9223372036854775807) : Ev (fun k => spec_Decimal.f k n) (⟨(Lib.itoa n).toArray⟩ : ByteArray):=by
 unfold spec_Decimal.f
 by_cases hn : n = 0
 ·subst hn
  refine Ev.pos rfl ?_
  rw [show (⟨#[48]⟩ : ByteArray) = (⟨(Lib.itoa 0).toArray⟩ : ByteArray) by unfold Lib.itoa;rw [if_neg (by decide),Lib.decDigits];rfl]
  exact Ev.now _
 ·refine Ev.neg hn ?_
  have:=dec_loop (decide (n < 0)) 20 n [] h0 h1 (by omega) (by decide)
  have e : (if decide (n < 0) = true then [45] else []) ++ (dg0 n.natAbs ++ []) = Lib.itoa n:=by
   have hd : dg0 n.natAbs = Lib.decDigits n.natAbs:=by unfold dg0;rw [if_neg (by omega)]
   unfold Lib.itoa
   rw [List.append_nil,hd]
   by_cases hneg : n < 0
   ·rw [if_pos hneg,decide_eq_true hneg];rfl
   ·rw [if_neg hneg,decide_eq_false hneg,show n.toNat = n.natAbs by omega];rfl
  rw [e] at this
  exact this
theorem impl_dec (k : Nat) (n : Int) (h0 : -9223372036854775808 ≤ n) (h1 : n ≤ 9223372036854775807) : @impl_Decimal.f i_it k n = some (⟨(Lib.itoa n).toArray⟩ : ByteArray):=by
 unfold impl_Decimal.f
 show ((if -9223372036854775808 ≤ n ∧ n ≤ 9223372036854775807 then some (⟨(Lib.itoa n).toArray⟩ : ByteArray) else none) : Option ByteArray).bind _ = _
 rw [if_pos ⟨h0,h1⟩];rfl
def roomr (c : Nat) (room : Int) : Int:=if (c : Int) ≤ room then room - c else -1
theorem specS_ev (q0 : Int) (q1 : ByteArray) (q2 : Int) (xs : List S29) (hlen : xs.length ≤ 1048576) (IH : ∀ x ∈ xs,∀ room : Int,0 ≤ room → room ≤ 1000 → Ev (fun k => spec_l03Count.f k x.f0 x.f1 x.f2 x.f3 room) (roomr (cn29 x) room)) (d : Nat) :
  ∀ (i : Nat) (room : Int),i ≤ xs.length → xs.length - i = d → -1 ≤ room → room ≤ 1000 → Ev (fun k => spec_l03Count.l0 k room i q0 q1 q2 xs) (if 0 ≤ room then roomr (cns29 (xs.drop i)) room else room):=by
 induction d with
 | zero =>
  intro i room hi hd h0 h1
  refine Ev.step (f:=fun _ => some room) (fun k => ?_) ?_
  ·simp only [spec_l03Count.l0];rw [if_neg (by omega)]
  ·rw [List.drop_eq_nil_of_le (by omega),cns29]
   have : (if 0 ≤ room then roomr 0 room else room) = room:=by
    split
    ·unfold roomr;rw [if_pos (by omega)];omega
    ·rfl
   rw [this];exact Ev.now _
 | succ d ih =>
  intro i room hi hd h0 h1
  have hlt : i < xs.length:=by omega
  by_cases hr : 0 ≤ room
  ·refine Ev.step (f:=fun k => (spec_l03Count.f k xs[i].f0 xs[i].f1 xs[i].f2 xs[i].f3 room).bind fun t => spec_l03Count.l0 k t ((i + 1 : Nat) : Int) q0 q1 q2 xs) (fun k => ?_) ?_
   ·simp only [spec_l03Count.l0]
    rw [if_pos (by omega),if_pos (by omega),if_pos (by omega),rd29_at xs i hlt,next_i i _ hlt hlen]
   ·refine Ev.bind (f:=fun k t => spec_l03Count.l0 k t ((i + 1 : Nat) : Int) q0 q1 q2 xs) (IH xs[i] (List.getElem_mem hlt) room hr h1) ?_
    have hb : -1 ≤ roomr (cn29 xs[i]) room ∧ roomr (cn29 xs[i]) room ≤ 1000:=by unfold roomr;split <;> omega
    have:=ih (i + 1) (roomr (cn29 xs[i]) room) (by omega) (by omega) hb.1 hb.2
    rw [if_pos hr,List.drop_eq_getElem_cons hlt,cns29]
    have e : roomr (cn29 xs[i] + cns29 (xs.drop (i + 1))) room = (if 0 ≤ roomr (cn29 xs[i]) room then roomr (cns29 (xs.drop (i + 1))) (roomr (cn29 xs[i]) room) else roomr (cn29 xs[i]) room):=by
     unfold roomr
     repeat' split
     all_goals omega
    rw [e];exact this
  ·refine Ev.step (f:=fun _ => some room) (fun k => ?_) ?_
   ·simp only [spec_l03Count.l0];rw [if_pos (by omega),if_neg (by omega)]
   ·rw [if_neg hr];exact Ev.now _
theorem count_ev (n : Nat) : ∀ (t : S29),ht29 t ≤ n → cn29 t ≤ 1048577 → ∀ room : Int,0 ≤ room → room ≤ 1000 → Ev (fun k => spec_l03Count.f k t.f0 t.f1 t.f2 t.f3 room) (roomr (cn29 t) room):=by
 induction n with
 | zero => intro t h;rw [ht29_eq] at h;omega
 | succ n ih =>
  intro t h hc room h0 h1
  rw [ht29_eq] at h
  rw [cn29_eq] at hc ⊢
  have e : wrap64 (room - 1) = room - 1:=t_wrap (by omega) (by omega)
  refine Ev.step (f:=fun k => spec_l03Count.l0 k (room - 1) 0 t.f0 t.f1 t.f2 t.f3) (fun k => by simp only [spec_l03Count.f,e]) ?_
  have:=specS_ev t.f0 t.f1 t.f2 t.f3 (by have:=cns29_len t.f3;omega) (fun x hx => ih x (by have:=hts29_mem hx;omega) (by have:=cns29_mem hx;omega)) t.f3.length 0 (room - 1) (by omega) (by omega) (by omega) (by omega)
  rw [List.drop_zero] at this
  have e2 : roomr (cns29 t.f3 + 1) room = (if 0 ≤ room - 1 then roomr (cns29 t.f3) (room - 1) else room - 1):=by
   unfold roomr
   by_cases c1 : ((cns29 t.f3 + 1 : Nat) : Int) ≤ room
   ·rw [if_pos c1,if_pos (by omega),if_pos (by omega)];omega
   ·rw [if_neg c1]
    by_cases c2 : 0 ≤ room - 1
    ·rw [if_pos c2,if_neg (by omega)]
    ·rw [if_neg c2];omega
  rw [e2];exact this
def okByte (c : Int) : Bool:=decide (33 ≤ c ∧ c ≤ 126 ∧ c ≠ 39 ∧ c ≠ 34)
def nameB (s : ByteArray) : Bool:=((bytesOf s).all okByte) && decide (1 ≤ (s.size : Int) ∧ (s.size : Int) ≤ 20)
theorem drop_bytes (s : ByteArray) (i : Nat) (h : i < s.size) : (bytesOf s).drop i = bt s i :: (bytesOf s).drop (i + 1):=by
 have hl : i < (bytesOf s).length:=by rw [bytesOf_length];exact h
 rw [List.drop_eq_getElem_cons hl]
 congr 1
 have:=rd_bytesOf s i
 unfold rd at this
 rw [← this]
 simp [List.getD,hl]
theorem in_spec (a b c : Int) : spec_l01In.f a b c = some (decide (b ≤ a ∧ a ≤ c)):=by
 unfold spec_l01In.f
 by_cases h : a ≥ b
 ·rw [if_pos h];congr 1;rw [decide_eq_decide];omega
 ·rw [if_neg h];congr 1;symm;rw [decide_eq_false_iff_not];omega
theorem in_impl (a b c : Int) : impl_within.f a b c = some (decide (b ≤ a ∧ a ≤ c)):=by
 unfold impl_within.f
 by_cases h : a ≥ b
 ·rw [if_pos h];congr 1;rw [decide_eq_decide];omega
 ·rw [if_neg h];congr 1;symm;rw [decide_eq_false_iff_not];omega
theorem name_spec_l (s : ByteArray) (hs : s.size ≤ 1048576) (d : Nat) : ∀ i : Nat,i ≤ s.size → s.size - i = d →
  Ev (fun k => spec_l03Name.l0 k s i) (((bytesOf s).drop i).all okByte && decide (1 ≤ (s.size : Int) ∧ (s.size : Int) ≤ 20)):=by
 induction d with
 | zero =>
  intro i hi hd
  refine Ev.step (f:=fun _ => some (decide (1 ≤ (s.size : Int) ∧ (s.size : Int) ≤ 20))) (fun k => ?_) ?_
  ·simp only [spec_l03Name.l0];rw [if_neg (by omega),in_spec];rfl
  ·rw [List.drop_eq_nil_of_le (by rw [bytesOf_length];omega)];exact Ev.now _
 | succ d ih =>
  intro i hi hd
  have hlt : i < s.size:=by omega
  rw [drop_bytes s i hlt,List.all_cons]
  have hstep : ∀ k,spec_l03Name.l0 (k + 1) s i = if okByte (bt s i) = true then spec_l03Name.l0 k s ((i + 1 : Nat) : Int) else some false:=by
   intro k
   simp only [spec_l03Name.l0]
   rw [if_pos (by omega),if_pos (by omega),next_i i _ hlt hs]
   unfold okByte
   simp only [decide_eq_true_eq]
   by_cases c1 : bt s i < 33
   ·rw [if_pos c1,if_neg (by omega)]
   ·by_cases c2 : bt s i > 126
    ·rw [if_neg c1,if_pos c2,if_neg (by omega)]
    ·by_cases c3 : bt s i = 39
     ·rw [if_neg c1,if_neg c2,if_pos c3,if_neg (by omega)]
     ·by_cases c4 : bt s i = 34
      ·rw [if_neg c1,if_neg c2,if_neg c3,if_pos c4,if_neg (by omega)]
      ·rw [if_neg c1,if_neg c2,if_neg c3,if_neg c4,if_pos (by omega)]
  refine Ev.step hstep ?_
  cases hb : okByte (bt s i) with
  | true =>
   refine Ev.congr (fun k => if_pos rfl) ?_
   rw [Bool.true_and]
   exact ih (i + 1) (by omega) (by omega)
  | false =>
   refine Ev.congr (fun k => if_neg (by simp)) ?_
   rw [Bool.false_and,Bool.false_and];exact Ev.now _
theorem name_spec (s : ByteArray) (hs : s.size ≤ 1048576) : Ev (fun k => spec_l03Name.f k s) (nameB s):=by
 have:=name_spec_l s hs s.size 0 (by omega) (by omega)
 rw [List.drop_zero] at this;exact this
theorem name_impl_l (s : ByteArray) (hs : s.size ≤ 1048576) (d : Nat) : ∀ i : Nat,i ≤ s.size → s.size - i = d →
  Ev (fun k => impl_nameOk.l0 k s i) (((bytesOf s).drop i).all okByte && decide (1 ≤ (s.size : Int) ∧ (s.size : Int) ≤ 20)):=by
 induction d with
 | zero =>
  intro i hi hd
  refine Ev.step (f:=fun _ => some (decide (1 ≤ (s.size : Int) ∧ (s.size : Int) ≤ 20))) (fun k => ?_) ?_
  ·simp only [impl_nameOk.l0];rw [if_neg (by omega),in_impl];rfl
  ·rw [List.drop_eq_nil_of_le (by rw [bytesOf_length];omega)];exact Ev.now _
 | succ d ih =>
  intro i hi hd
  have hlt : i < s.size:=by omega
  rw [drop_bytes s i hlt,List.all_cons]
  have hstep : ∀ k,impl_nameOk.l0 (k + 1) s i = if okByte (bt s i) = true then impl_nameOk.l0 k s ((i + 1 : Nat) : Int) else some false:=by
   intro k
   have hbr:=bt_range s i
   have hwb : wrap64 (bt s i) = bt s i:=t_wrap (by omega) (by omega)
   simp only [impl_nameOk.l0]
   rw [if_pos (by omega),if_pos (by omega),next_i i _ hlt hs,hwb,in_impl]
   clear hwb
   unfold okByte
   simp only [decide_eq_true_eq,Option.bind_some]
   by_cases c1 : 33 ≤ bt s i ∧ bt s i ≤ 126
   ·by_cases c3 : bt s i = 39
    ·rw [if_pos c1,if_pos c3,if_neg (by omega)]
    ·by_cases c4 : bt s i = 34
     ·rw [if_pos c1,if_neg c3,if_pos c4,if_neg (by omega)]
     ·rw [if_pos c1,if_neg c3,if_neg c4,if_pos (by omega)]
   ·rw [if_neg c1,if_neg (by omega)]
  refine Ev.step hstep ?_
  cases hb : okByte (bt s i) with
  | true =>
   refine Ev.congr (fun k => if_pos rfl) ?_
   rw [Bool.true_and]
   exact ih (i + 1) (by omega) (by omega)
  | false =>
   refine Ev.congr (fun k => if_neg (by simp)) ?_
   rw [Bool.false_and,Bool.false_and];exact Ev.now _
theorem name_impl (s : ByteArray) (hs : s.size ≤ 1048576) : Ev (fun k => impl_nameOk.f k s) (nameB s):=by
 have:=name_impl_l s hs s.size 0 (by omega) (by omega)
 rw [List.drop_zero] at this;exact this
def oneB (t : S29) : Bool :=
 if t.f0 = 1 then decide (0 ≤ t.f2 ∧ t.f2 ≤ 99999) && decide (t.f1.toList = []) && decide (t.f3.length = 0)
 else if t.f0 = 2 then nameB t.f1 && decide (t.f2 = 0) && decide (t.f3.length = 0)
 else if t.f0 = 3 then decide (-999999999 ≤ t.f2 ∧ t.f2 ≤ 999999999) && decide (t.f1.toList = []) && decide (t.f3.length = 0)
 else if t.f0 = 4 then nameB t.f1 && decide (t.f2 = 0) && decide (1 ≤ (t.f3.length : Int) ∧ (t.f3.length : Int) ≤ 5)
 else false
theorem len0 (n : Nat) : ((n : Int) == 0) = decide (n = 0):=by
 by_cases h : n = 0
 ·subst h;rfl
 ·have : ¬ (n : Int) = 0:=by omega
  simp [h]
theorem one_spec (t : S29) (hs : t.f1.size ≤ 1048576) : Ev (fun k => spec_l03One.f k t.f0 t.f1 t.f2 t.f3) (oneB t):=by
 unfold spec_l03One.f oneB
 have hn:=name_spec t.f1 hs
 simp only [in_spec,Option.bind_some,len0]
 by_cases c1 : t.f0 = 1
 ·simp only [if_pos c1]
  by_cases a1 : 0 ≤ t.f2 ∧ t.f2 ≤ 99999
  ·by_cases a2 : t.f1.toList = []
   ·simp only [decide_eq_true a1,if_true,a2,Bool.true_and];exact Ev.now _
   ·simp only [decide_eq_true a1,decide_eq_false a2,if_true,if_neg a2,Bool.true_and,Bool.false_and];exact Ev.now _
  ·simp only [decide_eq_false a1,Bool.false_and,Bool.false_eq_true,if_false];exact Ev.now _
 ·simp only [if_neg c1]
  by_cases c2 : t.f0 = 2
  ·simp only [if_pos c2]
   refine Ev.bind hn ?_
   cases nameB t.f1
   ·simp only [Bool.false_and,Bool.false_eq_true,if_false];exact Ev.now _
   ·by_cases a2 : t.f2 = 0
    ·simp only [if_true,a2,Bool.true_and];exact Ev.now _
    ·simp only [decide_eq_false a2,if_true,if_neg a2,Bool.true_and,Bool.false_and];exact Ev.now _
  ·simp only [if_neg c2]
   by_cases c3 : t.f0 = 3
   ·simp only [if_pos c3]
    by_cases a1 : -999999999 ≤ t.f2 ∧ t.f2 ≤ 999999999
    ·by_cases a2 : t.f1.toList = []
     ·simp only [decide_eq_true a1,if_true,a2,Bool.true_and];exact Ev.now _
     ·simp only [decide_eq_true a1,decide_eq_false a2,if_true,if_neg a2,Bool.true_and,Bool.false_and];exact Ev.now _
    ·simp only [decide_eq_false a1,Bool.false_and,Bool.false_eq_true,if_false];exact Ev.now _
   ·simp only [if_neg c3]
    by_cases c4 : t.f0 = 4
    ·simp only [if_pos c4]
     refine Ev.bind hn ?_
     cases nameB t.f1
     ·simp only [Bool.false_and,Bool.false_eq_true,if_false];exact Ev.now _
     ·by_cases a2 : t.f2 = 0
      ·simp only [if_true,a2,Bool.true_and];exact Ev.now _
      ·simp only [decide_eq_false a2,if_true,if_neg a2,Bool.true_and,Bool.false_and];exact Ev.now _
    ·simp only [if_neg c4];exact Ev.now _
mutual
def nm29 : S29 → Prop
 | ⟨_,n,_,ks⟩ => n.size ≤ 1048576 ∧ nms29 ks
def nms29 : List S29 → Prop
 | [] => True
 | t :: ts => nm29 t ∧ nms29 ts
end
theorem nm29_eq (t : S29) : nm29 t ↔ t.f1.size ≤ 1048576 ∧ nms29 t.f3:=by cases t;rw [nm29]
theorem nms29_mem {ts : List S29} {t : S29} (h : t ∈ ts) (ho : nms29 ts) : nm29 t:=by
 induction ts with
 | nil => simp at h
 | cons a l ih =>
  rw [nms29] at ho
  rcases List.mem_cons.1 h with rfl|h
  ·exact ho.1
  ·exact ih h ho.2
mutual
def rt29 : S29 → Int → Bool
 | ⟨a,n,b,ks⟩,deep => decide (deep ≤ 40) && (oneB ⟨a,n,b,ks⟩ && rts29 ks (deep + 1))
def rts29 : List S29 → Int → Bool
 | [],_ => true
 | t :: ts,deep => rt29 t deep && rts29 ts deep
end
theorem rt29_eq (t : S29) (d : Int) : rt29 t d = (decide (d ≤ 40) && (oneB t && rts29 t.f3 (d + 1))):=by cases t;rw [rt29]
theorem rightS_ev (q0 : Int) (q1 : ByteArray) (q2 : Int) (deep : Int) (hdp : 0 ≤ deep ∧ deep ≤ 40) (xs : List S29) (hlen : xs.length ≤ 1048576)
  (IH : ∀ x ∈ xs,Ev (fun k => spec_l03Right.f k x.f0 x.f1 x.f2 x.f3 (deep + 1)) (rt29 x (deep + 1))) (d : Nat) :
  ∀ i : Nat,i ≤ xs.length → xs.length - i = d → Ev (fun k => spec_l03Right.l0 k deep i q0 q1 q2 xs) (rts29 (xs.drop i) (deep + 1)):=by
 induction d with
 | zero =>
  intro i hi hd
  refine Ev.step (f:=fun _ => some true) (fun k => ?_) ?_
  ·simp only [spec_l03Right.l0];rw [if_neg (by omega)]
  ·rw [List.drop_eq_nil_of_le (by omega),rts29];exact Ev.now _
 | succ d ih =>
  intro i hi hd
  have hlt : i < xs.length:=by omega
  refine Ev.step (f:=fun k => (spec_l03Right.f k xs[i].f0 xs[i].f1 xs[i].f2 xs[i].f3 (deep + 1)).bind fun t => if t = true then spec_l03Right.l0 k deep ((i + 1 : Nat) : Int) q0 q1 q2 xs else some false) (fun k => ?_) ?_
  ·simp only [spec_l03Right.l0]
   rw [if_pos (by omega),if_pos (by omega),rd29_at xs i hlt,next_i i _ hlt hlen,t_wrap (i:=deep + 1) (by omega) (by omega)]
  ·refine Ev.bind (IH xs[i] (List.getElem_mem hlt)) ?_
   rw [List.drop_eq_getElem_cons hlt,rts29]
   cases rt29 xs[i] (deep + 1)
   ·rw [Bool.false_and];exact Ev.congr (fun k => if_neg (by simp)) (Ev.now _)
   ·rw [Bool.true_and];exact Ev.congr (fun k => if_pos rfl) (ih (i + 1) (by omega) (by omega))
theorem right_ev (n : Nat) : ∀ (t : S29),ht29 t ≤ n → cn29 t ≤ 1048577 → nm29 t → ∀ deep : Int,0 ≤ deep → deep ≤ 100 → Ev (fun k => spec_l03Right.f k t.f0 t.f1 t.f2 t.f3 deep) (rt29 t deep):=by
 induction n with
 | zero => intro t h;rw [ht29_eq] at h;omega
 | succ n ih =>
  intro t h hc hnm deep h0 h1
  rw [ht29_eq] at h
  rw [cn29_eq] at hc
  obtain ⟨n1,n2⟩:=(nm29_eq t).1 hnm
  rw [rt29_eq]
  by_cases cd : deep > 40
  ·refine Ev.step (f:=fun k => spec_l03Right.j0 k deep true t.f0 t.f1 t.f2 t.f3) (fun k => by simp only [spec_l03Right.f,if_pos cd]) ?_
   refine Ev.step (f:=fun _ => some false) (fun k => by simp only [spec_l03Right.j0,if_true]) ?_
   rw [decide_eq_false (by omega),Bool.false_and];exact Ev.now _
  ·rw [decide_eq_true (by omega),Bool.true_and]
   refine Ev.step (f:=fun k => (spec_l03One.f k t.f0 t.f1 t.f2 t.f3).bind fun t169 => spec_l03Right.j0 k deep (!t169) t.f0 t.f1 t.f2 t.f3) (fun k => by simp only [spec_l03Right.f,if_neg cd]) ?_
   refine Ev.bind (f:=fun k t169 => spec_l03Right.j0 k deep (!t169) t.f0 t.f1 t.f2 t.f3) (one_spec t n1) ?_
   cases oneB t
   ·refine Ev.step (f:=fun _ => some false) (fun k => by simp only [spec_l03Right.j0,Bool.not_false,if_true]) ?_
    rw [Bool.false_and];exact Ev.now _
   ·refine Ev.step (f:=fun k => spec_l03Right.l0 k deep 0 t.f0 t.f1 t.f2 t.f3) (fun k => by simp only [spec_l03Right.j0,Bool.not_true,Bool.false_eq_true,if_false]) ?_
    rw [Bool.true_and]
    have:=rightS_ev t.f0 t.f1 t.f2 deep ⟨h0,by omega⟩ t.f3 (by have:=cns29_len t.f3;omega) (fun x hx => ih x (by have:=hts29_mem hx;omega) (by have:=cns29_mem hx;omega) (nms29_mem hx n2) (deep + 1) (by omega) (by omega)) t.f3.length 0 (by omega) (by omega)
    rw [List.drop_zero] at this;exact this
theorem spec_ok_ev (t : S29) (hc : cn29 t ≤ 1048577) (hnm : nm29 t) : Ev (fun k => spec_TermOk.f k t.f0 t.f1 t.f2 t.f3) (decide (cn29 t ≤ 400) && rt29 t 1):=by
 unfold spec_TermOk.f
 refine Ev.bind (f:=fun k t173 => if t173 ≥ 0 then ((spec_l03Right.f k t.f0 t.f1 t.f2 t.f3 1).bind fun t174 => some t174) else some false) (count_ev (ht29 t) t (Nat.le_refl _) hc 400 (by omega) (by omega)) ?_
 unfold roomr
 by_cases c1 : cn29 t ≤ 400
 ·rw [if_pos (by omega),decide_eq_true c1,Bool.true_and]
  refine Ev.congr (fun k => if_pos (by omega)) ?_
  exact Ev.bind (f:=fun _ t174 => some t174) (right_ev (ht29 t) t (Nat.le_refl _) hc hnm 1 (by omega) (by omega)) (Ev.now _)
 ·rw [if_neg (by omega),decide_eq_false c1,Bool.false_and]
  exact Ev.congr (fun k => if_neg (by omega)) (Ev.now _)
def szd (b : Bool) (c : Nat) : Int:=if b = true ∧ c ≤ 400 then (c : Int) else 401
theorem sizedS_ev (deep : Int) (hdp : 0 ≤ deep ∧ deep ≤ 40) (xs : List S29) (hlen : xs.length ≤ 1048576)
  (IH : ∀ x ∈ xs,Ev (fun k => impl_sized.f k x.f0 x.f1 x.f2 x.f3 (deep + 1)) (szd (rt29 x (deep + 1)) (cn29 x))) (d : Nat) :
  ∀ i a : Nat,i ≤ xs.length → xs.length - i = d → a ≤ 400 → Ev (fun k => impl_sized.l0 k deep (a : Int) xs (xs.length : Int) i) (szd (rts29 (xs.drop i) (deep + 1)) (a + cns29 (xs.drop i))):=by
 induction d with
 | zero =>
  intro i a hi hd ha
  refine Ev.step (f:=fun _ => some (a : Int)) (fun k => ?_) ?_
  ·simp only [impl_sized.l0];rw [if_neg (by omega)]
  ·rw [List.drop_eq_nil_of_le (by omega),rts29,cns29]
   unfold szd;rw [if_pos ⟨rfl,by omega⟩];exact Ev.now _
 | succ d ih =>
  intro i a hi hd ha
  have hlt : i < xs.length:=by omega
  refine Ev.step (f:=fun k => (impl_sized.f k xs[i].f0 xs[i].f1 xs[i].f2 xs[i].f3 (deep + 1)).bind fun t => if wrap64 ((a : Int) + t) > 400 then some 401 else impl_sized.l0 k deep (wrap64 ((a : Int) + t)) xs (xs.length : Int) ((i + 1 : Nat) : Int)) (fun k => ?_) ?_
  ·simp only [impl_sized.l0]
   rw [if_pos (by omega),if_pos (by omega),if_pos (by omega),rd29_at xs i hlt,next_i i _ hlt hlen,t_wrap (i:=deep + 1) (by omega) (by omega)]
  ·refine Ev.bind (f:=fun k t => if wrap64 ((a : Int) + t) > 400 then some 401 else impl_sized.l0 k deep (wrap64 ((a : Int) + t)) xs (xs.length : Int) ((i + 1 : Nat) : Int)) (IH xs[i] (List.getElem_mem hlt)) ?_
   rw [List.drop_eq_getElem_cons hlt,cns29,rts29]
   by_cases h1 : rt29 xs[i] (deep + 1) = true ∧ cn29 xs[i] ≤ 400
   ·have e0 : szd (rt29 xs[i] (deep + 1)) (cn29 xs[i]) = cn29 xs[i]:=by unfold szd;rw [if_pos h1]
    have e : wrap64 ((a : Int) + (cn29 xs[i] : Int)) = ((a + cn29 xs[i] : Nat) : Int):=by rw [t_wrap (by omega) (by omega)];omega
    rw [e0,e,h1.1,Bool.true_and]
    clear e e0
    by_cases h2 : a + cn29 xs[i] ≤ 400
    ·have:=ih (i + 1) (a + cn29 xs[i]) (by omega) (by omega) h2
     rw [show a + (cn29 xs[i] + cns29 (xs.drop (i + 1))) = a + cn29 xs[i] + cns29 (xs.drop (i + 1)) by omega]
     exact Ev.congr (fun k => if_neg (by omega)) this
    ·unfold szd
     rw [if_neg (by intro h;omega)]
     exact Ev.congr (fun k => if_pos (by omega)) (Ev.now _)
   ·have e0 : szd (rt29 xs[i] (deep + 1)) (cn29 xs[i]) = 401:=by unfold szd;rw [if_neg h1]
    have e2 : szd (rt29 xs[i] (deep + 1) && rts29 (xs.drop (i + 1)) (deep + 1)) (a + (cn29 xs[i] + cns29 (xs.drop (i + 1)))) = 401:=by
     unfold szd
     rw [if_neg]
     intro h
     rw [Bool.and_eq_true] at h
     exact h1 ⟨h.1.1,by omega⟩
    rw [e0,e2]
    exact Ev.congr (fun k => if_pos (by rw [t_wrap (by omega) (by omega)];omega)) (Ev.now _)
theorem sized_ev (n : Nat) : ∀ (t : S29),ht29 t ≤ n → cn29 t ≤ 1048577 → nm29 t → ∀ deep : Int,0 ≤ deep → deep ≤ 100 → Ev (fun k => impl_sized.f k t.f0 t.f1 t.f2 t.f3 deep) (szd (rt29 t deep) (cn29 t)):=by
 induction n with
 | zero => intro t h;rw [ht29_eq] at h;omega
 | succ n ih =>
  intro t h hc hnm deep h0 h1
  rw [ht29_eq] at h
  rw [cn29_eq] at hc
  obtain ⟨n1,n2⟩:=(nm29_eq t).1 hnm
  have hname:=name_impl t.f1 n1
  rw [rt29_eq]
  by_cases cd : deep > 40
  ·refine Ev.step (f:=fun _ => some 401) (fun k => by simp only [impl_sized.f,if_pos cd]) ?_
   rw [decide_eq_false (by omega),Bool.false_and];exact Ev.now _
  ·rw [decide_eq_true (by omega),Bool.true_and]
   have hkids : oneB t = true → Ev (fun k => impl_sized.j0 k deep t.f0 t.f1 t.f2 t.f3) (szd (oneB t && rts29 t.f3 (deep + 1)) (cn29 t)):=by
    intro hone
    refine Ev.step (f:=fun k => impl_sized.l0 k deep 1 t.f3 (t.f3.length : Int) 0) (fun k => by simp only [impl_sized.j0]) ?_
    have:=sizedS_ev deep ⟨h0,by omega⟩ t.f3 (by have:=cns29_len t.f3;omega) (fun x hx => ih x (by have:=hts29_mem hx;omega) (by have:=cns29_mem hx;omega) (nms29_mem hx n2) (deep + 1) (by omega) (by omega)) t.f3.length 0 1 (by omega) (by omega) (by omega)
    rw [List.drop_zero] at this
    rw [hone,Bool.true_and,cn29_eq,Nat.add_comm];exact this
   have hbad : oneB t = false → szd (oneB t && rts29 t.f3 (deep + 1)) (cn29 t) = 401:=by
    intro hone;rw [hone,Bool.false_and];unfold szd;rw [if_neg (by simp)]
   by_cases c1 : t.f0 = 1
   ·have hone : oneB t = (decide (0 ≤ t.f2 ∧ t.f2 ≤ 99999) && decide (t.f1.toList = []) && decide (t.f3.length = 0)):=by unfold oneB;rw [if_pos c1]
    refine Ev.step (f:=fun k => if t.f1.toList = ([] : List UInt8) then (if decide (0 ≤ t.f2 ∧ t.f2 ≤ 99999) = true then (if (t.f3.length : Int) > 0 then some 401 else impl_sized.j0 k deep t.f0 t.f1 t.f2 t.f3) else some 401) else some 401) (fun k => by simp only [impl_sized.f,if_neg cd,if_pos c1,in_impl,Option.bind_some]) ?_
    by_cases a1 : t.f1.toList = []
    ·by_cases a2 : 0 ≤ t.f2 ∧ t.f2 ≤ 99999
     ·by_cases a3 : (t.f3.length : Int) > 0
      ·rw [hbad (by rw [hone,decide_eq_false (show ¬ t.f3.length = 0 by omega),Bool.and_false])]
       simp only [if_pos a1,decide_eq_true a2,if_true,if_pos a3];exact Ev.now _
      ·have:=hkids (by rw [hone,decide_eq_true a1,decide_eq_true a2,decide_eq_true (show t.f3.length = 0 by omega)];rfl)
       simp only [if_pos a1,decide_eq_true a2,if_true,if_neg a3];exact this
     ·rw [hbad (by rw [hone,decide_eq_false a2];rfl)]
      simp only [if_pos a1,decide_eq_false a2,Bool.false_eq_true,if_false];exact Ev.now _
    ·rw [hbad (by rw [hone,decide_eq_false a1,Bool.and_false];rfl)]
     simp only [if_neg a1];exact Ev.now _
   by_cases c2 : t.f0 = 2
   ·have hone : oneB t = (nameB t.f1 && decide (t.f2 = 0) && decide (t.f3.length = 0)):=by unfold oneB;rw [if_neg c1,if_pos c2]
    refine Ev.step (f:=fun k => (impl_nameOk.f k t.f1).bind fun t179 => if t179 = true then (if t.f2 = 0 then (if (t.f3.length : Int) > 0 then some 401 else impl_sized.j0 k deep t.f0 t.f1 t.f2 t.f3) else some 401) else some 401) (fun k => by simp only [impl_sized.f,if_neg cd,if_neg c1,if_pos c2]) ?_
    refine Ev.bind (f:=fun k t179 => if t179 = true then (if t.f2 = 0 then (if (t.f3.length : Int) > 0 then some 401 else impl_sized.j0 k deep t.f0 t.f1 t.f2 t.f3) else some 401) else some 401) hname ?_
    cases a1 : nameB t.f1 with
    | false =>
     rw [hbad (by rw [hone,a1];rfl)]
     simp only [Bool.false_eq_true,if_false];exact Ev.now _
    | true =>
     by_cases a2 : t.f2 = 0
     ·by_cases a3 : (t.f3.length : Int) > 0
      ·rw [hbad (by rw [hone,decide_eq_false (show ¬ t.f3.length = 0 by omega),Bool.and_false])]
       simp only [if_true,if_pos a2,if_pos a3];exact Ev.now _
      ·have:=hkids (by rw [hone,a1,decide_eq_true a2,decide_eq_true (show t.f3.length = 0 by omega)];rfl)
       simp only [if_true,if_pos a2,if_neg a3];exact this
     ·rw [hbad (by rw [hone,decide_eq_false a2,Bool.and_false];rfl)]
      simp only [if_true,if_neg a2];exact Ev.now _
   by_cases c3 : t.f0 = 3
   ·have hone : oneB t = (decide (-999999999 ≤ t.f2 ∧ t.f2 ≤ 999999999) && decide (t.f1.toList = []) && decide (t.f3.length = 0)):=by unfold oneB;rw [if_neg c1,if_neg c2,if_pos c3]
    refine Ev.step (f:=fun k => if t.f1.toList = ([] : List UInt8) then (if decide (-999999999 ≤ t.f2 ∧ t.f2 ≤ 999999999) = true then (if (t.f3.length : Int) > 0 then some 401 else impl_sized.j0 k deep t.f0 t.f1 t.f2 t.f3) else some 401) else some 401) (fun k => by simp only [impl_sized.f,if_neg cd,if_neg c1,if_neg c2,if_pos c3,in_impl,Option.bind_some]) ?_
    by_cases a1 : t.f1.toList = []
    ·by_cases a2 : -999999999 ≤ t.f2 ∧ t.f2 ≤ 999999999
     ·by_cases a3 : (t.f3.length : Int) > 0
      ·rw [hbad (by rw [hone,decide_eq_false (show ¬ t.f3.length = 0 by omega),Bool.and_false])]
       simp only [if_pos a1,decide_eq_true a2,if_true,if_pos a3];exact Ev.now _
      ·have:=hkids (by rw [hone,decide_eq_true a1,decide_eq_true a2,decide_eq_true (show t.f3.length = 0 by omega)];rfl)
       simp only [if_pos a1,decide_eq_true a2,if_true,if_neg a3];exact this
     ·rw [hbad (by rw [hone,decide_eq_false a2];rfl)]
      simp only [if_pos a1,decide_eq_false a2,Bool.false_eq_true,if_false];exact Ev.now _
    ·rw [hbad (by rw [hone,decide_eq_false a1,Bool.and_false];rfl)]
     simp only [if_neg a1];exact Ev.now _
   by_cases c4 : t.f0 = 4
   ·have hone : oneB t = (nameB t.f1 && decide (t.f2 = 0) && decide (1 ≤ (t.f3.length : Int) ∧ (t.f3.length : Int) ≤ 5)):=by unfold oneB;rw [if_neg c1,if_neg c2,if_neg c3,if_pos c4]
    refine Ev.step (f:=fun k => (impl_nameOk.f k t.f1).bind fun t181 => if t181 = true then (if t.f2 = 0 then (if decide (1 ≤ (t.f3.length : Int) ∧ (t.f3.length : Int) ≤ 5) = true then impl_sized.j0 k deep t.f0 t.f1 t.f2 t.f3 else some 401) else some 401) else some 401) (fun k => by simp only [impl_sized.f,if_neg cd,if_neg c1,if_neg c2,if_neg c3,if_pos c4,in_impl,Option.bind_some]) ?_
    refine Ev.bind (f:=fun k t181 => if t181 = true then (if t.f2 = 0 then (if decide (1 ≤ (t.f3.length : Int) ∧ (t.f3.length : Int) ≤ 5) = true then impl_sized.j0 k deep t.f0 t.f1 t.f2 t.f3 else some 401) else some 401) else some 401) hname ?_
    cases a1 : nameB t.f1 with
    | false =>
     rw [hbad (by rw [hone,a1];rfl)]
     simp only [Bool.false_eq_true,if_false];exact Ev.now _
    | true =>
     by_cases a2 : t.f2 = 0
     ·by_cases a3 : 1 ≤ (t.f3.length : Int) ∧ (t.f3.length : Int) ≤ 5
      ·have:=hkids (by rw [hone,a1,decide_eq_true a2,decide_eq_true a3];rfl)
       simp only [if_true,if_pos a2,decide_eq_true a3];exact this
      ·rw [hbad (by rw [hone,decide_eq_false a3,Bool.and_false])]
       simp only [if_true,if_pos a2,decide_eq_false a3,Bool.false_eq_true,if_false];exact Ev.now _
     ·rw [hbad (by rw [hone,decide_eq_false a2,Bool.and_false];rfl)]
      simp only [if_true,if_neg a2];exact Ev.now _
   ·refine Ev.step (f:=fun _ => some 401) (fun k => by simp only [impl_sized.f,if_neg cd,if_neg c1,if_neg c2,if_neg c3,if_neg c4]) ?_
    rw [hbad (by unfold oneB;rw [if_neg c1,if_neg c2,if_neg c3,if_neg c4])]
    exact Ev.now _
theorem impl_ok_ev (t : S29) (hc : cn29 t ≤ 1048577) (hnm : nm29 t) : Ev (fun k => impl_TermOk.f k t.f0 t.f1 t.f2 t.f3) (decide (cn29 t ≤ 400) && rt29 t 1):=by
 unfold impl_TermOk.f
 refine Ev.bind (f:=fun _ t187 => some (decide (t187 ≤ 400))) (sized_ev (ht29 t) t (Nat.le_refl _) hc hnm 1 (by omega) (by omega)) ?_
 have : decide (szd (rt29 t 1) (cn29 t) ≤ 400) = (decide (cn29 t ≤ 400) && rt29 t 1):=by
  unfold szd
  by_cases h1 : rt29 t 1 = true
  ·by_cases h2 : cn29 t ≤ 400
   ·rw [if_pos ⟨h1,h2⟩,h1,decide_eq_true h2,decide_eq_true (by omega)];rfl
   ·rw [if_neg (fun h => h2 h.2),decide_eq_false h2];rfl
  ·have h3 : rt29 t 1 = false:=by simpa using h1
   rw [if_neg (fun h => h1 h.1),h3,Bool.and_false];rfl
 rw [this];exact Ev.now _
theorem nm_to (n : Nat) : (∀ t : S24,ht24 t ≤ n → wt24 t ≤ 1048576 → nm29 (to29 t)):=by
 induction n with
 | zero => intro t h;rw [ht24_eq] at h;omega
 | succ n ih =>
  intro t h hw
  rw [ht24_eq] at h
  rw [wt24_eq] at hw
  rw [to29_eq,nm29]
  refine ⟨by omega,?_⟩
  have : ∀ ts : List S24,hts24 ts ≤ n → wts24 ts ≤ 1048576 → nms29 (tos29 ts):=by
   intro ts
   induction ts with
   | nil => intros;rw [tos29,nms29];trivial
   | cons a l ihl => intro h1 h2;rw [hts24] at h1;rw [wts24] at h2;rw [tos29,nms29];exact ⟨ih a (by omega) (by omega),ihl (by omega) (by omega)⟩
  exact this _ (by omega) (by omega)
def dtx (n : Nat) : ByteArray:=⟨(Lib.itoa (n : Int)).toArray⟩
def pv (t : S29) : ByteArray:=if t.f0 = 2 ∨ t.f0 = 4 then t.f1 ++ ⟨#[47]⟩ ++ dtx t.f3.length else ⟨#[]⟩
theorem dtx_size (n : Nat) (h : n ≤ 1048576) : (dtx n).size ≤ 21:=by
 have:=Lib.itoa_length_le (n : Int) (by omega) (by omega)
 show (Lib.itoa (n : Int)).toArray.size ≤ 21
 rw [List.size_toArray]
 exact this
theorem spec_pred (t : S29) (h1 : t.f1.size ≤ 1048576) (h2 : t.f3.length ≤ 1048576) : Ev (fun k => spec_PredOf.f k t.f0 t.f1 t.f2 t.f3) (pv t):=by
 have hd : Ev (fun k => spec_Decimal.f k (t.f3.length : Int)) (dtx t.f3.length):=dec_ev _ (by omega) (by omega)
 have hz:=dtx_size t.f3.length h2
 have hz2 : (t.f1 ++ (⟨#[47]⟩ : ByteArray)).size = t.f1.size + 1:=by rw [ByteArray.size_append];rfl
 unfold spec_PredOf.f pv
 by_cases c2 : t.f0 = 2
 ·rw [if_pos (Or.inl c2)]
  refine Ev.pos c2 (Ev.pos (by omega) ?_)
  exact Ev.bind (f:=fun _ t131 => (if (t.f1 ++ (⟨#[47]⟩ : ByteArray)).size + t131.size ≤ 9223372036854775807 then (some ((t.f1 ++ (⟨#[47]⟩ : ByteArray)) ++ t131)) else (none))) hd (Ev.pos (by omega) (Ev.now _))
 ·refine Ev.neg c2 ?_
  by_cases c4 : t.f0 = 4
  ·rw [if_pos (Or.inr c4)]
   refine Ev.pos c4 (Ev.pos (by omega) ?_)
   exact Ev.bind (f:=fun _ t131 => (if (t.f1 ++ (⟨#[47]⟩ : ByteArray)).size + t131.size ≤ 9223372036854775807 then (some ((t.f1 ++ (⟨#[47]⟩ : ByteArray)) ++ t131)) else (none))) hd (Ev.pos (by omega) (Ev.now _))
  ·rw [if_neg (fun h => h.elim c2 c4)]
   exact Ev.neg c4 (Ev.now _)
theorem impl_pred (t : S29) (h1 : t.f1.size ≤ 1048576) (h2 : t.f3.length ≤ 1048576) (k : Nat) : @impl_PredOf.f i_it k t.f0 t.f1 t.f2 t.f3 = some (pv t):=by
 have hd : @impl_Decimal.f i_it k (t.f3.length : Int) = some (dtx t.f3.length):=impl_dec k _ (by omega) (by omega)
 have hz:=dtx_size t.f3.length h2
 have hz2 : (t.f1 ++ (⟨#[47]⟩ : ByteArray)).size = t.f1.size + 1:=by rw [ByteArray.size_append];rfl
 unfold impl_PredOf.f pv
 by_cases c2 : t.f0 = 2
 ·rw [if_pos (Or.inl c2),if_pos c2,if_pos (by omega),hd,Option.bind_some,if_pos (by omega)]
 ·rw [if_neg c2]
  by_cases c4 : t.f0 = 4
  ·rw [if_pos (Or.inr c4),if_pos c4,if_pos (by omega),hd,Option.bind_some,if_pos (by omega)]
  ·rw [if_neg c4,if_neg (fun h => h.elim c2 c4)]
theorem l34S_ev (n : Nat) (xs : List S29) (hlen : xs.length ≤ 1048576) (IH : ∀ x ∈ xs,Ev (fun k => (i_34 n).f k x.f0 x.f1 x.f2 x.f3) (x.f0,x.f1,x.f2,x.f3)) (d : Nat) :
  ∀ (i : Nat) (ys : List S29),i ≤ xs.length → xs.length - i = d → ys.length = i → Ev (fun k => @spec_l34Terms.l0 (i_34 n) k xs ys i) (ys ++ xs.drop i):=by
 induction d with
 | zero =>
  intro i ys hi hd hy
  refine Ev.step (f:=fun _ => some ys) (fun k => ?_) ?_
  ·simp only [spec_l34Terms.l0];rw [if_neg (by omega)]
  ·rw [List.drop_eq_nil_of_le (by omega),List.append_nil];exact Ev.now ys
 | succ d ih =>
  intro i ys hi hd hy
  have hlt : i < xs.length:=by omega
  refine Ev.step (f:=fun k => ((i_34 n).f k xs[i].f0 xs[i].f1 xs[i].f2 xs[i].f3).bind fun b => @spec_l34Terms.l0 (i_34 n) k xs (ys ++ [⟨b.1,b.2.1,b.2.2.1,b.2.2.2⟩]) ((i + 1 : Nat) : Int)) (fun k => ?_) ?_
  ·simp only [spec_l34Terms.l0]
   rw [if_pos (by omega),if_pos (by omega),rd29_at xs i hlt,next_i i _ hlt hlen]
   have : ys.length < 2513169434916:=by omega
   simp only [if_pos this]
  ·refine Ev.bind (f:=fun k b => @spec_l34Terms.l0 (i_34 n) k xs (ys ++ [⟨b.1,b.2.1,b.2.2.1,b.2.2.2⟩]) ((i + 1 : Nat) : Int)) (IH xs[i] (List.getElem_mem hlt)) ?_
   have h2:=ih (i + 1) (ys ++ [xs[i]]) (by omega) (by omega) (by simp;omega)
   rw [List.append_assoc,List.singleton_append,← List.drop_eq_getElem_cons hlt] at h2
   show Ev (fun k => @spec_l34Terms.l0 (i_34 n) k xs (ys ++ [(⟨xs[i].f0,xs[i].f1,xs[i].f2,xs[i].f3⟩ : S29)]) ((i + 1 : Nat) : Int)) _
   rw [eta29]
   exact h2
theorem l34_ev (n : Nat) : ∀ (t : S29),ht29 t ≤ n → cn29 t ≤ 1048577 → Ev (fun k => (i_34 n).f k t.f0 t.f1 t.f2 t.f3) (t.f0,t.f1,t.f2,t.f3):=by
 induction n with
 | zero => intro t h;rw [ht29_eq] at h;omega
 | succ n ih =>
  intro t h hc
  rw [ht29_eq] at h
  rw [cn29_eq] at hc
  show Ev (fun k => @spec_l34Term.f (i_34 n) k t.f0 t.f1 t.f2 t.f3) _
  unfold spec_l34Term.f
  refine Ev.bind (f:=fun _ b => some (t.f0,t.f1,t.f2,b)) (a:=t.f3) ?_ (Ev.now _)
  unfold spec_l34Terms.f
  have:=l34S_ev n t.f3 (by have:=cns29_len t.f3;omega) (fun x hx => ih x (by have:=hts29_mem hx;omega) (by have:=cns29_mem hx;omega)) t.f3.length 0 [] (by omega) (by omega) rfl
  rw [List.drop_zero,List.nil_append] at this
  exact this
def ctl : List (List UInt8):=[([116,114,117,101,47,48] : List UInt8),([102,97,105,108,47,48] : List UInt8),([33,47,48] : List UInt8),([44,47,50] : List UInt8),([59,47,50] : List UInt8),([45,62,47,50] : List UInt8),([92,43,47,49] : List UInt8),([99,97,108,108,47,49] : List UInt8),([99,97,108,108,47,50] : List UInt8),([99,97,108,108,47,51] : List UInt8),([99,97,116,99,104,47,51] : List UInt8),([116,104,114,111,119,47,49] : List UInt8),([61,47,50] : List UInt8),([92,61,47,50] : List UInt8),([61,61,47,50] : List UInt8),([105,115,47,50] : List UInt8),([60,47,50] : List UInt8),([61,58,61,47,50] : List UInt8),([118,97,114,47,49] : List UInt8),([97,116,111,109,47,49] : List UInt8),([119,114,105,116,101,47,49] : List UInt8),([97,115,115,101,114,116,122,47,49] : List UInt8),([114,101,116,114,97,99,116,47,49] : List UInt8),([58,45,47,50] : List UInt8),([58,45,47,49] : List UInt8),([45,45,62,47,50] : List UInt8)]
def ctlB : List ByteArray:=[(⟨#[116,114,117,101,47,48]⟩ : ByteArray),(⟨#[102,97,105,108,47,48]⟩ : ByteArray),(⟨#[33,47,48]⟩ : ByteArray),(⟨#[44,47,50]⟩ : ByteArray),(⟨#[59,47,50]⟩ : ByteArray),(⟨#[45,62,47,50]⟩ : ByteArray),(⟨#[92,43,47,49]⟩ : ByteArray),(⟨#[99,97,108,108,47,49]⟩ : ByteArray),(⟨#[99,97,108,108,47,50]⟩ : ByteArray),(⟨#[99,97,108,108,47,51]⟩ : ByteArray),(⟨#[99,97,116,99,104,47,51]⟩ : ByteArray),(⟨#[116,104,114,111,119,47,49]⟩ : ByteArray),(⟨#[61,47,50]⟩ : ByteArray),(⟨#[92,61,47,50]⟩ : ByteArray),(⟨#[61,61,47,50]⟩ : ByteArray),(⟨#[105,115,47,50]⟩ : ByteArray),(⟨#[60,47,50]⟩ : ByteArray),(⟨#[61,58,61,47,50]⟩ : ByteArray),(⟨#[118,97,114,47,49]⟩ : ByteArray),(⟨#[97,116,111,109,47,49]⟩ : ByteArray),(⟨#[119,114,105,116,101,47,49]⟩ : ByteArray),(⟨#[97,115,115,101,114,116,122,47,49]⟩ : ByteArray),(⟨#[114,101,116,114,97,99,116,47,49]⟩ : ByteArray),(⟨#[58,45,47,50]⟩ : ByteArray),(⟨#[58,45,47,49]⟩ : ByteArray),(⟨#[45,45,62,47,50]⟩ : ByteArray)]
theorem spec_control (k : Nat) (s : ByteArray) (hk : 1 ≤ k) : spec_Control.f k s = some (ctl.any fun y => s.toList == y):=by
 obtain ⟨k,rfl⟩ : ∃ m,k = m + 1:=⟨k - 1,by omega⟩
 simp only [spec_Control.f,spec_Control.j0]
 generalize s.toList = x
 by_cases h : x = ([116,114,117,101,47,48] : List UInt8)
 ·subst h;rfl
 have e0 : (x == ([116,114,117,101,47,48] : List UInt8)) = false:=by simpa using h
 have n0:=h
 clear h
 by_cases h : x = ([102,97,105,108,47,48] : List UInt8)
 ·subst h;rfl
 have e1 : (x == ([102,97,105,108,47,48] : List UInt8)) = false:=by simpa using h
 have n1:=h
 clear h
 by_cases h : x = ([33,47,48] : List UInt8)
 ·subst h;rfl
 have e2 : (x == ([33,47,48] : List UInt8)) = false:=by simpa using h
 have n2:=h
 clear h
 by_cases h : x = ([44,47,50] : List UInt8)
 ·subst h;rfl
 have e3 : (x == ([44,47,50] : List UInt8)) = false:=by simpa using h
 have n3:=h
 clear h
 by_cases h : x = ([59,47,50] : List UInt8)
 ·subst h;rfl
 have e4 : (x == ([59,47,50] : List UInt8)) = false:=by simpa using h
 have n4:=h
 clear h
 by_cases h : x = ([45,62,47,50] : List UInt8)
 ·subst h;rfl
 have e5 : (x == ([45,62,47,50] : List UInt8)) = false:=by simpa using h
 have n5:=h
 clear h
 by_cases h : x = ([92,43,47,49] : List UInt8)
 ·subst h;rfl
 have e6 : (x == ([92,43,47,49] : List UInt8)) = false:=by simpa using h
 have n6:=h
 clear h
 by_cases h : x = ([99,97,108,108,47,49] : List UInt8)
 ·subst h;rfl
 have e7 : (x == ([99,97,108,108,47,49] : List UInt8)) = false:=by simpa using h
 have n7:=h
 clear h
 by_cases h : x = ([99,97,108,108,47,50] : List UInt8)
 ·subst h;rfl
 have e8 : (x == ([99,97,108,108,47,50] : List UInt8)) = false:=by simpa using h
 have n8:=h
 clear h
 by_cases h : x = ([99,97,108,108,47,51] : List UInt8)
 ·subst h;rfl
 have e9 : (x == ([99,97,108,108,47,51] : List UInt8)) = false:=by simpa using h
 have n9:=h
 clear h
 by_cases h : x = ([99,97,116,99,104,47,51] : List UInt8)
 ·subst h;rfl
 have e10 : (x == ([99,97,116,99,104,47,51] : List UInt8)) = false:=by simpa using h
 have n10:=h
 clear h
 by_cases h : x = ([116,104,114,111,119,47,49] : List UInt8)
 ·subst h;rfl
 have e11 : (x == ([116,104,114,111,119,47,49] : List UInt8)) = false:=by simpa using h
 have n11:=h
 clear h
 by_cases h : x = ([61,47,50] : List UInt8)
 ·subst h;rfl
 have e12 : (x == ([61,47,50] : List UInt8)) = false:=by simpa using h
 have n12:=h
 clear h
 by_cases h : x = ([92,61,47,50] : List UInt8)
 ·subst h;rfl
 have e13 : (x == ([92,61,47,50] : List UInt8)) = false:=by simpa using h
 have n13:=h
 clear h
 by_cases h : x = ([61,61,47,50] : List UInt8)
 ·subst h;rfl
 have e14 : (x == ([61,61,47,50] : List UInt8)) = false:=by simpa using h
 have n14:=h
 clear h
 by_cases h : x = ([105,115,47,50] : List UInt8)
 ·subst h;rfl
 have e15 : (x == ([105,115,47,50] : List UInt8)) = false:=by simpa using h
 have n15:=h
 clear h
 by_cases h : x = ([60,47,50] : List UInt8)
 ·subst h;rfl
 have e16 : (x == ([60,47,50] : List UInt8)) = false:=by simpa using h
 have n16:=h
 clear h
 by_cases h : x = ([61,58,61,47,50] : List UInt8)
 ·subst h;rfl
 have e17 : (x == ([61,58,61,47,50] : List UInt8)) = false:=by simpa using h
 have n17:=h
 clear h
 by_cases h : x = ([118,97,114,47,49] : List UInt8)
 ·subst h;rfl
 have e18 : (x == ([118,97,114,47,49] : List UInt8)) = false:=by simpa using h
 have n18:=h
 clear h
 by_cases h : x = ([97,116,111,109,47,49] : List UInt8)
 ·subst h;rfl
 have e19 : (x == ([97,116,111,109,47,49] : List UInt8)) = false:=by simpa using h
 have n19:=h
 clear h
 by_cases h : x = ([119,114,105,116,101,47,49] : List UInt8)
 ·subst h;rfl
 have e20 : (x == ([119,114,105,116,101,47,49] : List UInt8)) = false:=by simpa using h
 have n20:=h
 clear h
 by_cases h : x = ([97,115,115,101,114,116,122,47,49] : List UInt8)
 ·subst h;rfl
 have e21 : (x == ([97,115,115,101,114,116,122,47,49] : List UInt8)) = false:=by simpa using h
 have n21:=h
 clear h
 by_cases h : x = ([114,101,116,114,97,99,116,47,49] : List UInt8)
 ·subst h;rfl
 have e22 : (x == ([114,101,116,114,97,99,116,47,49] : List UInt8)) = false:=by simpa using h
 have n22:=h
 clear h
 by_cases h : x = ([58,45,47,50] : List UInt8)
 ·subst h;rfl
 have e23 : (x == ([58,45,47,50] : List UInt8)) = false:=by simpa using h
 have n23:=h
 clear h
 by_cases h : x = ([58,45,47,49] : List UInt8)
 ·subst h;rfl
 have e24 : (x == ([58,45,47,49] : List UInt8)) = false:=by simpa using h
 have n24:=h
 clear h
 by_cases h : x = ([45,45,62,47,50] : List UInt8)
 ·subst h;rfl
 have e25 : (x == ([45,45,62,47,50] : List UInt8)) = false:=by simpa using h
 have n25:=h
 clear h
 simp only [ctl,List.any_cons,List.any_nil,n0,n1,n2,n3,n4,n5,n6,n7,n8,n9,n10,n12,n13,n14,n15,n16,n17,n18,n19,n20,n21,n22,n23,n24,n25,e0,e1,e2,e3,e4,e5,e6,e7,e8,e9,e10,e11,e12,e13,e14,e15,e16,e17,e18,e19,e20,e21,e22,e23,e24,e25,if_false,Bool.or_false,Bool.false_eq_true]
theorem si_wrap {i : Int} (h0 : -4611686018427387904 ≤ i) (h1 : i ≤ 4611686018427387904) : wrap64 i = i:=by
 unfold wrap64;omega
theorem str_index (xs : List ByteArray) (v : ByteArray) (hx : xs.length ≤ 4611686018427387000) (d : Nat) : ∀ (k i : Nat),i ≤ xs.length → xs.length - i = d → d < k →
  ∃ r,slices_Index_string_string.l0 k xs v xs.length i = some r ∧ decide (r ≥ 0) = (xs.drop i).any fun y => v.toList == y.toList:=by
 induction d with
 | zero =>
  intro k i hi hd hk
  obtain ⟨k,rfl⟩ : ∃ m,k = m + 1:=⟨k - 1,by omega⟩
  refine ⟨-1,?_,?_⟩
  ·simp only [slices_Index_string_string.l0];rw [if_neg (by omega)]
  ·rw [List.drop_eq_nil_of_le (by omega)];rfl
 | succ d ih =>
  intro k i hi hd hk
  obtain ⟨k,rfl⟩ : ∃ m,k = m + 1:=⟨k - 1,by omega⟩
  have hlt : i < xs.length:=by omega
  have e : rdOf ByteArray.empty xs (i : Int) = xs[i]:=by simp [rdOf,List.getD,hlt]
  rw [List.drop_eq_getElem_cons hlt,List.any_cons]
  simp only [slices_Index_string_string.l0]
  rw [if_pos (by omega),if_pos (by omega),if_pos (by omega),e]
  by_cases h : v.toList = (xs[i]).toList
  ·rw [if_pos h];exact ⟨i,rfl,by rw [h];simp⟩
  ·rw [if_neg h]
   obtain ⟨r,hr,h2⟩:=ih k (i + 1) (by omega) (by omega) (by omega)
   refine ⟨r,?_,?_⟩
   ·rw [si_wrap (by omega) (by omega)];exact hr
   ·rw [h2];simp [h]
theorem impl_control (k : Nat) (s : ByteArray) (hk : 30 ≤ k) : impl_Control.f k s = some (ctl.any fun y => s.toList == y):=by
 unfold impl_Control.f slices_Contains_string_string.f slices_Index_string_string.f
 obtain ⟨r,hr,h2⟩:=str_index ctlB s (by decide) 26 k 0 (by decide) rfl (by omega)
 rw [show ((0 : Nat) : Int) = 0 from rfl] at hr
 show ((slices_Index_string_string.l0 k ctlB s (ctlB.length : Int) 0).bind fun _ => _).bind (fun _ => _) = _
 rw [hr]
 simp only [Option.bind_some]
 rw [h2]
 simp only [ByteArray.toList_eq,List.drop_zero]
 rfl
def FD29 (d : Kd S29) : Kd S29:=Kd.iso (Kd.pair (Kd.int .i64) (Kd.pair Kd.string (Kd.pair (Kd.int .i64) (Kd.sliceS 29 d)))) (fun x : S29 => (x.f0,x.f1,x.f2,x.f3))
theorem monoD29 : Kd.Mono FD29:=Kd.mono_iso _ (Kd.mono_pair (Kd.mono_const _) (Kd.mono_pair (Kd.mono_const _) (Kd.mono_pair (Kd.mono_const _) (Kd.mono_sliceS 29 Kd.mono_id))))
theorem subD29 : Kd.Sub FD29 [29]:=Kd.sub_iso _ (Kd.sub_pair (Kd.sub_const _ (by decide)) (Kd.sub_pair (Kd.sub_const _ (by decide)) (Kd.sub_pair (Kd.sub_const _ (by decide)) (Kd.sub_sliceS 29 (by decide) Kd.sub_id))))
theorem szD29 : ∀ n,(Kd.upto FD29 4 [29] n).sz = 4:=Kd.upto_sz (fun _ => rfl)
def kD29 : Kd S29:=Kd.fix FD29 4 [29] szD29 (Kd.upto_E subD29)
theorem kD29_openM {w : World} {base : Nat} {ok : Nat → Prop} {x : S29} {cs : List Value} (h : kD29.M w base ok x cs) : ∃ v3,cs = [.int .i64 x.f0,.string x.f1,.int .i64 x.f2,v3] ∧ Kd.S kD29 29 w base ok v3 x.f3:=by
 obtain ⟨n,h⟩:=h
 cases n with
 | zero => exact h.elim
 | succ n =>
  obtain ⟨_,_,rfl,rfl,⟨_,_,rfl,rfl,⟨_,_,rfl,rfl,⟨v3,rfl,g3⟩⟩⟩⟩:=h
  exact ⟨v3,rfl,Kd.fix_S g3⟩
theorem kD29_mkM (w : World) (base : Nat) (ok : Nat → Prop) (x : S29) {v3 : Value} (g3 : Kd.S kD29 29 w base ok v3 x.f3) : kD29.M w base ok x [.int .i64 x.f0,.string x.f1,.int .i64 x.f2,v3]:=by
 obtain ⟨n3,q3⟩:=Kd.fix_S_back monoD29 g3
 exact ⟨n3 + 1,⟨[.int .i64 x.f0],[.string x.f1,.int .i64 x.f2,v3],rfl,rfl,⟨[.string x.f1],[.int .i64 x.f2,v3],rfl,rfl,⟨[.int .i64 x.f2],[v3],rfl,rfl,⟨v3,rfl,q3⟩⟩⟩⟩⟩
theorem uptoD29_K : ∀ (n : Nat) {w : World} {x : S29} {cs : List Value},(Kd.upto FD29 4 [29] n).K w x cs → (Kd.upto F29 4 [29] n).K w x cs
 | 0,_,_,_,h => h.elim
 | n + 1,w,x,cs,h => by
  obtain ⟨_,_,rfl,rfl,⟨_,_,rfl,rfl,⟨_,_,rfl,rfl,⟨A,c,rfl,l,g⟩⟩⟩⟩:=h
  have g' : (Kd.upto F29 4 [29] n).C w A x.f3.length x.f3:=Kd.C_imp (d:=Kd.upto FD29 4 [29] n) ((szD29 n).trans (sz29 n).symm) (fun _ _ _ hp => uptoD29_K n hp) g
  exact ⟨[.int .i64 x.f0],[.string x.f1,.int .i64 x.f2,.slice A x.f3.length c],rfl,rfl,⟨[.string x.f1],[.int .i64 x.f2,.slice A x.f3.length c],rfl,rfl,⟨[.int .i64 x.f2],[.slice A x.f3.length c],rfl,rfl,⟨A,c,rfl,l,g'⟩⟩⟩⟩
theorem kD29_K {w : World} {x : S29} {cs : List Value} (h : kD29.K w x cs) : k29.K w x cs:=by
 obtain ⟨n,h⟩:=h
 exact ⟨n,uptoD29_K n h⟩
theorem kD29_C {w : World} {A : Option Addr} {n : Nat} {xs : List S29} (h : Kd.C kD29 w A n xs) : Kd.C k29 w A n xs:=Kd.C_imp (d:=kD29) (d':=k29) rfl (fun _ _ _ hp => kD29_K hp) h
theorem kD29_leaf (w : World) (base : Nat) (ok : Nat → Prop) (a : Int) (s : ByteArray) (b : Int) : kD29.M w base ok ⟨a,s,b,[]⟩ [.int .i64 a,.string s,.int .i64 b,.slice none 0 0]:=kD29_mkM w base ok ⟨a,s,b,[]⟩ (Kd.S_nil _ _ _ _ _)
theorem uptoD29_M : ∀ (n : Nat) {w : World} {base : Nat} {ok : Nat → Prop} {x : S29} {cs : List Value},(Kd.upto FD29 4 [29] n).M w base ok x cs → (Kd.upto F29 4 [29] n).M w base ok x cs
 | 0,_,_,_,_,_,h => h.elim
 | n + 1,w,base,ok,x,cs,h => by
  obtain ⟨_,_,rfl,rfl,⟨_,_,rfl,rfl,⟨_,_,rfl,rfl,⟨v3,rfl,g⟩⟩⟩⟩:=h
  have g' : (Kd.upto F29 4 [29] n).R 29 w base ok v3 x.f3:=Kd.R_imp (d:=Kd.upto FD29 4 [29] n) ((szD29 n).trans (sz29 n).symm) (fun _ _ _ _ _ hp => uptoD29_M n hp) (Kd.S_R g)
  exact ⟨[.int .i64 x.f0],[.string x.f1,.int .i64 x.f2,v3],rfl,rfl,⟨[.string x.f1],[.int .i64 x.f2,v3],rfl,rfl,⟨[.int .i64 x.f2],[v3],rfl,rfl,⟨v3,rfl,g'⟩⟩⟩⟩
theorem kD29_M {w : World} {base : Nat} {ok : Nat → Prop} {x : S29} {cs : List Value} (h : kD29.M w base ok x cs) : k29.M w base ok x cs:=by
 obtain ⟨n,h⟩:=h
 exact ⟨n,uptoD29_M n h⟩
theorem S_k29 {e : Nat} {w : World} {base : Nat} {ok : Nat → Prop} {v : Value} {xs : List S29} (h : Kd.S kD29 e w base ok v xs) : k29.R e w base ok v xs:=Kd.R_imp (d:=kD29) (d':=k29) rfl (fun _ _ _ _ _ hp => kD29_M hp) (Kd.S_R h)
mutual
def mk29 (mt : Int → ByteArray) : S29 → Int → S29
 | ⟨_,_,_,ks⟩,k => ⟨k,mt (k + 1),k + 2,mks29 mt ks (k + 3)⟩
def mks29 (mt : Int → ByteArray) : List S29 → Int → List S29
 | [],_ => []
 | t :: ts,k => mk29 mt t k :: mks29 mt ts (k + 3 * (cn29 t : Int))
end
theorem mk29_eq (mt : Int → ByteArray) (t : S29) (k : Int) : mk29 mt t k = ⟨k,mt (k + 1),k + 2,mks29 mt t.f3 (k + 3)⟩:=by cases t;rw [mk29]
theorem mks29_length (mt : Int → ByteArray) : ∀ (ts : List S29) (k : Int),(mks29 mt ts k).length = ts.length
 | [],_ => by rw [mks29]
 | t :: ts,k => by rw [mks29,List.length_cons,List.length_cons,mks29_length mt ts]
theorem mks29_append (mt : Int → ByteArray) : ∀ (ts us : List S29) (k : Int),mks29 mt (ts ++ us) k = mks29 mt ts k ++ mks29 mt us (k + 3 * (cns29 ts : Int))
 | [],us,k => by rw [mks29,cns29,List.nil_append,List.nil_append];simp
 | t :: ts,us,k => by
  rw [List.cons_append,mks29,mks29,cns29,List.cons_append,mks29_append mt ts us]
  congr 3
  push_cast
  omega
theorem cns29_append : ∀ (ts us : List S29),cns29 (ts ++ us) = cns29 ts + cns29 us
 | [],us => by rw [List.nil_append,cns29];omega
 | t :: ts,us => by rw [List.cons_append,cns29,cns29,cns29_append ts us];omega
theorem marks_take (xs : List S29) (i : Nat) (h : i < xs.length) : cns29 (xs.take (i + 1)) = cns29 (xs.take i) + (cns29 xs[i].f3 + 1):=by
 rw [List.take_succ_eq_append_getElem h,cns29_append,cns29,cns29,← cn29_eq];omega
theorem marks_set (mt : Int → ByteArray) (xs : List S29) (k : Int) (i : Nat) (h : i < xs.length) : (mks29 mt (xs.take i) k ++ xs.drop i).set i (mk29 mt xs[i] (k + 3 * (cns29 (xs.take i) : Int))) = mks29 mt (xs.take (i + 1)) k ++ xs.drop (i + 1):=by
 have hl : (mks29 mt (xs.take i) k).length = i:=by rw [mks29_length,List.length_take];omega
 rw [List.set_append_right _ _ (by omega),hl,Nat.sub_self,List.drop_eq_getElem_cons h,List.set_cons_zero,List.take_succ_eq_append_getElem h,mks29_append,mks29,mks29,List.append_assoc]
 rfl
structure MS (base : Nat) (ok : Nat → Prop) (g n cap : Nat) (xs : List S29) (i : Nat) (oki : Nat → Prop) (A3 : Option Addr) (c3 : Nat) (ks : List S29) (w W : World) (c : List Value) : Prop where
 hi : i < n
 hH : Kd.H kD29 29 W base ok (.slice (some ⟨g,0,none⟩) n cap) xs (i : Int) oki c
 hK : Kd.S kD29 29 W base oki (.slice A3 ks.length c3) ks
 hg : ∀ k,oki k → k ≠ g
 hok : ok g
 hb : base ≤ g
 hl : c.length = 4
 below : Below base w W
 hbs : base ≤ W.heap.size
 kept : Kept w W ok
section
variable {base : Nat} {ok : Nat → Prop} {g n cap : Nat} {xs : List S29} {i : Nat} {oki : Nat → Prop} {A3 : Option Addr} {c3 : Nat} {ks : List S29} {w W W1 : World} {c : List Value}
theorem MS.at_ (h : MS base ok g n cap xs i oki A3 c3 ks w W c) : (∀ j u,c[j]? = some u → W.cell? ⟨g,i * 4 + j,none⟩ = some u) ∧ ∀ j,W.frozen? ⟨g,i * 4 + j,none⟩ = false:=by
 have hi:=h.hi
 obtain ⟨h1,h2⟩:=Kd.H_at h.hH (by omega) (by omega)
 rw [Int.toNat_natCast] at h1 h2
 exact ⟨h1,h2⟩
theorem MS.put (h : MS base ok g n cap xs i oki A3 c3 ks w W c) (j : Nat) (v : Value) (hj : j < 4) (h1 : v.oneCell' = true) :
  MS base ok g n cap xs i oki A3 c3 ks w (W.setCell ⟨g,i * 4 + j,none⟩ v) (c.take j ++ [v] ++ c.drop (j + 1)):=by
 have hi:=h.hi
 have hl:=h.hl
 obtain ⟨h2,h3⟩:=Kd.H_seg h.hH (by omega) (by omega) (seg:=[v]) (j:=j) (show j + 1 ≤ 4 by omega) (fun q hq => by rw [List.mem_singleton.1 hq];exact h1)
 rw [Int.toNat_natCast] at h2
 exact ⟨hi,h2,Kd.S_far h.hK (p:=⟨g,i * 4 + j,none⟩) h.hg v,h.hg,h.hok,h.hb,by simp only [List.length_append,List.length_take,List.length_drop,List.length_singleton];omega,
  h.below.setCell h.hb _,by have:=h.hbs;simpa [World.setCell] using this,Kept.setCell h.kept (.inl h.hok) _⟩
theorem MS.step (h : MS base ok g n cap xs i oki A3 c3 ks w W c) (hb : Below W.heap.size W W1) : MS base ok g n cap xs i oki A3 c3 ks w W1 c :=
 ⟨h.hi,Kd.H_below h.hH hb,Kd.S_below h.hK hb,h.hg,h.hok,h.hb,h.hl,below_then h.below h.hbs hb,Nat.le_trans h.hbs hb.size,h.kept.below hb⟩
theorem MS.done (h : MS base ok g n cap xs i oki A3 c3 ks w W c) {a b : Int} {s : ByteArray} (hc : c = [.int .i64 a,.string s,.int .i64 b,.slice A3 ks.length c3]) {ks' : List S29} (hB : Below base W W1) (hS : Kd.S kD29 29 W1 base oki (.slice A3 ks.length c3) ks') (hk : Kept W W1 oki) :
  Kd.S kD29 29 W1 base ok (.slice (some ⟨g,0,none⟩) n cap) (xs.set i ⟨a,s,b,ks'⟩) ∧ Below base w W1 ∧ Kept w W1 ok ∧ base ≤ W1.heap.size:=by
 have hH:=Kd.H_kept h.hH hk (fun k _ hn => hn)
 subst hc
 refine ⟨?_,h.below.trans hB,h.kept.then_ hk (fun k hk2 => .inl (hH.1 k hk2)),Nat.le_trans h.hbs hk.1⟩
 have:=Kd.H_back hH (x':=(⟨a,s,b,ks'⟩ : S29)) (okp:=oki) (kD29_mkM W1 base oki ⟨a,s,b,ks'⟩ hS) (fun _ hk => hk)
 rw [Int.toNat_natCast] at this
 exact this
end
theorem ms_new {base : Nat} {ok : Nat → Prop} {g n cap : Nat} {xs : List S29} {i : Nat} {w W : World} (hS : Kd.S kD29 29 W base ok (.slice (some ⟨g,0,none⟩) n cap) xs) (hi : i < n) (hB : Below base w W) (hk : Kept w W ok) (hbs : base ≤ W.heap.size) (x : S29) (hx : xs.getD i z29 = x) :
  ∃ (oki : Nat → Prop) (A3 : Option Addr) (c3 : Nat),MS base ok g n cap xs i oki A3 c3 x.f3 w W [.int .i64 x.f0,.string x.f1,.int .i64 x.f2,.slice A3 x.f3.length c3]:=by
 obtain ⟨oki,ce,hcl,hM,hcc,hfr,hoki,hH⟩:=Kd.S_elem hS z29 (i : Int) (by omega) (by omega)
 rw [Int.toNat_natCast,hx] at hM
 obtain ⟨v3,rfl,hK3⟩:=kD29_openM hM
 obtain ⟨A3,c3,rfl⟩:=Kd.S_slice hK3
 have hR:=Kd.S_R hS
 exact ⟨oki,A3,c3,hi,hH,hK3,fun k hk => (hoki k hk).2,hR.1 g (by simp [Value.ownBlock]),Kd.S_base hS g (by simp [Value.ownBlock]),hcl,hB,hbs,hk⟩
section
set_option linter.unusedSectionVars false
variable [fk_laws_szTerm] [fk_laws_eqTerm] [fk_spec_l34Term] [fk_strconv_Itoa]
def MarkOf (mt : Int → ByteArray) (xs : List S29) : Prop:=∀ (A : Option Addr) (c : Nat) (k : Int) (w : World) (base : Nat) (ok : Nat → Prop),0 < k → k + 3 * (cns29 xs : Int) ≤ 1000000000 → base ≤ w.heap.size → Kd.S kD29 29 w base ok (.slice A xs.length c) xs →
  Calls Tryd.prog 64 #[.slice A xs.length c,.int .i64 k] w fun e w' => e = .returned (.int .i64 (k + 3 * (cns29 xs : Int))) ∧ Kd.S kD29 29 w' base ok (.slice A xs.length c) (mks29 mt xs k) ∧ Below base w w' ∧ Kept w w' ok
set_option maxHeartbeats 8000000 in
set_option maxRecDepth 100000 in
theorem mark_step (mt : Int → ByteArray) (kt : Nat) (hmt : ∀ n : Int,0 < n → n ≤ 1000000000 → laws_markText.f kt n = some (mt n)) (xs : List S29) (ih : ∀ x ∈ xs,MarkOf mt x.f3) : MarkOf mt xs:=by
  intro A c k w base ok hk hk2 hbs hS
  have IH:=asd ih
  have HS:=asd hS
  have HK:=asd hk2
  have hm:=(Kd.S_reads' hS).2.2.2.1
  clear hS hk2 ih
  go_enter Tryd.func64,Tryd.ntmps64
  go_wp2
  go_loopg [1,5] xs.length (fun m v1 v5 w' => ∃ i : Nat,v5 = .int .i64 i ∧ v1 = .int .i64 (k + 3 * (cns29 (xs.take i) : Int)) ∧ Aside0 (m + i = xs.length) ∧ Aside0 (Kd.S kD29 29 w' base ok (.slice A xs.length c) (mks29 mt (xs.take i) k ++ xs.drop i)) ∧ Aside0 (Below base w w') ∧ Aside0 (Kept w w' ok))
  case atStart => exact ⟨0,rfl,by simp [cns29],⟨by omega⟩,⟨by simpa [mks29] using HS.out⟩,⟨Below.refl _ _⟩,⟨⟨Nat.le_refl _,fun _ _ _ => rfl⟩⟩⟩
  case round =>
   clear HS
   obtain ⟨i,rfl,rfl,hi,HA,HB,HK2⟩:=hrel
   by_cases hlt : (i : Int) < (xs.length : Int)
   ·have c3b0 : decide ((i : Int) < (xs.length : Int)) = true:=decide_eq_true hlt
    have hlt' : i < xs.length:=by omega
    have c3b1 : decide (i < xs.length) = true:=decide_eq_true hlt'
    have hlen : (mks29 mt (xs.take i) k ++ xs.drop i).length = xs.length:=by rw [List.length_append,mks29_length,List.length_take,List.length_drop];omega
    obtain ⟨g,hA⟩ : ∃ g,A = some ⟨g,0,none⟩:=by
     obtain ⟨g,cap,e,_⟩:=Kd.S_form HA.out (by rw [hlen];omega)
     injection e with e1
     exact ⟨g,e1⟩
    subst hA
    have hx : (mks29 mt (xs.take i) k ++ xs.drop i).getD i z29 = xs[i]:=by
     rw [List.getD_eq_getElem?_getD,List.getElem?_append_right (by rw [mks29_length,List.length_take];omega),mks29_length,List.length_take,Nat.min_eq_left (by omega),Nat.sub_self,List.drop_eq_getElem_cons hlt']
     rfl
    obtain ⟨oki,A3,c3,hms⟩:=ms_new HA.out hlt' HB.out HK2.out (Nat.le_trans hbs HK2.out.1) xs[i] hx
    have hf0:=hms.at_.2 0
    have hx0:=hms.at_.1 0 _ rfl
    simp only [Nat.add_zero] at hf0 hx0
    have HM:=asd hms
    have hcn : cns29 (xs.take i) + cn29 xs[i] ≤ cns29 xs:=by
     have:=cns29_append (xs.take i) (xs.drop i)
     rw [List.take_append_drop,List.drop_eq_getElem_cons hlt',cns29] at this
     omega
    have hcs:=cn29_eq xs[i]
    have HCN:=asd hcn
    have HCS:=asd hcs
    clear hlen hms hx hcn hcs
    generalize hki : k + 3 * (cns29 (xs.take i) : Int) = ki
    have HKI:=asd hki
    have e1 : wrap64 (ki + 1) = ki + 1:=t_wrap (by omega) (by have:=HK.out;have:=HCN.out;omega)
    have e2 : wrap64 (wrap64 (ki + 1) + 1) = ki + 2:=by rw [e1,t_wrap (by have:=HKI.out;omega) (by have:=HK.out;have:=HCN.out;omega)];omega
    have e3 : wrap64 (wrap64 (wrap64 (ki + 1) + 1) + 1) = ki + 3:=by rw [e2,t_wrap (by have:=HKI.out;omega) (by have:=HK.out;have:=HCN.out;omega)];omega
    have hr1 : laws_markText.f kt (wrap64 (ki + 1)) = some (mt (ki + 1)):=by rw [e1];exact hmt _ (by have:=HKI.out;omega) (by have:=HK.out;have:=HCN.out;have:=HCS.out;omega)
    have E2:=asd e2
    have E3:=asd e3
    have E1:=asd e1
    have HR1:=asd hr1
    clear hki hr1 e1 e2 e3
    go_wp2_with (first
     | ((with_reducible refine gate_store (t:=3) (p:=16) rfl ?_);refine store_event (t:=3) (p:=16) (v:=?vo1) (w1:=wr.setCell ⟨g,i * 4,none⟩ (.int .i64 ki)) ?hg ?ho ?hn ?hr ?_;(case ho => rfl);(case hg => rfl);(case hn => rfl);(case hr => first | (go_simp;done) | (go_simp;rfl));intro w2 hw2;have HM':=asd (HM.out.put 0 (.int .i64 ki) (by decide) rfl);rw [Nat.add_zero,← hw2] at HM';clear HM hw2 hf0 hx0;have HM:=HM';clear HM')
     | ((with_reducible refine gate_callee (f:=68) rfl ?_);refine goesL_ (some 22) rfl rfl Tryd.func68 (by kernel_rfl) rfl #[.int .i64 (wrap64 (ki + 1))] rfl (by (try simp only [List.map_toArray,List.map_cons,List.map_nil]);first | done | rfl) ?_;refine (laws_markText.calls kt (wrap64 (ki + 1)) (mt (ki + 1)) _ HR1.out).mono ?_;rintro e w3 ⟨rfl,hb3⟩;refine ⟨_,rfl,?_⟩;have HM':=asd (HM.out.step hb3);clear HM hb3;have HM:=HM';clear HM';have hf1:=HM.out.at_.2 1;have hx1:=HM.out.at_.1 1 _ rfl)
     | ((with_reducible refine gate_store (t:=9) (p:=24) rfl ?_);refine store_event (t:=9) (p:=24) (v:=?vo2) (w1:=w3.setCell ⟨g,i * 4 + 1,none⟩ (.string (mt (ki + 1)))) ?hg ?ho ?hn ?hr ?_;(case ho => rfl);(case hg => rfl);(case hn => rfl);(case hr => first | (go_simp;done) | (go_simp;rfl));intro w4 hw4;have HM':=asd (HM.out.put 1 (.string (mt (ki + 1))) (by decide) rfl);rw [← hw4] at HM';clear HM hw4 hf1 hx1;have HM:=HM';clear HM';have hf2:=HM.out.at_.2 2;have hx2:=HM.out.at_.1 2 _ rfl)
     | ((with_reducible refine gate_store (t:=3) (p:=31) rfl ?_);refine store_event (t:=3) (p:=31) (v:=?vo3) (w1:=w4.setCell ⟨g,i * 4 + 2,none⟩ (.int .i64 (wrap64 (wrap64 (ki + 1) + 1)))) ?hg ?ho ?hn ?hr ?_;(case ho => rfl);(case hg => rfl);(case hn => rfl);(case hr => first | (go_simp;done) | (go_simp;rfl));intro w5 hw5;have HM':=asd (HM.out.put 2 (.int .i64 (wrap64 (wrap64 (ki + 1) + 1))) (by decide) rfl);rw [← hw5] at HM';clear HM hw5 hf2 hx2;have HM:=HM';clear HM';have hx3:=HM.out.at_.1 3 _ rfl)
     | ((with_reducible refine gate_callee (f:=64) rfl ?_);refine goesL_ (some 40) rfl rfl Tryd.func64 (by kernel_rfl) rfl #[.slice A3 xs[i].f3.length c3,.int .i64 (wrap64 (wrap64 (wrap64 (ki + 1) + 1) + 1))] rfl (by (try simp only [List.map_toArray,List.map_cons,List.map_nil]);first | done | rfl) ?_;refine (IH.out xs[i] (List.getElem_mem hlt') A3 c3 (wrap64 (wrap64 (wrap64 (ki + 1) + 1) + 1)) _ base oki ?s2 ?s3 HM.out.hbs HM.out.hK).mono ?_;(case s2 => rw [E3.out];have:=HKI.out;omega);(case s3 => rw [E3.out];have:=HK.out;have:=HCN.out;have:=HCS.out;have:=HKI.out;omega);rintro e w6 ⟨rfl,hs6,hb6,hk6⟩;refine ⟨_,rfl,?_⟩))
    obtain ⟨hs7,hb7,hk7,hz7⟩:=HM.out.done rfl hb6 hs6 hk6
    rw [E3.out,E2.out] at hs7
    have hq:=marks_set mt xs k i hlt'
    rw [HKI.out,mk29_eq] at hq
    rw [hq] at hs7
    go_roundg (xs.length - (i + 1))
    case measure => have:=hi.out;omega
    case rel => exact ⟨i + 1,by go_num,by rw [E3.out,marks_take xs i hlt'];have:=HKI.out;congr 1;push_cast;omega,⟨by have:=hi.out;omega⟩,⟨hs7⟩,⟨hb7⟩,⟨hk7⟩⟩
   ·have c3b0 : decide ((i : Int) < (xs.length : Int)) = false:=decide_eq_false hlt
    have c3b1 : decide (i < xs.length) = false:=decide_eq_false (by omega)
    go_wp2
    go_ret
    have he : xs.length ≤ i:=by omega
    have hS:=HA.out
    rw [List.take_of_length_le he,List.drop_eq_nil_of_le he,List.append_nil] at hS
    exact ⟨by rw [List.take_of_length_le he];rfl,hS,HB.out,HK2.out⟩
theorem mark_calls (mt : Int → ByteArray) (kt : Nat) (hmt : ∀ n : Int,0 < n → n ≤ 1000000000 → laws_markText.f kt n = some (mt n)) (n : Nat) : ∀ xs : List S29,hts29 xs ≤ n → MarkOf mt xs:=by
 induction n with
 | zero =>
  intro xs h
  refine mark_step mt kt hmt xs (fun x hx => ?_)
  have:=hts29_mem hx
  have:=ht29_eq x
  omega
 | succ n ih =>
  intro xs h
  refine mark_step mt kt hmt xs (fun x hx => ih x.f3 ?_)
  have:=hts29_mem hx
  have:=ht29_eq x
  omega
end
section
set_option linter.unusedSectionVars false
variable [fk_laws_szTerm] [fk_laws_eqTerm] [fk_spec_l34Term] [fk_strconv_Itoa]
theorem markText_l (d : Nat) : ∀ (x : Int) (s : ByteArray),0 ≤ x → x ≤ 1000000000 → x < 10 ^ d → s.size + d ≤ 100 → ∃ r,laws_markText.l0 (d + 1) x s = some r:=by
 induction d with
 | zero =>
  intro x s h0 hb h1 hs
  obtain rfl : x = 0:=by omega
  exact ⟨⟨#[109]⟩ ++ s,by simp only [laws_markText.l0];rw [if_neg (by omega),if_pos (by omega)]⟩
 | succ d ih =>
  intro x s h0 hb h1 hs
  by_cases c : x > 0
  ·have hd : wrap64 (Int.tdiv x 10) = x / 10:=by
    rw [Int.tdiv_eq_ediv_of_nonneg h0]
    exact t_wrap (by omega) (by omega)
   have hq : x / 10 < 10 ^ d:=by
    rw [Int.pow_succ] at h1
    omega
   obtain ⟨r,hr⟩:=ih (x / 10) ((strOfNums [(wrap64 (48 + (Int.tmod x 10))) % 256]) ++ s) (by omega) (by omega) hq (by rw [ByteArray.size_append];have : (strOfNums [(wrap64 (48 + (Int.tmod x 10))) % 256]).size = 1:=rfl;omega)
   refine ⟨r,?_⟩
   simp only [laws_markText.l0,Option.bind_some]
   have h3 : (strOfNums [(wrap64 (48 + (Int.tmod x 10))) % 256]).size = 1:=rfl
   rw [if_pos c,if_pos (by omega),hd]
   exact hr
  ·refine ⟨⟨#[109]⟩ ++ s,?_⟩
   simp only [laws_markText.l0]
   rw [if_neg c,if_pos (by omega)]
def mtx (n : Int) : ByteArray:=(laws_markText.f 11 n).getD ⟨#[]⟩
theorem mtx_ok (n : Int) (h0 : 0 < n) (h1 : n ≤ 1000000000) : laws_markText.f 11 n = some (mtx n):=by
 obtain ⟨r,hr⟩:=markText_l 10 n ⟨#[]⟩ (by omega) h1 (by omega) (by decide)
 have : laws_markText.f 11 n = some r:=by
  unfold laws_markText.f
  rw [if_neg (by omega)]
  exact hr
 unfold mtx
 rw [this]
 rfl
theorem mtx_ev (n : Int) (h0 : 0 < n) (h1 : n ≤ 1000000000) : Ev (fun k => laws_markText.f k n) (mtx n):=Ev.of (fun k => laws_markText.mono n k) (mtx_ok n h0 h1)
theorem mks29_get (mt : Int → ByteArray) : ∀ (xs : List S29) (k : Int) (i : Nat) (h : i < xs.length),(mks29 mt xs k)[i]'(by rw [mks29_length];exact h) = mk29 mt xs[i] (k + 3 * (cns29 (xs.take i) : Int))
 | t :: ts,k,0,_ => by simp only [mks29,List.getElem_cons_zero,List.take_zero,cns29];congr 1;omega
 | t :: ts,k,i + 1,h => by
  simp only [mks29,List.getElem_cons_succ,List.take_succ_cons,cns29]
  rw [mks29_get mt ts _ i (by simpa using h)]
  congr 1
  push_cast
  omega
theorem cns29_take_le (xs : List S29) (i : Nat) : cns29 (xs.take i) ≤ cns29 xs:=by
 have:=cns29_append (xs.take i) (xs.drop i)
 rw [List.take_append_drop] at this
 omega
def HeldOf (xs : List S29) : Prop:=∀ k0 : Int,0 < k0 → k0 + 3 * (cns29 xs : Int) ≤ 1000000000 → Ev (fun k => laws_heldTermS.f k (mks29 mtx xs k0) k0) (k0 + 3 * (cns29 xs : Int))
theorem held_step (xs : List S29) (hlen : xs.length ≤ 1048576) (ih : ∀ x ∈ xs,HeldOf x.f3) : HeldOf xs:=by
 intro k0 h0 h1
 have hl : ∀ (d i : Nat),i ≤ xs.length → xs.length - i = d → Ev (fun k => laws_heldTermS.l0 k (mks29 mtx xs k0) (k0 + 3 * (cns29 (xs.take i) : Int)) i) (k0 + 3 * (cns29 xs : Int)):=by
  intro d
  induction d with
  | zero =>
   intro i hi hd
   refine Ev.step (f:=fun _ => some (k0 + 3 * (cns29 xs : Int))) (fun k => ?_) (Ev.now _)
   simp only [laws_heldTermS.l0]
   rw [if_neg (by rw [mks29_length];omega),List.take_of_length_le (by omega)]
  | succ d ihd =>
   intro i hi hd
   have hlt : i < xs.length:=by omega
   have hcn:=cns29_take_le xs (i + 1)
   have htk:=marks_take xs i hlt
   obtain ⟨ki,hki⟩ : ∃ ki : Int,ki = k0 + 3 * (cns29 (xs.take i) : Int):=⟨_,rfl⟩
   have e1 : wrap64 (ki + 1) = ki + 1:=t_wrap (by omega) (by omega)
   have e2 : wrap64 (ki + 1 + 1) = ki + 2:=by rw [t_wrap (by omega) (by omega)];omega
   have e3 : wrap64 (ki + 2 + 1) = ki + 3:=by rw [t_wrap (by omega) (by omega)];omega
   have hx : rd_T29 (mks29 mtx xs k0) (i : Int) = mk29 mtx xs[i] ki:=by rw [rd29_at _ _ (by rw [mks29_length];exact hlt),mks29_get mtx xs k0 i hlt,hki]
   rw [← hki]
   refine Ev.step (f:=fun k => (laws_markText.f k (ki + 1)).bind fun t212 => (if (mtx (ki + 1)).toList = t212.toList then ((laws_heldTermS.f k (mks29 mtx xs[i].f3 (ki + 3)) (ki + 3)).bind fun t215 => (if t215 < 0 then (some (-1)) else (laws_heldTermS.l0 k (mks29 mtx xs k0) t215 ((i + 1 : Nat) : Int)))) else (some (-1)))) (fun k => ?_) ?_
   ·simp only [laws_heldTermS.l0]
    rw [if_pos (by rw [mks29_length];omega),if_pos (by omega),hx,mk29_eq,next_i i _ hlt hlen]
    simp only [e1,e2,e3,if_true]
   ·refine Ev.bind (f:=fun k t212 => (if (mtx (ki + 1)).toList = t212.toList then ((laws_heldTermS.f k (mks29 mtx xs[i].f3 (ki + 3)) (ki + 3)).bind fun t215 => (if t215 < 0 then (some (-1)) else (laws_heldTermS.l0 k (mks29 mtx xs k0) t215 ((i + 1 : Nat) : Int)))) else (some (-1)))) (mtx_ev (ki + 1) (by omega) (by omega)) ?_
    refine Ev.congr (fun k => if_pos rfl) ?_
    refine Ev.bind (f:=fun k t215 => (if t215 < 0 then (some (-1)) else (laws_heldTermS.l0 k (mks29 mtx xs k0) t215 ((i + 1 : Nat) : Int)))) (ih xs[i] (List.getElem_mem hlt) (ki + 3) (by omega) (by omega)) ?_
    refine Ev.congr (fun k => if_neg (by omega)) ?_
    have:=ihd (i + 1) (by omega) (by omega)
    have e : ki + 3 + 3 * (cns29 xs[i].f3 : Int) = k0 + 3 * (cns29 (xs.take (i + 1)) : Int):=by rw [htk,hki];push_cast;omega
    rw [e]
    exact this
 refine Ev.step (f:=fun k => laws_heldTermS.l0 k (mks29 mtx xs k0) k0 0) (fun k => by simp only [laws_heldTermS.f]) ?_
 have:=hl xs.length 0 (by omega) (by omega)
 rw [List.take_zero,cns29] at this
 simpa using this
theorem held_ev (n : Nat) : ∀ xs : List S29,hts29 xs ≤ n → cns29 xs ≤ 1048576 → HeldOf xs:=by
 induction n with
 | zero =>
  intro xs h hc
  refine held_step xs ?_ (fun x hx => ?_)
  ·cases xs with
   | nil => simp
   | cons t ts => rw [hts29] at h;have:=ht29_eq t;omega
  ·have:=hts29_mem hx
   have:=ht29_eq x
   omega
 | succ n ih =>
  intro xs h hc
  refine held_step xs (by have:=cns29_len xs;omega) (fun x hx => ih x.f3 ?_ ?_)
  ·have:=hts29_mem hx;have:=ht29_eq x;omega
  ·have:=cns29_mem hx;have:=cn29_eq x;omega
end
theorem readS {e : Nat} {w : World} {base : Nat} {ok : Nat → Prop} {A : Option Addr} {n c : Nat} {xs : List S29} (h : Kd.S kD29 e w base ok (.slice A n c) xs) : n ≤ c ∧ Kd.C k29 w A n xs:=by
 obtain ⟨h1,h2,h3⟩:=Kd.S_reads' h
 rw [h1]
 exact ⟨by omega,kD29_C h3⟩
theorem S_store {W : World} {base N g n cap : Nat} {xs : List S29} (i : Nat) (hS : Kd.S kD29 29 W base (fun k => k < N) (.slice (some ⟨g,0,none⟩) n cap) xs) (hi : i < n) (x : S29) (v3 : Value) (hK : Kd.S kD29 29 W base (fun k => N ≤ k) v3 x.f3) (hg : g < N) :
  Kd.S kD29 29 (W.setCells g (i * 4) [.int .i64 x.f0,.string x.f1,.int .i64 x.f2,v3]) base (fun _ => True) (.slice (some ⟨g,0,none⟩) n cap) (xs.set i x) ∧ W.grownBy (W.setCells g (i * 4) [.int .i64 x.f0,.string x.f1,.int .i64 x.f2,v3]) (some g):=by
 have hS2 : Kd.S kD29 29 W base (fun k => True ∧ ¬ (N ≤ k)) (.slice (some ⟨g,0,none⟩) n cap) xs:=Kd.S_mono hS (fun k hk => ⟨trivial,by omega⟩)
 obtain ⟨oki,c,hcl,hM,hcc,hfr,hoki,hH⟩:=Kd.S_elem hS2 z29 (i : Int) (by omega) (by omega)
 have h:=Kd.S_seg (okg:=fun k => N ≤ k) (seg:=[.int .i64 x.f0,.string x.f1,.int .i64 x.f2,v3]) (j:=0) (x':=x) (okp:=fun k => N ≤ k) hH (by omega) (by omega) (show 0 + 4 ≤ 4 by omega)
  (by
   have e : c.take 0 ++ [.int .i64 x.f0,.string x.f1,.int .i64 x.f2,v3] ++ c.drop (0 + [Value.int .i64 x.f0,.string x.f1,.int .i64 x.f2,v3].length) = [.int .i64 x.f0,.string x.f1,.int .i64 x.f2,v3]:=by
    have hcl4 : c.length = 4:=hcl
    rw [List.take_zero,List.nil_append,List.drop_eq_nil_of_le (by simp;omega),List.append_nil]
   rw [e]
   exact kD29_mkM W base _ x hK)
  (fun k hk => .inr hk) (fun k hk => ⟨trivial,by omega⟩)
 rw [Int.toNat_natCast] at h
 exact h
section
set_option linter.unusedSectionVars false
variable [fk_laws_szTerm] [fk_laws_eqTerm] [fk_spec_l34Term] [fk_strconv_Itoa]
def ToOf (xs : List S24) : Prop:=∀ (A : Option Addr) (c : Nat) (w : World),Kd.C k24 w A xs.length xs → xs.length ≤ c →
 Calls Tryd.prog 44 #[.slice A xs.length c] w fun e w' => ∃ v,e = .returned v ∧ Kd.S kD29 29 w' w.heap.size (fun _ => True) v (tos29 xs) ∧ Below w.heap.size w w'
def ToT (t : S24) : Prop:=∀ (A : Option Addr) (c : Nat) (w : World),Kd.C k24 w A t.f3.length t.f3 → t.f3.length ≤ c →
 Calls Tryd.prog 12 #[.agg #[.int .i64 t.f0,.string t.f1,.int .i64 t.f2,.slice A t.f3.length c]] w fun e w' => ∃ v,e = .returned (.agg #[.int .i64 t.f0,.string t.f1,.int .i64 t.f2,v]) ∧ Kd.S kD29 29 w' w.heap.size (fun _ => True) v (tos29 t.f3) ∧ Below w.heap.size w w'
set_option maxHeartbeats 8000000 in
set_option maxRecDepth 100000 in
theorem to_step (xs : List S24) (hlen : xs.length ≤ 1048576) (ih : ∀ x ∈ xs,ToT x) : ToOf xs:=by
 intro A c w hC hc
 have IH:=asd ih
 have HC:=asd hC
 have HCC:=asd hc
 have HL:=asd hlen
 have HB:=asd (Below.refl w.heap.size w)
 clear hC hc ih hlen
 go_enter Tryd.func44,Tryd.ntmps44
 go_wp2_with (first
  | ((with_reducible refine gate_dst (N:=7) rfl ?_);refine Kd.S_make kD29 _ 29 rfl (N:=7) rfl 27 _ _ rfl (xs.length : Int) rfl rfl Tryd.underlying27 (.agg #[(.int .i64 0),(.string ⟨#[]⟩),(.int .i64 0),(.slice none 0 0)]) 56 info29 rfl (by decide) (by decide) z29 (ok:=fun _ => True) (okp:=fun _ => True) (kD29_leaf _ _ _ 0 ⟨#[]⟩ 0) (fun _ hk => hk) trivial (by omega) (by have:=HL.out;rw [Int.toNat_natCast];omega) (Below.refl _ _) (Nat.le_refl _) ?_;intro v1 w6 hS hb6 hg_ hnew;clear hg_ hnew;obtain ⟨A1,c1,rfl⟩:=Kd.S_slice hS;have HS:=asd hS;have HB6:=asd hb6;clear hS hb6))
 rw [Int.toNat_natCast,List.length_replicate] at HS
 go_loopg [4] xs.length (fun m v4 w' => ∃ i : Nat,v4 = .int .i64 i ∧ Aside0 (m + i = xs.length) ∧ Aside0 (Kd.S kD29 29 w' w.heap.size (fun _ => True) (.slice A1 xs.length c1) (tos29 (xs.take i) ++ List.replicate (xs.length - i) z29)) ∧ Aside0 (Below w.heap.size w w'))
 case atStart => exact ⟨0,rfl,⟨by omega⟩,⟨by simpa [tos29] using Kd.S_lower HS.out HB.out.size⟩,⟨below_step HB.out HB6.out⟩⟩
 case round =>
  clear HS HB6 HB
  obtain ⟨i,rfl,hi,HA,HB⟩:=hrel
  by_cases hlt : (i : Int) < (xs.length : Int)
  ·have c3b0 : decide ((i : Int) < (xs.length : Int)) = true:=decide_eq_true hlt
   have hlt' : i < xs.length:=by omega
   have c3b1 : decide (i < xs.length) = true:=decide_eq_true hlt'
   have hl1 : (tos29 (xs.take i)).length = i:=by rw [tos29_length,List.length_take];omega
   have hlen : (tos29 (xs.take i) ++ List.replicate (xs.length - i) z29).length = xs.length:=by rw [List.length_append,hl1,List.length_replicate];omega
   obtain ⟨g,hA,hgl⟩ : ∃ g,A1 = some ⟨g,0,none⟩ ∧ g < wr.heap.size:=by
    obtain ⟨g,cap,e,_,hg,_⟩:=Kd.S_form HA.out (by rw [hlen];omega)
    injection e with e1
    exact ⟨g,e1,hg⟩
   subst hA
   obtain ⟨ad,A3,c3,e3,hx0,hx1,hx2,hx3,hl3,hi3⟩:=at_T24 HC.out (i : Int) (by omega) hlt
   cases e3
   rw [rd24_at xs i hlt'] at hx0 hx1 hx2 hx3 hl3 hi3
   simp only [Int.toNat_natCast] at hx0 hx1 hx2 hx3
   replace hx0:=(HB.out.cell (World.block_lt_of_cell? w _ hx0)).trans hx0
   replace hx1:=(HB.out.cell (World.block_lt_of_cell? w _ hx1)).trans hx1
   replace hx2:=(HB.out.cell (World.block_lt_of_cell? w _ hx2)).trans hx2
   replace hx3:=(HB.out.cell (World.block_lt_of_cell? w _ hx3)).trans hx3
   have HI3:=asd (Kd.C_below hi3 HB.out)
   have HL3:=asd hl3
   have HGL:=asd hgl
   have HLEN:=asd hlen
   have HL1:=asd hl1
   clear hi3 hl3 hgl hlen hl1
   have p1 : (0 : Int) ≤ (i : Int):=by omega
   go_wp2_with (first
    | ((with_reducible refine gate_callee (f:=12) rfl ?_);refine goesL_ (some 20) rfl rfl Tryd.func12 (by kernel_rfl) rfl #[.agg #[.int .i64 xs[i].f0,.string xs[i].f1,.int .i64 xs[i].f2,.slice A3 xs[i].f3.length c3]] rfl (by (try simp only [List.map_toArray,List.map_cons,List.map_nil]);first | done | rfl) ?_;refine (IH.out xs[i] (List.getElem_mem hlt') A3 c3 _ HI3.out HL3.out).mono ?_;rintro e w2 ⟨v4,rfl,ho0,hb⟩;refine ⟨_,rfl,?_⟩;obtain ⟨A4,c4,rfl⟩:=Kd.S_slice ho0;have HO:=asd (Kd.S_mono (ok':=fun k_ => k_ < wr.heap.size) (Kd.S_old HA.out hb) (fun k_ hk_ => hk_.2));have HN:=asd (Kd.S_lower (Kd.S_mono (ok':=fun k_ => wr.heap.size ≤ k_) (Kd.S_bound ho0) (fun k_ hk_ => hk_.2.1)) HB.out.size);have HB':=asd (below_step HB.out hb);have HE:=Kd.S_elem HO.out z29 (i : Int) (by omega) (by omega);obtain ⟨oki_,ce_,hcl_,hM_,hcc_,hfr_,_,_⟩:=HE;obtain ⟨ve_,rfl,_⟩:=kD29_openM hM_;rw [Int.toNat_natCast] at hcc_ hfr_;have hy0:=hcc_ 0 _ rfl;have hy1:=hcc_ 1 _ rfl;have hy2:=hcc_ 2 _ rfl;have hy3:=hcc_ 3 _ rfl;have hf0:=hfr_ 0;have hf1:=hfr_ 1;have hf2:=hfr_ 2;have hf3:=hfr_ 3;simp only [show kD29.sz = 4 from rfl,Nat.add_zero] at hy0 hy1 hy2 hy3 hf0 hf1 hf2 hf3;clear hcc_ hfr_ hM_ hcl_ hb ho0)
    | ((with_reducible refine gate_store (t:=29) (p:=21) rfl ?_);refine store_event (t:=29) (p:=21) (v:=?vo1) (w1:=w2.setCells g (i * 4) [.int .i64 xs[i].f0,.string xs[i].f1,.int .i64 xs[i].f2,.slice A4 (tos29 xs[i].f3).length c4]) ?hg ?ho ?hn ?hr ?_;(case ho => rfl);(case hg => rfl);(case hn => rfl);(case hr => first | (go_simp;done) | (go_simp;rfl));intro w4 hw4))
   have hx : (⟨xs[i].f0,xs[i].f1,xs[i].f2,tos29 xs[i].f3⟩ : S29) = to29 xs[i]:=(to29_eq _).symm
   obtain ⟨hS1,hg1⟩:=S_store i HO.out hlt' (⟨xs[i].f0,xs[i].f1,xs[i].f2,tos29 xs[i].f3⟩ : S29) (.slice A4 (tos29 xs[i].f3).length c4) HN.out HGL.out
   have hq : (tos29 (xs.take i) ++ List.replicate (xs.length - i) z29).set i (⟨xs[i].f0,xs[i].f1,xs[i].f2,tos29 xs[i].f3⟩ : S29) = tos29 (xs.take (i + 1)) ++ List.replicate (xs.length - (i + 1)) z29:=by
    rw [hx,List.set_append_right _ _ (by have:=HL1.out;omega),HL1.out,Nat.sub_self,show xs.length - i = (xs.length - (i + 1)) + 1 by omega,List.replicate_succ,List.set_cons_zero,List.take_succ_eq_append_getElem hlt',tos29_map,tos29_map,List.map_append,List.append_assoc]
    rfl
   rw [hq] at hS1
   have hgb : w.heap.size ≤ g:=Kd.S_base HO.out g (by simp [Value.ownBlock])
   go_roundg (xs.length - (i + 1))
   case measure => have:=hi.out;omega
   case rel => exact ⟨i + 1,by rw [next_i i _ hlt' HL.out],⟨by have:=hi.out;omega⟩,⟨hS1⟩,⟨pw_below_grown HB'.out (some g) HB'.out.size hg1 (fun k_ e_ => by injection e_ with e_;omega)⟩⟩
  ·have c3b0 : decide ((i : Int) < (xs.length : Int)) = false:=decide_eq_false hlt
   have c3b1 : decide (i < xs.length) = false:=decide_eq_false (by omega)
   go_wp2
   go_ret
   have he : xs.length ≤ i:=by omega
   have hS:=HA.out
   rw [List.take_of_length_le he,show xs.length - i = 0 by omega,List.replicate_zero,List.append_nil] at hS
   exact ⟨_,rfl,hS,HB.out⟩
set_option maxHeartbeats 8000000 in
set_option maxRecDepth 100000 in
theorem toT_step (t : S24) (ih : ToOf t.f3) : ToT t:=by
 intro A c w hC hc
 have IH:=asd ih
 have HC:=asd hC
 have HCC:=asd hc
 have HB:=asd (Below.refl w.heap.size w)
 clear hC hc ih
 go_enter Tryd.func12,Tryd.ntmps12
 go_wp2_with (first
  | ((with_reducible refine gate_dst (N:=1) rfl ?_);refine box_event ?hg1 (N:=1) ?hd1 (cs:=#[.int .i64 t.f0,.string t.f1,.int .i64 t.f2,.slice A t.f3.length c]) (t:=24) ?hr1 ?_;(case hd1 => rfl);(case hg1 => rfl);(case hr1 => first | (go_simp;done) | (go_simp;rfl));intro ga hg w1 hbox hb;have HG_ga:=asd hg;have BK_ga:=asd hbox;have q_:=asd (below_step HB.out hb);have HGE_ga:=asd (show w.heap.size ≤ ga by have:=HB.out.size;omega);clear HB;have HB:=q_;clear q_;have HLT_ga:=asd (blk_lt hbox);clear hg hbox hb)
  | ((with_reducible refine gate_dst (N:=2) rfl ?_);refine box_event ?hg2 (N:=2) ?hd2 (cs:=#[.int .i64 0,.string (⟨#[]⟩ : ByteArray),.int .i64 0,.slice none 0 0]) (t:=29) ?hr2 ?_;(case hd2 => rfl);(case hg2 => rfl);(case hr2 => first | (go_simp;done) | (go_simp;rfl));intro gr hg w2 hbox hb;have HG_gr:=asd hg;have q_:=asd (blk_below BK_ga.out hb);clear BK_ga;have BK_ga:=q_;clear q_;have BK_gr:=asd hbox;have q_:=asd (below_step HB.out hb);have HGE_gr:=asd (show w.heap.size ≤ gr by have:=HB.out.size;omega);clear HB;have HB:=q_;clear q_;have HN_ga_gr:=asd (show ga ≠ gr by have:=blk_lt hbox;intro e_;subst e_;have h1_:=HG_gr.out;have h2_:=HLT_ga.out;omega);have HLT_gr:=asd (blk_lt hbox);have q_:=asd (Nat.lt_of_lt_of_le HLT_ga.out hb.size);clear HLT_ga;have HLT_ga:=q_;clear q_;clear hg hbox hb)
  | ((with_reducible refine gate_dst (N:=3) rfl ?_);refine box_event ?hg3 (N:=3) ?hd3 (cs:=#[.int .i64 0,.string (⟨#[]⟩ : ByteArray),.int .i64 0,.slice none 0 0]) (t:=29) ?hr3 ?_;(case hd3 => rfl);(case hg3 => rfl);(case hr3 => first | (go_simp;done) | (go_simp;rfl));intro go hg w3 hbox hb;have HG_go:=asd hg;have q_:=asd (blk_below BK_ga.out hb);clear BK_ga;have BK_ga:=q_;clear q_;have q_:=asd (blk_below BK_gr.out hb);clear BK_gr;have BK_gr:=q_;clear q_;have BK_go:=asd hbox;have q_:=asd (below_step HB.out hb);have HGE_go:=asd (show w.heap.size ≤ go by have:=HB.out.size;omega);clear HB;have HB:=q_;clear q_;have HN_ga_go:=asd (show ga ≠ go by have:=blk_lt hbox;intro e_;subst e_;have h1_:=HG_go.out;have h2_:=HLT_ga.out;omega);have HN_gr_go:=asd (show gr ≠ go by have:=blk_lt hbox;intro e_;subst e_;have h1_:=HG_go.out;have h2_:=HLT_gr.out;omega);have HLT_go:=asd (blk_lt hbox);have q_:=asd (Nat.lt_of_lt_of_le HLT_ga.out hb.size);clear HLT_ga;have HLT_ga:=q_;clear q_;have q_:=asd (Nat.lt_of_lt_of_le HLT_gr.out hb.size);clear HLT_gr;have HLT_gr:=q_;clear q_;have hc_ga_0 : w3.cell? ⟨ga,0,none⟩ = some (.int .i64 t.f0):=(blk_cell BK_ga.out 0).trans rfl;have hf_ga_0:=blk_frozen BK_ga.out 0;have hc_ga_1 : w3.cell? ⟨ga,1,none⟩ = some (.string t.f1):=(blk_cell BK_ga.out 1).trans rfl;have hf_ga_1:=blk_frozen BK_ga.out 1;have hc_ga_2 : w3.cell? ⟨ga,2,none⟩ = some (.int .i64 t.f2):=(blk_cell BK_ga.out 2).trans rfl;have hf_ga_2:=blk_frozen BK_ga.out 2;have hc_ga_3 : w3.cell? ⟨ga,3,none⟩ = some (.slice A t.f3.length c):=(blk_cell BK_ga.out 3).trans rfl;have hf_ga_3:=blk_frozen BK_ga.out 3;have hc_go_0 : w3.cell? ⟨go,0,none⟩ = some (.int .i64 0):=(blk_cell BK_go.out 0).trans rfl;have hf_go_0:=blk_frozen BK_go.out 0;have hc_go_1 : w3.cell? ⟨go,1,none⟩ = some (.string (⟨#[]⟩ : ByteArray)):=(blk_cell BK_go.out 1).trans rfl;have hf_go_1:=blk_frozen BK_go.out 1;have hc_go_2 : w3.cell? ⟨go,2,none⟩ = some (.int .i64 0):=(blk_cell BK_go.out 2).trans rfl;have hf_go_2:=blk_frozen BK_go.out 2;have hc_go_3 : w3.cell? ⟨go,3,none⟩ = some (.slice none 0 0):=(blk_cell BK_go.out 3).trans rfl;have hf_go_3:=blk_frozen BK_go.out 3;have hn1:=HN_ga_go.out;have hn2:=Ne.symm HN_ga_go.out;clear hg hbox hb)
  | ((with_reducible refine gate_callee (f:=44) rfl ?_);refine goesL_ (some 15) rfl rfl Tryd.func44 (by kernel_rfl) rfl #[.slice A t.f3.length c] rfl (by (try simp only [List.map_toArray,List.map_cons,List.map_nil]);first | done | rfl) ?_;have HX:=asd (show Below w.heap.size w (((w3.setCell ⟨go,0,none⟩ (.int .i64 t.f0)).setCell ⟨go,1,none⟩ (.string t.f1)).setCell ⟨go,2,none⟩ (.int .i64 t.f2)) from below_set (below_set (below_set HB.out HGE_go.out) HGE_go.out) HGE_go.out);refine (IH.out A c (((w3.setCell ⟨go,0,none⟩ (.int .i64 t.f0)).setCell ⟨go,1,none⟩ (.string t.f1)).setCell ⟨go,2,none⟩ (.int .i64 t.f2)) (Kd.C_below HC.out HX.out) HCC.out).mono ?_;rintro e w4 ⟨v4,rfl,ho0,hb⟩;refine ⟨_,rfl,?_⟩;obtain ⟨A4,c4,rfl⟩:=Kd.S_slice ho0;have b1_ : (((w3.setCell ⟨go,0,none⟩ (.int .i64 t.f0)).setCell ⟨go,1,none⟩ (.string t.f1)).setCell ⟨go,2,none⟩ (.int .i64 t.f2)).heap[go]? = some (.cells #[.int .i64 t.f0,.string t.f1,.int .i64 t.f2,.slice none 0 0] 29 (0,0)):=(by refine blk_put (cs:=#[.int .i64 t.f0,.string t.f1,.int .i64 0,.slice none 0 0]) ?_ 2 _ rfl;refine blk_put (cs:=#[.int .i64 t.f0,.string (⟨#[]⟩ : ByteArray),.int .i64 0,.slice none 0 0]) ?_ 1 _ rfl;refine blk_put (cs:=#[.int .i64 0,.string (⟨#[]⟩ : ByteArray),.int .i64 0,.slice none 0 0]) ?_ 0 _ rfl;exact BK_go.out);have b2_ : (((w3.setCell ⟨go,0,none⟩ (.int .i64 t.f0)).setCell ⟨go,1,none⟩ (.string t.f1)).setCell ⟨go,2,none⟩ (.int .i64 t.f2)).heap[gr]? = some (.cells #[.int .i64 0,.string (⟨#[]⟩ : ByteArray),.int .i64 0,.slice none 0 0] 29 (0,0)):=blk_far (blk_far (blk_far BK_gr.out HN_gr_go.out _) HN_gr_go.out _) HN_gr_go.out _;have q_:=asd (blk_below b1_ hb);clear BK_go;have BK_go:=q_;clear q_;have q_:=asd (blk_below b2_ hb);clear BK_gr;have BK_gr:=q_;clear q_;have HLO:=asd (show go < (((w3.setCell ⟨go,0,none⟩ (.int .i64 t.f0)).setCell ⟨go,1,none⟩ (.string t.f1)).setCell ⟨go,2,none⟩ (.int .i64 t.f2)).heap.size from blk_lt b1_);have HLR:=asd (show gr < (((w3.setCell ⟨go,0,none⟩ (.int .i64 t.f0)).setCell ⟨go,1,none⟩ (.string t.f1)).setCell ⟨go,2,none⟩ (.int .i64 t.f2)).heap.size from blk_lt b2_);have HS:=asd (Kd.S_mono (ok':=fun k_ => (((w3.setCell ⟨go,0,none⟩ (.int .i64 t.f0)).setCell ⟨go,1,none⟩ (.string t.f1)).setCell ⟨go,2,none⟩ (.int .i64 t.f2)).heap.size ≤ k_) (Kd.S_bound ho0) (fun k_ hk_ => hk_.2.1));have HB4:=asd (below_step HX.out hb);clear b1_ b2_ ho0 hb;have hd_go_0 : w4.cell? ⟨go,0,none⟩ = some (.int .i64 t.f0):=(blk_cell BK_go.out 0).trans rfl;have he_go_0:=blk_frozen BK_go.out 0;have hd_go_1 : w4.cell? ⟨go,1,none⟩ = some (.string t.f1):=(blk_cell BK_go.out 1).trans rfl;have he_go_1:=blk_frozen BK_go.out 1;have hd_go_2 : w4.cell? ⟨go,2,none⟩ = some (.int .i64 t.f2):=(blk_cell BK_go.out 2).trans rfl;have he_go_2:=blk_frozen BK_go.out 2;have hd_go_3 : w4.cell? ⟨go,3,none⟩ = some (.slice none 0 0):=(blk_cell BK_go.out 3).trans rfl;have he_go_3:=blk_frozen BK_go.out 3;have hc_gr_0 : w4.cell? ⟨gr,0,none⟩ = some (.int .i64 0):=(blk_cell BK_gr.out 0).trans rfl;have hf_gr_0:=blk_frozen BK_gr.out 0;have hc_gr_1 : w4.cell? ⟨gr,1,none⟩ = some (.string (⟨#[]⟩ : ByteArray)):=(blk_cell BK_gr.out 1).trans rfl;have hf_gr_1:=blk_frozen BK_gr.out 1;have hc_gr_2 : w4.cell? ⟨gr,2,none⟩ = some (.int .i64 0):=(blk_cell BK_gr.out 2).trans rfl;have hf_gr_2:=blk_frozen BK_gr.out 2;have hc_gr_3 : w4.cell? ⟨gr,3,none⟩ = some (.slice none 0 0):=(blk_cell BK_gr.out 3).trans rfl;have hf_gr_3:=blk_frozen BK_gr.out 3;have hn3:=HN_gr_go.out;have hn4:=Ne.symm HN_gr_go.out))
 refine bodyPost_ret (results_cell_row rfl _ _ gr 29 #[.int .i64 t.f0,.string t.f1,.int .i64 t.f2,.slice A4 (tos29 t.f3).length c4] (0,0) _ rfl (by refine blk_put (cs:=#[.int .i64 t.f0,.string t.f1,.int .i64 t.f2,.slice none 0 0]) ?_ 3 _ rfl;refine blk_put (cs:=#[.int .i64 t.f0,.string t.f1,.int .i64 0,.slice none 0 0]) ?_ 2 _ rfl;refine blk_put (cs:=#[.int .i64 t.f0,.string (⟨#[]⟩ : ByteArray),.int .i64 0,.slice none 0 0]) ?_ 1 _ rfl;refine blk_put (cs:=#[.int .i64 0,.string (⟨#[]⟩ : ByteArray),.int .i64 0,.slice none 0 0]) ?_ 0 _ rfl;exact blk_far BK_gr.out HN_gr_go.out _) Tryd.underlying29 rfl (by kernel_rfl)) rfl ?_
 have hne1 : ∀ k_,(((w3.setCell ⟨go,0,none⟩ (.int .i64 t.f0)).setCell ⟨go,1,none⟩ (.string t.f1)).setCell ⟨go,2,none⟩ (.int .i64 t.f2)).heap.size ≤ k_ → k_ ≠ go:=fun k_ hk_ e_ => by have:=HLO.out;omega
 have hne2 : ∀ k_,(((w3.setCell ⟨go,0,none⟩ (.int .i64 t.f0)).setCell ⟨go,1,none⟩ (.string t.f1)).setCell ⟨go,2,none⟩ (.int .i64 t.f2)).heap.size ≤ k_ → k_ ≠ gr:=fun k_ hk_ e_ => by have:=HLR.out;omega
 refine ⟨_,rfl,?_,below_set (below_set (below_set (below_set (below_set HB4.out HGE_go.out) HGE_gr.out) HGE_gr.out) HGE_gr.out) HGE_gr.out⟩
 exact Kd.S_mono (Kd.S_lower (Kd.S_far (p:=⟨gr,3,none⟩) (Kd.S_far (p:=⟨gr,2,none⟩) (Kd.S_far (p:=⟨gr,1,none⟩) (Kd.S_far (p:=⟨gr,0,none⟩) (Kd.S_far (p:=⟨go,3,none⟩) HS.out hne1 _) hne2 _) hne2 _) hne2 _) hne2 _) HX.out.size) (fun _ _ => trivial)
theorem toT_all (n : Nat) : (∀ t : S24,ht24 t ≤ n → wt24 t ≤ 1048576 → ToT t) ∧ (∀ xs : List S24,hts24 xs ≤ n → wts24 xs + xs.length ≤ 1048576 → ToOf xs):=by
 induction n with
 | zero =>
  refine ⟨fun t h => by rw [ht24_eq] at h;omega,fun xs h hw => to_step xs (by omega) (fun x hx => ?_)⟩
  have:=hts24_mem hx
  have:=ht24_eq x
  omega
 | succ n ih =>
  have h1 : ∀ t : S24,ht24 t ≤ n + 1 → wt24 t ≤ 1048576 → ToT t:=fun t h hw => by
   rw [ht24_eq] at h
   rw [wt24_eq] at hw
   exact toT_step t (ih.2 t.f3 (by omega) (by omega))
  refine ⟨h1,fun xs h hw => to_step xs (by omega) (fun x hx => h1 x ?_ ?_)⟩
  ·have:=hts24_mem hx;omega
  ·have:=wts24_mem hx;omega
end
section
set_option linter.unusedSectionVars false
variable [fk_laws_szTerm] [fk_laws_eqTerm] [fk_spec_l34Term] [fk_strconv_Itoa]
set_option maxHeartbeats 8000000 in
set_option maxRecDepth 100000 in
theorem markTerm_calls (mt : Int → ByteArray) (xs : List S29) (hM : MarkOf mt xs) (a0 : Int) (a1 : ByteArray) (a2 : Int) (A : Option Addr) (c : Nat) (k : Int) (w : World) (base : Nat) (ok : Nat → Prop) (hk : 0 < k) (hk2 : k + 3 * (cns29 xs : Int) ≤ 1000000000) (hbs : base ≤ w.heap.size) (hS : Kd.S kD29 29 w base ok (.slice A xs.length c) xs) :
  Calls Tryd.prog 25 #[.agg #[.int .i64 a0,.string a1,.int .i64 a2,.slice A xs.length c],.int .i64 k] w fun e w' => e = .returned (.int .i64 (k + 3 * (cns29 xs : Int))) ∧ Kd.S kD29 29 w' base ok (.slice A xs.length c) (mks29 mt xs k) ∧ Below base w w' ∧ Kept w w' ok:=by
 have HS:=asd hS
 have HM:=asd hM
 have HK:=asd hk2
 clear hS hM hk2
 go_enter Tryd.func25,Tryd.ntmps25
 go_wp2_with (first
  | ((with_reducible refine gate_dst (N:=2) rfl ?_);refine box_event ?hg (N:=2) ?hd (cs:=#[.int .i64 a0,.string a1,.int .i64 a2,.slice A xs.length c]) (t:=29) ?hr ?_;(case hd => rfl);(case hg => rfl);(case hr => first | (go_simp;done) | (go_simp;rfl));intro gb hg w5 hbox hb;have HB:=asd hb;have hcz : w5.cell? ⟨gb,3,none⟩ = some (.slice A xs.length c):=(blk_cell hbox 3).trans rfl;clear hg hbox hb)
  | ((with_reducible refine gate_callee (f:=64) rfl ?_);refine goesL_ (some 8) rfl rfl Tryd.func64 (by kernel_rfl) rfl #[.slice A xs.length c,.int .i64 k] rfl (by (try simp only [List.map_toArray,List.map_cons,List.map_nil]);first | done | rfl) ?_;refine (HM.out A c k _ base ok hk HK.out (Nat.le_trans hbs HB.out.size) (Kd.S_below HS.out HB.out)).mono ?_;rintro e w6 ⟨rfl,ho,hb,hkp⟩;refine ⟨_,rfl,?_⟩))
 go_ret
 exact ⟨rfl,ho,(HB.out.mono hbs).trans hb,(Kept.of_below HB.out ok).then_ hkp (fun k hk => .inl hk)⟩
end
structure As where
 M : Nat → World → (Nat → Prop) → Prop
 mono : ∀ {b : Nat} {W : World} {ok ok' : Nat → Prop},(∀ k,ok k → ok' k) → M b W ok → M b W ok'
 bound : ∀ {b : Nat} {W : World} {ok : Nat → Prop},M b W ok → M b W (fun k => ok k ∧ k < W.heap.size)
 move : ∀ {b : Nat} {W W' : World} {ok : Nat → Prop},(∀ k,ok k → W'.heap[k]? = W.heap[k]?) → M b W ok → M b W' ok
 lower : ∀ {b b' : Nat} {W : World} {ok : Nat → Prop},b' ≤ b → M b W ok → M b' W ok
namespace As
def box (g t : Nat) (cs : Array Value) : As:=⟨fun _ W ok => ok g ∧ W.heap[g]? = some (.cells cs t (0,0)),fun h x => ⟨h _ x.1,x.2⟩,fun x => ⟨⟨x.1,blk_lt x.2⟩,x.2⟩,fun h x => ⟨x.1,(h _ x.1).trans x.2⟩,fun _ x => x⟩
def row {α : Type} (d : Kd α) (e : Nat) (v : Value) (xs : List α) : As:=⟨fun b W ok => Kd.S d e W b ok v xs,fun h x => Kd.S_mono x h,fun x => Kd.S_mono (Kd.S_bound x) (fun _ hk => ⟨hk.1,hk.2.2.1⟩),fun h x => Kd.S_move x h,fun h x => Kd.S_lower x h⟩
def rrow {α : Type} (d : Kd α) (e : Nat) (v : Value) (xs : List α) : As:=⟨fun b W ok => d.R e W b ok v xs,fun h x => Kd.R_mono x h,fun x => Kd.R_mono (Kd.R_bound x) (fun _ hk => ⟨hk.1,hk.2.2.1⟩),fun h x => Kd.R_step x (fun k hk _ => h k hk),fun h x => Kd.R_lower x h⟩
def vrow {α : Type} (d : Kd α) (e : Nat) (v : Value) (xs : List α) : As:=⟨fun _ W ok => Kd.V d e W 0 ok v xs,fun h x => Kd.V_mono x h,fun x => Kd.V_bound x,fun h x => Kd.V_step x (fun k hk _ => h k hk),fun _ x => x⟩
def star (a b : As) : As:=⟨fun l W ok => ∃ p : Nat → Prop,a.M l W (fun k => ok k ∧ p k) ∧ b.M l W (fun k => ok k ∧ ¬ p k),
 fun h ⟨p,x,y⟩ => ⟨p,a.mono (fun k hk => ⟨h k hk.1,hk.2⟩) x,b.mono (fun k hk => ⟨h k hk.1,hk.2⟩) y⟩,
 fun ⟨p,x,y⟩ => ⟨p,a.mono (fun _ hk => ⟨⟨hk.1.1,hk.2⟩,hk.1.2⟩) (a.bound x),b.mono (fun _ hk => ⟨⟨hk.1.1,hk.2⟩,hk.1.2⟩) (b.bound y)⟩,
 fun h ⟨p,x,y⟩ => ⟨p,a.move (fun k hk => h k hk.1) x,b.move (fun k hk => h k hk.1) y⟩,
 fun h ⟨p,x,y⟩ => ⟨p,a.lower h x,b.lower h y⟩⟩
def none : As:=⟨fun _ _ _ => True,fun _ _ => trivial,fun _ => trivial,fun _ _ => trivial,fun _ _ => trivial⟩
end As
structure Run (w u : World) (ok : Nat → Prop) (os : List As) (W : World) : Prop where
 old : Below w.heap.size w u
 lowok : ∀ k,ok k → w.heap.size ≤ k
 bel : Below w.heap.size w W
 kept : Kept u W ok
 sep : ∃ f : Nat → Nat,∀ (i : Nat) (a : As),os[i]? = some a → a.M w.heap.size W (fun k => f k = i ∧ (ok k ∨ u.heap.size ≤ k))
section
variable {w u W W' : World} {ok : Nat → Prop} {os : List As}
theorem run_law (w : World) : Run w w (fun _ => False) [] w:=⟨Below.refl _ _,fun _ h => h.elim,Below.refl _ _,Kept.refl _ _,fun _ => 0,fun i a h => by simp at h⟩
theorem run_fun {a : As} (old : Below w.heap.size w u) (lo : ∀ k,ok k → w.heap.size ≤ k) (h : a.M w.heap.size u ok) : Run w u ok [a] u :=
 ⟨old,lo,old,Kept.refl _ _,fun _ => 0,fun i b hb => by
  cases i with
  | zero =>
   obtain rfl : a = b:=by simpa using hb
   exact a.mono (fun k hk => ⟨rfl,.inl hk⟩) h
  | succ i => simp at hb⟩
theorem Run.up (h : Run w u ok os W) : u.heap.size ≤ W.heap.size:=h.kept.1
theorem Run.ww (h : Run w u ok os W) : w.heap.size ≤ W.heap.size:=h.bel.size
theorem Run.all {a : As} (h : Run w u ok os W) (i : Nat) (ho : os[i]? = some a) : ∃ oki : Nat → Prop,a.M w.heap.size W oki ∧ (∀ k,oki k → w.heap.size ≤ k ∧ k < W.heap.size) ∧
  ∀ W' b,Below w.heap.size W W' → Kept W W' oki → b.M w.heap.size W' (fun k => oki k ∨ W.heap.size ≤ k) → Run w u ok (os.set i b) W':=by
 obtain ⟨f,hf⟩:=h.sep
 refine ⟨fun k => (f k = i ∧ (ok k ∨ u.heap.size ≤ k)) ∧ k < W.heap.size,a.bound (hf i a ho),fun k hk => ⟨hk.1.2.elim (h.lowok k) (fun h2 => Nat.le_trans h.old.size h2),hk.2⟩,fun W' b hB hk hb => ?_⟩
 have hup:=h.up
 refine ⟨h.old,h.lowok,h.bel.trans hB,h.kept.then_ hk (fun k h2 => h2.1.2),fun k => if W.heap.size ≤ k then i else f k,fun j c hc => ?_⟩
 by_cases hj : i = j
 ·subst hj
  rw [List.getElem?_set_self (by exact (List.getElem?_eq_some_iff.1 ho).1)] at hc
  obtain rfl:=Option.some.inj hc
  refine b.mono (fun k h2 => ?_) hb
  show (if W.heap.size ≤ k then i else f k) = i ∧ _
  rcases h2 with h2|h2
  ·rw [if_neg (by have:=h2.2;omega)];exact h2.1
  ·rw [if_pos h2];exact ⟨rfl,.inr (by omega)⟩
 ·rw [List.getElem?_set_ne hj] at hc
  refine c.mono (fun k h2 => ?_) (c.move (fun k h2 => ?_) (c.bound (hf j c hc)))
  ·show (if W.heap.size ≤ k then i else f k) = j ∧ _
   rw [if_neg (by have:=h2.2;omega)];exact h2.1
  ·exact hk.2 k h2.2 (fun h3 => hj (h3.1.1.symm.trans h2.1.1))
theorem Run.step (h : Run w u ok os W) (hb : Below W.heap.size W W') : Run w u ok os W':=by
 obtain ⟨f,hf⟩:=h.sep
 exact ⟨h.old,h.lowok,below_then h.bel h.ww hb,h.kept.below hb,f,fun i a ha => a.mono (fun k hk => hk.1) (a.move (fun k hk => hb.block k hk.2) (a.bound (hf i a ha)))⟩
theorem Run.drew (h : Run w u ok os W) : Run w u ok os W.drew:=h.step (below_drew (Below.refl _ _))
theorem Run.push (h : Run w u ok os W) (a : As) (hb : Below W.heap.size W W') (ha : a.M W.heap.size W' (fun k => W.heap.size ≤ k)) : Run w u ok (a :: os) W':=by
 obtain ⟨f,hf⟩:=h.sep
 have hup:=h.up
 refine ⟨h.old,h.lowok,below_then h.bel h.ww hb,h.kept.below hb,fun k => if W.heap.size ≤ k then 0 else f k + 1,fun i b hi => ?_⟩
 cases i with
 | zero =>
  obtain rfl : a = b:=by simpa using hi
  exact a.mono (fun k hk => by show (if W.heap.size ≤ k then 0 else f k + 1) = 0 ∧ _;rw [if_pos hk];exact ⟨rfl,.inr (Nat.le_trans hup hk)⟩) (a.lower h.ww ha)
 | succ i =>
  refine b.mono (fun k hk => ?_) (b.move (fun k hk => hb.block k hk.2) (b.bound (hf i b (by simpa using hi))))
  show (if W.heap.size ≤ k then 0 else f k + 1) = i + 1 ∧ _
  rw [if_neg (by have:=hk.2;omega)];exact ⟨by rw [hk.1.1],hk.1.2⟩
theorem Run.has {a : As} (h : Run w u ok os W) (i : Nat) (ho : os[i]? = some a) : a.M w.heap.size W (fun k => w.heap.size ≤ k):=by
 obtain ⟨oki,h1,h2,_⟩:=h.all i ho
 exact a.mono (fun k hk => (h2 k hk).1) h1
theorem Run.join {a b : As} (h : Run w u ok os W) (i j : Nat) (hi : os[i]? = some a) (hj : os[j]? = some b) (hij : i ≠ j) : Run w u ok ((os.set j As.none).set i (As.star a b)) W:=by
 obtain ⟨f,hf⟩:=h.sep
 classical
 refine ⟨h.old,h.lowok,h.bel,h.kept,fun k => if f k = j then i else f k,fun l c hc => ?_⟩
 by_cases hl : i = l
 ·subst hl
  rw [List.getElem?_set_self (by rw [List.length_set];exact (List.getElem?_eq_some_iff.1 hi).1)] at hc
  obtain rfl:=Option.some.inj hc
  refine ⟨fun k => f k = i,a.mono (fun k hk => ?_) (hf i a hi),b.mono (fun k hk => ?_) (hf j b hj)⟩
  ·refine ⟨?_,hk.1⟩
   show (if f k = j then i else f k) = i ∧ _
   rw [if_neg (by rw [hk.1];exact hij)];exact hk
  ·refine ⟨?_,fun h3 => hij (h3.symm.trans hk.1)⟩
   show (if f k = j then i else f k) = i ∧ _
   rw [if_pos hk.1];exact ⟨rfl,hk.2⟩
 ·rw [List.getElem?_set_ne hl] at hc
  by_cases hl2 : j = l
  ·subst hl2
   rw [List.getElem?_set_self (by exact (List.getElem?_eq_some_iff.1 hj).1)] at hc
   obtain rfl:=Option.some.inj hc
   trivial
  ·rw [List.getElem?_set_ne hl2] at hc
   exact c.mono (fun k hk => by show (if f k = j then i else f k) = l ∧ _;rw [if_neg (by rw [hk.1];exact fun h3 => hl2 h3.symm)];exact hk) (hf l c hc)
theorem Run.pick (h : Run w u ok os W) (l : List Nat) (hl : l.Nodup) : Run w u ok (l.map (fun i => os.getD i As.none)) W:=by
 obtain ⟨f,hf⟩:=h.sep
 refine ⟨h.old,h.lowok,h.bel,h.kept,fun k => l.idxOf (f k),fun i a ha => ?_⟩
 rw [List.getElem?_map] at ha
 obtain ⟨j,hj,rfl⟩:=Option.map_eq_some_iff.1 ha
 by_cases h2 : j < os.length
 ·have h3 : os[j]? = some (os.getD j As.none):=by rw [List.getD_eq_getElem?_getD,List.getElem?_eq_getElem h2];rfl
  refine As.mono _ (fun k hk => ⟨?_,hk.2⟩) (hf j _ h3)
  obtain ⟨hi,rfl⟩:=List.getElem?_eq_some_iff.1 hj
  show l.idxOf (f k) = i
  rw [hk.1]
  exact hl.idxOf_getElem i hi
 ·rw [List.getD_eq_getElem?_getD,List.getElem?_eq_none (by omega)]
  trivial
theorem Run.one {a : As} (h : Run w u ok os W) (i : Nat) (ho : os[i]? = some a) : a.M w.heap.size W (fun k => ok k ∨ u.heap.size ≤ k):=by
 obtain ⟨f,hf⟩:=h.sep
 exact a.mono (fun _ hk => hk.2) (hf i a ho)
theorem Run.below (h : Run w u ok os W) : Below w.heap.size u W:=⟨h.bel.os.trans h.old.os.symm,h.bel.tape.trans h.old.tape.symm,h.bel.output.trans h.old.output.symm,h.up,fun k hk => (h.bel.block k hk).trans (h.old.block k hk).symm⟩
theorem Run.cell (h : Run w u ok os W) (i : Nat) {g t : Nat} {cs : Array Value} (ho : os[i]? = some (As.box g t cs)) (j : Nat) {c : Value} (hc : cs[j]? = some c) : W.cell? ⟨g,j,none⟩ = some c:=(blk_cell (h.has i ho).2 j).trans hc
theorem Run.free (h : Run w u ok os W) (i : Nat) {g t : Nat} {cs : Array Value} (ho : os[i]? = some (As.box g t cs)) (j : Nat) : W.frozen? ⟨g,j,none⟩ = false:=blk_frozen (h.has i ho).2 j
theorem Run.box (h : Run w u ok os W) {g t : Nat} {cs : Array Value} (hg : g = W.heap.size) (hb : Below W.heap.size W W') (hB : W'.heap[g]? = some (.cells cs t (0,0))) : Run w u ok (As.box g t cs :: os) W':=h.push _ hb ⟨Nat.le_of_eq hg.symm,hB⟩
theorem Run.set (h : Run w u ok os W) (i : Nat) {g t : Nat} {cs : Array Value} (ho : os[i]? = some (As.box g t cs)) (j : Nat) (v : Value) : Run w u ok (os.set i (As.box g t (cs.setIfInBounds j v))) (W.setCell ⟨g,j,none⟩ v):=by
 obtain ⟨oki,h1,h2,h3⟩:=h.all i ho
 exact h3 _ _ ((Below.refl w.heap.size W).setCell (h2 g h1.1).1 v) (Kept.setCell (Kept.refl _ _) (.inl h1.1) v) ⟨.inl h1.1,blk_set h1.2 j v⟩
theorem Run.seg (h : Run w u ok os W) (i : Nat) {g t : Nat} {cs : Array Value} (ho : os[i]? = some (As.box g t cs)) (j : Nat) (vs : List Value) (hl : j + vs.length ≤ cs.size) : Run w u ok (os.set i (As.box g t (cs.toList.take j ++ vs ++ cs.toList.drop (j + vs.length)).toArray)) (W.setCells g j vs):=by
 obtain ⟨oki,h1,h2,h3⟩:=h.all i ho
 obtain ⟨e1,e2,e3,e4⟩:=setCells_same g vs j W
 obtain ⟨cur,h4,h5,h6⟩:=setCells_row vs j W cs h1.2 hl
 have hf:=fun k (hk : k ≠ g) => setCells_far vs j (w:=W) k hk
 refine h3 _ _ ⟨e1,e2,e3,by rw [e4];exact Nat.le_refl _,fun k hk => hf k (fun e => by have:=(h2 g h1.1).1;omega)⟩ ⟨by rw [e4];exact Nat.le_refl _,fun k _ hn => hf k (fun e => hn (by rw [e];exact h1.1))⟩ ⟨.inl h1.1,?_⟩
 rw [h4,← h6]
theorem Run.store (h : Run w u ok os W) (i : Nat) {g t : Nat} {cs : Array Value} (ho : os[i]? = some (As.box g t cs)) (vs : List Value) (hl : vs.length = cs.size) : Run w u ok (os.set i (As.box g t vs.toArray)) (W.setCells g 0 vs):=by
 have:=h.seg i ho 0 vs (by omega)
 rwa [List.take_zero,List.nil_append,Nat.zero_add,hl,List.drop_eq_nil_of_le (by rw [Array.length_toList];exact Nat.le_refl _),List.append_nil] at this
section
variable {P : Program} {ops : Array Oper} {rest : List Oper} {o : Oper} {a : Act} {Q : Exit → Act → World → Prop} {Kc : Act → World → Prop} {α : Type}
theorem Run.app (h : Run w u ok os W) (i j : Nat) (d : Kd α) {e : Nat} {v : Value} {xs : List α} (hi : os[i]? = some (As.row d e v xs)) {aj : As} (hj : os[j]? = some aj) (hij : i ≠ j) (p : α) (cs : List Value) (hel : ∀ okj : Nat → Prop,aj.M w.heap.size W okj → d.M W w.heap.size okj p cs)
  (hgd : o.guard = none) (s x : Operand) (t : TypeId) (z : Value) (bytes : Nat) (ho : o.op = .call { callee:=.builtin .append,args:=#[s,x],argTypes:=#[t,t] })
  (ht : P.underlying t = some (.slice e)) (hinfo : (P.info? e).map (fun i => (i.zero,i.size,i.bytes)) = some (some z,d.sz,bytes)) (hz : z.cells.size = d.sz) (hs0 : 0 < d.sz) (hb0 : 0 < bytes)
  (hs : a.eval s = v) (hx : a.eval x = .slice (some ⟨W.heap.size,0,none⟩) 1 1) (hl : (xs.length + 1) * bytes ≤ 140737488355328)
  (K : ∀ v1 w1,Run w u ok ((os.set j As.none).set i (As.row d e v1 (xs ++ [p]))) w1 → wpList P ops Q rest (a.put o.dst v1) w1) : wpList P ops Q (o :: rest) a (W.alloc (.cells cs.toArray e)):=by
 have h2:=h.join i j hi hj hij
 have hi2 : ((os.set j As.none).set i (As.star (As.row d e v xs) aj))[i]? = some (As.star (As.row d e v xs) aj):=List.getElem?_set_self (by rw [List.length_set];exact (List.getElem?_eq_some_iff.1 hi).1)
 obtain ⟨oki,⟨q,g1,g2⟩,hlo,hput⟩:=h2.all i hi2
 have hv : ∀ k,v.ownBlock = some k → oki k ∧ q k:=fun k hk => (Kd.S_R g1).1 k hk
 refine Kd.S_append d (w0:=W) w.heap.size hgd s x t e z bytes ho ht hinfo hz hs0 hb0 v xs p cs (fun k => oki k ∨ W.heap.size ≤ k) (fun k => oki k ∧ ¬ q k) hs hx (hel _ g2) (fun k hk => ⟨.inl hk.1,fun e_ => hk.2 (hv k e_.symm).2⟩) (fun k hk => .inr hk) (Kd.S_mono g1 (fun k hk => ⟨.inl hk.1,fun h3 => h3.2 hk.2⟩)) (Below.refl _ _) h.ww hl ?_
 intro v1 w1 hS hB hg _
 have:=hput w1 (As.row d e v1 (xs ++ [p])) hB ⟨hg.size,fun k hk hn => hg.block k hk (fun e_ => hn (hv k e_.symm).1)⟩ hS
 rw [List.set_set] at this
 exact K v1 w1 this
theorem Run.appStep (h : Run w u ok os W) (i j : Nat) (d : Kd α) {e : Nat} {v : Value} {xs : List α} (hi : os[i]? = some (As.row d e v xs)) {aj : As} (hj : os[j]? = some aj) (hij : i ≠ j) (p : α) (cs : List Value) (hel : ∀ okj : Nat → Prop,aj.M w.heap.size W okj → d.M W w.heap.size okj p cs)
  (hw : Region.wanted o (yielded ops a.tmps) = true) (s x : Operand) (t : TypeId) (z : Value) (bytes : Nat) (ho : o.op = .call { callee:=.builtin .append,args:=#[s,x],argTypes:=#[t,t] })
  (ht : P.underlying t = some (.slice e)) (hinfo : (P.info? e).map (fun i => (i.zero,i.size,i.bytes)) = some (some z,d.sz,bytes)) (hz : z.cells.size = d.sz) (hs0 : 0 < d.sz) (hb0 : 0 < bytes)
  (hs : a.eval s = v) (hx : a.eval x = .slice (some ⟨W.heap.size,0,none⟩) 1 1) (hl : (xs.length + 1) * bytes ≤ 140737488355328)
  (K : ∀ v1 w1,Run w u ok ((os.set j As.none).set i (As.row d e v1 (xs ++ [p]))) w1 → Kc (a.put o.dst v1) w1) : if Region.wanted o (yielded ops a.tmps) = true then Oper.wp P o a (W.alloc (.cells cs.toArray e)) Kc Q else Kc (a.put o.dst undef) (W.alloc (.cells cs.toArray e)):=by
 have h2:=h.join i j hi hj hij
 have hi2 : ((os.set j As.none).set i (As.star (As.row d e v xs) aj))[i]? = some (As.star (As.row d e v xs) aj):=List.getElem?_set_self (by rw [List.length_set];exact (List.getElem?_eq_some_iff.1 hi).1)
 obtain ⟨oki,⟨q,g1,g2⟩,hlo,hput⟩:=h2.all i hi2
 have hv : ∀ k,v.ownBlock = some k → oki k ∧ q k:=fun k hk => (Kd.S_R g1).1 k hk
 refine Kd.S_append_step d (w0:=W) w.heap.size hw s x t e z bytes ho ht hinfo hz hs0 hb0 v xs p cs (fun k => oki k ∨ W.heap.size ≤ k) (fun k => oki k ∧ ¬ q k) hs hx (hel _ g2) (fun k hk => ⟨.inl hk.1,fun e_ => hk.2 (hv k e_.symm).2⟩) (fun k hk => .inr hk) (Kd.S_mono g1 (fun k hk => ⟨.inl hk.1,fun h3 => h3.2 hk.2⟩)) (Below.refl _ _) h.ww hl ?_
 intro v1 w1 hS hB hg _
 have:=hput w1 (As.row d e v1 (xs ++ [p])) hB ⟨hg.size,fun k hk hn => hg.block k hk (fun e_ => hn (hv k e_.symm).1)⟩ hS
 rw [List.set_set] at this
 exact K v1 w1 this
end
end
theorem as_row {α : Type} {d : Kd α} {e : Nat} {W W' : World} {v : Value} {xs : List α} (h : Kd.S d e W' W.heap.size (fun _ => True) v xs) : (As.row d e v xs).M W.heap.size W' (fun k => W.heap.size ≤ k):=Kd.S_mono (Kd.S_bound h) (fun _ hk => hk.2.1)
theorem sa {α : Type} (l : List α) (i : Nat) (a : α) : l.toArray.setIfInBounds i a = (l.set i a).toArray:=by simp
theorem s0 {α : Type} {x b : α} {l : List α} : (x :: l).set 0 b = b :: l:=rfl
theorem s1 {α : Type} {x b : α} {l : List α} {n : Nat} : (x :: l).set (n + 1) b = x :: l.set n b:=rfl
def bl (n m : Nat) : Array Bool:=((List.range n).map fun i => m.testBit i).toArray
def C1 (W : World) (g : Nat) (a : Value) : Prop:=W.cell? ⟨g,0,none⟩ = some a
def C2 (W : World) (g : Nat) (a b : Value) : Prop:=W.cell? ⟨g,0,none⟩ = some a ∧ W.cell? ⟨g,1,none⟩ = some b
def C4 (W : World) (g : Nat) (a b c d : Value) : Prop:=W.cell? ⟨g,0,none⟩ = some a ∧ W.cell? ⟨g,1,none⟩ = some b ∧ W.cell? ⟨g,2,none⟩ = some c ∧ W.cell? ⟨g,3,none⟩ = some d
def C5 (W : World) (g : Nat) (a b c d e : Value) : Prop:=W.cell? ⟨g,0,none⟩ = some a ∧ W.cell? ⟨g,1,none⟩ = some b ∧ W.cell? ⟨g,2,none⟩ = some c ∧ W.cell? ⟨g,3,none⟩ = some d ∧ W.cell? ⟨g,4,none⟩ = some e
def F1 (W : World) (g : Nat) : Prop:=W.frozen? ⟨g,0,none⟩ = false
def F2 (W : World) (g : Nat) : Prop:=W.frozen? ⟨g,0,none⟩ = false ∧ W.frozen? ⟨g,1,none⟩ = false
def F4 (W : World) (g : Nat) : Prop:=W.frozen? ⟨g,0,none⟩ = false ∧ W.frozen? ⟨g,1,none⟩ = false ∧ W.frozen? ⟨g,2,none⟩ = false ∧ W.frozen? ⟨g,3,none⟩ = false
section
variable {w u W : World} {ok : Nat → Prop} {os : List As} {g t : Nat}
theorem Run.c1 {a : Value} (h : Run w u ok os W) (i : Nat) (ho : os[i]? = some (As.box g t #[a])) : C1 W g a:=h.cell i ho 0 rfl
theorem Run.c2 {a b : Value} (h : Run w u ok os W) (i : Nat) (ho : os[i]? = some (As.box g t #[a,b])) : C2 W g a b:=⟨h.cell i ho 0 rfl,h.cell i ho 1 rfl⟩
theorem Run.c4 {a b c d : Value} (h : Run w u ok os W) (i : Nat) (ho : os[i]? = some (As.box g t #[a,b,c,d])) : C4 W g a b c d:=⟨h.cell i ho 0 rfl,h.cell i ho 1 rfl,h.cell i ho 2 rfl,h.cell i ho 3 rfl⟩
theorem Run.c5 {a b c d e : Value} (h : Run w u ok os W) (i : Nat) (ho : os[i]? = some (As.box g t #[a,b,c,d,e])) : C5 W g a b c d e:=⟨h.cell i ho 0 rfl,h.cell i ho 1 rfl,h.cell i ho 2 rfl,h.cell i ho 3 rfl,h.cell i ho 4 rfl⟩
theorem Run.f1 {cs : Array Value} (h : Run w u ok os W) (i : Nat) (ho : os[i]? = some (As.box g t cs)) : F1 W g:=h.free i ho 0
theorem Run.f2 {cs : Array Value} (h : Run w u ok os W) (i : Nat) (ho : os[i]? = some (As.box g t cs)) : F2 W g:=⟨h.free i ho 0,h.free i ho 1⟩
theorem Run.f4 {cs : Array Value} (h : Run w u ok os W) (i : Nat) (ho : os[i]? = some (As.box g t cs)) : F4 W g:=⟨h.free i ho 0,h.free i ho 1,h.free i ho 2,h.free i ho 3⟩
end
section
variable {w u W : World} {ok : Nat → Prop} {os : List As} {P : Program} {ops : Array Oper} {rest : List Oper} {o : Oper} {a : Act} {Q : Exit → Act → World → Prop}
theorem nb (HR : Aside0 (Run w u ok os W)) (N : Tmp) {cs : Array Value} {t : TypeId} (hgd : o.guard = none) (_hd : o.dst = some N)
  (hrun : (execOp a.eval o).run P W = .ok (.value (.pointer (some ⟨W.heap.size,0,none⟩))) (W.alloc (.cells cs t (0,0))))
  (h : ∀ g w1,Aside0 (Run w u ok (As.box g t cs :: os) w1) → wpList P ops Q rest (a.put o.dst (.pointer (some ⟨g,0,none⟩))) w1) : wpList P ops Q (o :: rest) a W :=
 box_event hgd _hd hrun fun g hg w1 hbox hb => h g w1 ⟨HR.out.box hg hb hbox⟩
theorem lt (HR : Aside0 (Run w u ok os W)) (N n : Nat) {cs : Array Value} {t : TypeId} (hgd : o.guard = none) (_hd : o.dst = some N)
  (hrun : (execOp a.eval o).run P W = .ok (.value (.slice (some ⟨W.heap.size,0,none⟩) n n)) (W.alloc (.cells cs t (0,0))))
  (h : ∀ g w1,Aside0 (Run w u ok (As.box g t cs :: os) w1) → wpList P ops Q rest (a.put o.dst (.slice (some ⟨g,0,none⟩) n n)) w1) : wpList P ops Q (o :: rest) a W :=
 Kd.event_run hgd hrun (h _ _ ⟨HR.out.box rfl (below_alloc (Below.refl _ _) _) (blk_new W _)⟩)
theorem stA (HR : Aside0 (Run w u ok os W)) (i : Nat) {g ty : Nat} {cs : Array Value} (hi : os[i]? = some (As.box g ty cs)) (vs : List Value) (hl : vs.length = cs.size) {t : TypeId} {p : Tmp} {v : Operand} (hgd : o.guard = none) (ho : o.op = .store t (.tmp p) v) (hN : o.dst = none)
  (hrun : (execOp a.eval o).run P W = .ok .skip (W.setCells g 0 vs)) (h : ∀ w',Aside0 (Run w u ok (os.set i (As.box g ty vs.toArray)) w') → wpList P ops Q rest a w') : wpList P ops Q (o :: rest) a W :=
 store_event hgd ho hN hrun fun w' hw => h w' ⟨hw ▸ HR.out.store i hi vs hl⟩
theorem st1 (HR : Aside0 (Run w u ok os W)) (i : Nat) {g ty : Nat} {cs : Array Value} (hi : os[i]? = some (As.box g ty cs)) (j : Nat) (x : Value) {t : TypeId} {p : Tmp} {v : Operand} (hgd : o.guard = none) (ho : o.op = .store t (.tmp p) v) (hN : o.dst = none)
  (hrun : (execOp a.eval o).run P W = .ok .skip (W.setCell ⟨g,j,none⟩ x)) {cs' : Array Value} (hcs : cs.setIfInBounds j x = cs') (h : ∀ w',Aside0 (Run w u ok (os.set i (As.box g ty cs')) w') → wpList P ops Q rest a w') : wpList P ops Q (o :: rest) a W :=
 store_event hgd ho hN hrun fun w' hw => h w' ⟨hcs ▸ hw ▸ HR.out.set i hi j x⟩
end
section
variable {P : Program} {md : Region.Mode} {ops : Array Oper} {Q : Exit → Act → World → Prop} {S : World → Prop} {ds : List Nat} {T : Bool × List (List Nat × List Nat)} {B : List Nat} {fuel : Nat} {l : Array Bool} {a : Act} {w : World} {oi : Oper}
theorem pu (i : Nat) (N : Tmp) (l' : Array Bool) (HT : Aside0 (rtab md ops = T)) (hc : anyT T l.toList l'.toList i = true) (hi : ops[i]? = some oi) (hN : oi.dst = some N) {v : Value} (hw : Region.wanted oi (yielded ops a.tmps) = true) (hQ : ∀ c a w,Q (.panic c) (a.put oi.dst v) w → Q (.panic c) a w)
  (hrun : ∀ w,(execOp a.eval oi).run P w = .ok (.value v) w) {a' : Act} (ha : a.put (some N) v = a') (h : wpAnyLast P md ops Q S ds fuel l' a' w) : wpAnyLast P md ops Q S ds (fuel + 1) l a w :=
 pure_ l' hi hN (any_of HT.out hc) hQ (.inl ⟨hw,hrun⟩) ha h
theorem tk (i : Nat) (N : Tmp) (l' : Array Bool) (HT : Aside0 (rtab md ops = T)) (HB : Aside0 (waitsOk T.2 B = true)) (hc : takeW T B ds l.toList l'.toList i = true) (hi : ops[i]? = some oi) (hN : oi.dst = some N) {v : Value} (hw : Region.wanted oi (yielded ops a.tmps) = true) (hQ : ∀ c a w,Q (.panic c) (a.put oi.dst v) w → Q (.panic c) a w) (hS : S w)
  (hrun : ∀ w,S w → (execOp a.eval oi).run P w = .ok (.value v) w) {a' : Act} (ha : a.put (some N) v = a') (h : wpAnyLast P md ops Q S ds fuel l' a' w) : wpAnyLast P md ops Q S ds (fuel + 1) l a w :=
 take_ l' hi hN (take_ofW HT.out HB.out hc) hQ (.inl ⟨hw,hrun⟩) hS ha h
def Stp (P : Program) (md : Region.Mode) (ops : Array Oper) (Q : Exit → Act → World → Prop) (S : World → Prop) (ds : List Nat) (fuel : Nat) (l : Array Bool) (a : Act) (w : World) (oi : Oper) (Ni : Option Tmp) : Prop :=
 ∀ K : Act → World → Prop,Shut (∀ a' w',S w' → (S w' → wpAnyLast P md ops Q S ds fuel l a' w') → K a' w') → if Region.wanted oi (yielded ops a.tmps) = true then Oper.wp P oi a w K Q else K (a.put Ni undef) w
theorem on (i : Nat) (N : Option Tmp) (l' : Array Bool) (HT : Aside0 (rtab md ops = T)) (hc : (readyT T.2 l.toList == [i] && l.toList.set i true == l'.toList) = true) (hi : ops[i]? = some oi) (hN : oi.dst = N) (hd : i ∉ ds) (h : Stp P md ops Q S ds fuel l' a w oi N) : wpAnyLast P md ops Q S ds (fuel + 1) l a w :=
 one_ l' hi hN (one_of HT.out hc) hd h
theorem tw (i j : Nat) (Ni Nj : Option Tmp) (li lj : Array Bool) (HT : Aside0 (rtab md ops = T)) (hc : (readyT T.2 l.toList == [i,j] && l.toList.set i true == li.toList && l.toList.set j true == lj.toList) = true) {oj : Oper} (hi : ops[i]? = some oi) (hj : ops[j]? = some oj) (hNi : oi.dst = Ni) (hNj : oj.dst = Nj) (hdi : i ∉ ds) (hdj : j ∉ ds)
  (h1 : Stp P md ops Q S ds fuel li a w oi Ni) (h2 : Stp P md ops Q S ds fuel lj a w oj Nj) : wpAnyLast P md ops Q S ds (fuel + 1) l a w :=
 two_ li lj hi hj hNi hNj (two_of HT.out hc) hdi hdj h1 h2
theorem clS {N : Option Tmp} {f : FuncId} {fn : Func} {asx : Array Operand} {ts : Array TypeId} (hf : P.funcs[f]? = some fn) (hname : (fn.name == "runtime.NumGoroutine") = false) (hb : fn.body.isSome = true) (args : Array Value)
  (hw : Region.wanted oi (yielded ops a.tmps) = true) (hN : oi.dst = N) (hop : oi.op = .call { callee:=.value (.func f),args:=asx,argTypes:=ts }) (hargs : asx.map a.eval = args)
  (h : Calls P f args w fun e w' => ∃ v,e = .returned v ∧ S w' ∧ (S w' → wpAnyLast P md ops Q S ds fuel l (a.put N v) w')) : Stp P md ops Q S ds fuel l a w oi N :=
 fun _ hK => goes_ hf hname hb args hw hN hop hargs (h.mono fun _ _ ⟨v,e1,hs,h2⟩ => ⟨v,e1,hK.out _ _ hs h2⟩)
theorem nbS {w0 u : World} {ok : Nat → Prop} {os : List As} (HR : Aside0 (Run w0 u ok os w)) (N : Tmp) {cs : Array Value} {t : TypeId} (hw : Region.wanted oi (yielded ops a.tmps) = true) (hd : oi.dst = some N)
  (hrun : (execOp a.eval oi).run P w = .ok (.value (.pointer (some ⟨w.heap.size,0,none⟩))) (w.alloc (.cells cs t (0,0))))
  (h : ∀ g w1,Aside0 (Run w0 u ok (As.box g t cs :: os) w1) → S w1 ∧ (S w1 → wpAnyLast P md ops Q S ds fuel l (a.put (some N) (.pointer (some ⟨g,0,none⟩))) w1)) : Stp P md ops Q S ds fuel l a w oi (some N) :=
 fun K hK => by
  have h3:=box_step (Kc:=K) (Q:=Q) hw hd hrun fun g hg w1 hbox hb => by
   obtain ⟨h1,h2⟩:=h g w1 ⟨HR.out.box hg hb hbox⟩
   rw [hd]
   exact hK.out _ _ h1 h2
  rwa [hd] at h3
theorem ltS {w0 u : World} {ok : Nat → Prop} {os : List As} (HR : Aside0 (Run w0 u ok os w)) (N : Tmp) (n : Nat) {cs : Array Value} {t : TypeId} (hw : Region.wanted oi (yielded ops a.tmps) = true) (hd : oi.dst = some N)
  (hrun : (execOp a.eval oi).run P w = .ok (.value (.slice (some ⟨w.heap.size,0,none⟩) n n)) (w.alloc (.cells cs t (0,0))))
  (h : ∀ g w1,Aside0 (Run w0 u ok (As.box g t cs :: os) w1) → S w1 ∧ (S w1 → wpAnyLast P md ops Q S ds fuel l (a.put (some N) (.slice (some ⟨g,0,none⟩) n n)) w1)) : Stp P md ops Q S ds fuel l a w oi (some N) :=
 fun K hK => by
  obtain ⟨h1,h2⟩:=h _ _ ⟨HR.out.box rfl (below_alloc (Below.refl _ _) _) (blk_new w _)⟩
  have h3:=event_step (Kc:=K) (Q:=Q) hw hrun (by rw [hd];exact hK.out _ _ h1 h2)
  rwa [hd] at h3
theorem nm {a' : Act} (ha : a = a') (h : wpAnyLast P md ops Q S ds fuel l a' w) : wpAnyLast P md ops Q S ds fuel l a w:=norm_ ha h
theorem lsA {w0 u : World} {ok : Nat → Prop} {os : List As} (HR : Aside0 (Run w0 u ok os w)) (k i : Nat) (l' : Array Bool) (HT : Aside0 (rtab md ops = T)) (hc : (readyT T.2 l.toList == [i] && l.toList.set i true == l'.toList) = true) (hi : ops[i]? = some oi) (hN : oi.dst = none) (hd : i ∈ ds)
  {g ty : Nat} {cs : Array Value} (hk : os[k]? = some (As.box g ty cs)) (vs : List Value) (hl : vs.length = cs.size) (hw : Region.wanted oi (yielded ops a.tmps) = true) (hrun : (execOp a.eval oi).run P w = .ok .skip (w.setCells g 0 vs))
  (h : ∀ w',Aside0 (Run w0 u ok (os.set k (As.box g ty vs.toArray)) w') → wpAnyLast P md ops Q S ds fuel l' (a.put none undef) w') : wpAnyLast P md ops Q S ds (fuel + 1) l a w :=
 last_ l' hi hN (one_of HT.out hc) hd fun _ hK => skip_ hw hN hrun (hK.out _ _ (h _ ⟨HR.out.store k hk vs hl⟩))
theorem ls1 {w0 u : World} {ok : Nat → Prop} {os : List As} (HR : Aside0 (Run w0 u ok os w)) (k i : Nat) (l' : Array Bool) (HT : Aside0 (rtab md ops = T)) (hc : (readyT T.2 l.toList == [i] && l.toList.set i true == l'.toList) = true) (hi : ops[i]? = some oi) (hN : oi.dst = none) (hd : i ∈ ds)
  {g ty : Nat} {cs : Array Value} (hk : os[k]? = some (As.box g ty cs)) (j : Nat) (x : Value) (hw : Region.wanted oi (yielded ops a.tmps) = true) (hrun : (execOp a.eval oi).run P w = .ok .skip (w.setCell ⟨g,j,none⟩ x)) {cs' : Array Value} (hcs : cs.setIfInBounds j x = cs')
  (h : ∀ w',Aside0 (Run w0 u ok (os.set k (As.box g ty cs')) w') → wpAnyLast P md ops Q S ds fuel l' (a.put none undef) w') : wpAnyLast P md ops Q S ds (fuel + 1) l a w :=
 last_ l' hi hN (one_of HT.out hc) hd fun _ hK => skip_ hw hN hrun (hK.out _ _ (h _ ⟨hcs ▸ HR.out.set k hk j x⟩))
end
end Go.Proofs.YtojedbogbodkiaaDoor.KGr
