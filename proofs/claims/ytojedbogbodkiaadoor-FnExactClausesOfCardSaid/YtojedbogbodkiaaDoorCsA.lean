/- PredOf of the program and of the reference tell the same text for every term. No condition. -/
import Derived.Test.YtojedbogbodkiaaDoorKCsx6
import Derived.Test.YtojedbogbodkiaaDoorKCsx5
import Derived.Test.YtojedbogbodkiaaDoorKCsx4
import Derived.Test.YtojedbogbodkiaaDoorKCsx3
import Derived.Test.YtojedbogbodkiaaDoorKCsx2
import Derived.Test.YtojedbogbodkiaaDoorKCsx1
import Derived.Test.YtojedbogbodkiaaDoorShelf
import Derived.Deep.Slices
import Derived.Lib.ItoaNum
import Derived.Lib.ItoaLen
import Derived.Lib.AppendIntMem
import Derived.OpenShut
import Derived.Test.YtojedbogbodkiaaDoorKS
set_option linter.unusedVariables false
set_option linter.unusedSimpArgs false
namespace Go.Proofs.YtojedbogbodkiaaDoor.KCs
open Go.RowKit Go.Proofs.YtojedbogbodkiaaDoorW.PrintWords Go.Proofs.YtojedbogbodkiaaDoorW.PrintLast Go.Proofs.YtojedbogbodkiaaDoorW.PrintMore
/-! #### PredOf -/
/- Decimal of the program and of the reference tell the same figures. No condition. -/
/-! #### strconv.Itoa by the shelf's contract -/
@[reducible] def i_it : fk_strconv_Itoa:=⟨fun _ n => if -9223372036854775808 ≤ n ∧ n ≤ 9223372036854775807 then some ⟨(Lib.itoa n).toArray⟩ else none,fun _ _ => LeO.refl _,fun k n r w hT h => by
 by_cases hn : -9223372036854775808 ≤ n ∧ n ≤ 9223372036854775807
 ·rw [if_pos hn] at h
  cases h
  refine (Tryd.strconv_Itoa n hn.1 hn.2 w hT.here).mono ?_
  rintro e w' ⟨rfl,k,os,rfl⟩
  refine ⟨rfl,?_⟩
  exact Lib.below_grow w.heap.size w (Nat.le_refl _) k os
 ·rw [if_neg hn] at h
  cases h⟩
/-! #### the pairs of functions that call each other: level by level -/
@[reducible] def d_sz : fk_laws_szTerm:=⟨fun _ _ _ _ _ _ => none,fun _ _ _ _ _ _ => LeO.none _,by intros;contradiction⟩
@[reducible] def d_eq : fk_laws_eqTerm:=⟨fun _ _ _ _ _ _ _ _ _ => none,fun _ _ _ _ _ _ _ _ _ => LeO.none _,by intros;contradiction⟩
@[reducible] def d_34 : fk_spec_l34Term:=⟨fun _ _ _ _ _ => none,fun _ _ _ _ _ => LeO.none _,by intros;contradiction⟩
@[reducible] def i_sz : Nat → fk_laws_szTerm
 | 0 => d_sz
 | n + 1 => letI := i_sz n; letI := d_eq; letI := d_34; letI := i_it; ⟨laws_szTerm.f, laws_szTerm.mono, laws_szTerm.calls⟩
@[reducible] def i_eq : Nat → fk_laws_eqTerm
 | 0 => d_eq
 | n + 1 => letI := i_eq n; letI := d_sz; letI := d_34; letI := i_it; ⟨laws_eqTerm.f, laws_eqTerm.mono, laws_eqTerm.calls⟩
@[reducible] def i_34 : Nat → fk_spec_l34Term
 | 0 => d_34
 | n + 1 => letI := i_34 n; letI := d_sz; letI := d_eq; letI := i_it; ⟨spec_l34Term.f, spec_l34Term.mono, spec_l34Term.calls⟩
/-! #### trees: height, weight, the copy -/
mutual
def ht24 : S24 → Nat
 | ⟨_, _, _, ks⟩ => hts24 ks + 1
def hts24 : List S24 → Nat
 | [] => 0
 | t :: ts => max (ht24 t) (hts24 ts)
end
mutual
def wt24 : S24 → Nat
 | ⟨_, n, _, ks⟩ => n.size + (ks.length + wts24 ks)
def wts24 : List S24 → Nat
 | [] => 0
 | t :: ts => wt24 t + wts24 ts
end
mutual
def ok24 : S24 → Prop
 | ⟨_, n, _, ks⟩ => n.size ≤ 9223372036854775807 ∧ ks.length ≤ 9223372036854775807 ∧ oks24 ks
def oks24 : List S24 → Prop
 | [] => True
 | t :: ts => ok24 t ∧ oks24 ts
end
mutual
def to29 : S24 → S29
 | ⟨a, n, b, ks⟩ => ⟨a, n, b, tos29 ks⟩
def tos29 : List S24 → List S29
 | [] => []
 | t :: ts => to29 t :: tos29 ts
end
mutual
def ht29 : S29 → Nat
 | ⟨_, _, _, ks⟩ => hts29 ks + 1
def hts29 : List S29 → Nat
 | [] => 0
 | t :: ts => max (ht29 t) (hts29 ts)
end
mutual
def cn29 : S29 → Nat
 | ⟨_, _, _, ks⟩ => cns29 ks + 1
def cns29 : List S29 → Nat
 | [] => 0
 | t :: ts => cn29 t + cns29 ts
end
theorem ht24_eq (t : S24) : ht24 t = hts24 t.f3 + 1:=by cases t;rw [ht24]
theorem wt24_eq (t : S24) : wt24 t = t.f1.size + (t.f3.length + wts24 t.f3):=by cases t;rw [wt24]
theorem ok24_eq (t : S24) : ok24 t ↔ t.f1.size ≤ 9223372036854775807 ∧ t.f3.length ≤ 9223372036854775807 ∧ oks24 t.f3:=by cases t;rw [ok24]
theorem to29_eq (t : S24) : to29 t = ⟨t.f0,t.f1,t.f2,tos29 t.f3⟩:=by cases t;rw [to29]
theorem ht29_eq (t : S29) : ht29 t = hts29 t.f3 + 1:=by cases t;rw [ht29]
theorem cn29_eq (t : S29) : cn29 t = cns29 t.f3 + 1:=by cases t;rw [cn29]
theorem hts24_mem {ts : List S24} {t : S24} (h : t ∈ ts) : ht24 t ≤ hts24 ts:=by
 induction ts with
 | nil => simp at h
 | cons a l ih =>
  rw [hts24]
  rcases List.mem_cons.1 h with rfl|h
  ·omega
  ·have:=ih h;omega
theorem hts29_mem {ts : List S29} {t : S29} (h : t ∈ ts) : ht29 t ≤ hts29 ts:=by
 induction ts with
 | nil => simp at h
 | cons a l ih =>
  rw [hts29]
  rcases List.mem_cons.1 h with rfl|h
  ·omega
  ·have:=ih h;omega
theorem wts24_mem {ts : List S24} {t : S24} (h : t ∈ ts) : wt24 t ≤ wts24 ts:=by
 induction ts with
 | nil => simp at h
 | cons a l ih =>
  rw [wts24]
  rcases List.mem_cons.1 h with rfl|h
  ·omega
  ·have:=ih h;omega
theorem oks24_mem {ts : List S24} {t : S24} (h : t ∈ ts) (ho : oks24 ts) : ok24 t:=by
 induction ts with
 | nil => simp at h
 | cons a l ih =>
  rw [oks24] at ho
  rcases List.mem_cons.1 h with rfl|h
  ·exact ho.1
  ·exact ih h ho.2
theorem tos29_map (ts : List S24) : tos29 ts = ts.map to29:=by
 induction ts with
 | nil => rw [tos29]; rfl
 | cons a l ih => rw [tos29, ih]; rfl
theorem tos29_length (ts : List S24) : (tos29 ts).length = ts.length:=by rw [tos29_map,List.length_map]
theorem hts_to (n : Nat) : (∀ t : S24,ht24 t ≤ n → ht29 (to29 t) = ht24 t) ∧ (∀ ts : List S24,hts24 ts ≤ n → hts29 (tos29 ts) = hts24 ts):=by
 induction n with
 | zero =>
  have h1 : ∀ t : S24,ht24 t ≤ 0 → ht29 (to29 t) = ht24 t:=fun t h => by rw [ht24_eq] at h;omega
  refine ⟨h1,fun ts h => ?_⟩
  cases ts with
  | nil => rw [tos29, hts29, hts24]
  | cons a l => rw [hts24] at h; have := ht24_eq a; omega
 | succ n ih =>
  have h1 : ∀ t : S24,ht24 t ≤ n + 1 → ht29 (to29 t) = ht24 t:=fun t h => by
   rw [ht24_eq] at h ⊢
   rw [to29_eq,ht29_eq]
   rw [ih.2 _ (by omega)]
  refine ⟨h1,fun ts => ?_⟩
  induction ts with
  | nil => intro _; rw [tos29, hts29, hts24]
  | cons a l ihl =>
   intro h
   rw [hts24] at h
   rw [tos29,hts29,hts24,h1 a (by omega),ihl (by omega)]
theorem ht_to (t : S24) : ht29 (to29 t) = ht24 t:=(hts_to (ht24 t)).1 t (Nat.le_refl _)
theorem cns_wt (n : Nat) : (∀ t : S24,ht24 t ≤ n → cn29 (to29 t) ≤ wt24 t + 1) ∧ (∀ ts : List S24,hts24 ts ≤ n → cns29 (tos29 ts) ≤ wts24 ts + ts.length):=by
 induction n with
 | zero =>
  refine ⟨fun t h => by rw [ht24_eq] at h;omega,fun ts h => ?_⟩
  cases ts with
  | nil => rw [tos29, cns29]; omega
  | cons a l => rw [hts24] at h; have := ht24_eq a; omega
 | succ n ih =>
  have h1 : ∀ t : S24,ht24 t ≤ n + 1 → cn29 (to29 t) ≤ wt24 t + 1:=fun t h => by
   rw [ht24_eq] at h
   rw [to29_eq,cn29_eq,wt24_eq]
   have:=ih.2 t.f3 (by omega)
   show cns29 (tos29 t.f3) + 1 ≤ _
   omega
  refine ⟨h1,fun ts => ?_⟩
  induction ts with
  | nil => intro _; rw [tos29, cns29]; omega
  | cons a l ihl =>
   intro h
   rw [hts24] at h
   rw [tos29,cns29,wts24]
   have h2:=h1 a (by omega)
   have h3:=ihl (by omega)
   simp only [List.length_cons]
   omega
theorem cn_wt (t : S24) : cn29 (to29 t) ≤ wt24 t + 1:=(cns_wt (ht24 t)).1 t (Nat.le_refl _)
theorem t_wrap {i : Int} (h0 : -4611686018427387904 ≤ i) (h1 : i ≤ 4611686018427387904) : wrap64 i = i:=by
 unfold wrap64;omega
theorem rd24_at (xs : List S24) (i : Nat) (h : i < xs.length) : rd_T24 xs (i : Int) = xs[i]:=by
 unfold rd_T24;simp [List.getD,h]
theorem rd29_at (xs : List S29) (i : Nat) (h : i < xs.length) : rd_T29 xs (i : Int) = xs[i]:=by
 unfold rd_T29;simp [List.getD,h]
theorem eta29 (t : S29) : (⟨t.f0,t.f1,t.f2,t.f3⟩ : S29) = t:=by cases t;rfl
theorem next_i (i n : Nat) (h : i < n) (hn : n ≤ 1048576) : wrap64 ((i : Int) + 1) = ((i + 1 : Nat) : Int):=by
 rw [t_wrap (by omega) (by omega)];omega
theorem cns29_mem {ts : List S29} {t : S29} (h : t ∈ ts) : cn29 t ≤ cns29 ts:=by
 induction ts with
 | nil => simp at h
 | cons a l ih =>
  rw [cns29]
  rcases List.mem_cons.1 h with rfl|h
  ·omega
  ·have:=ih h;omega
theorem cns29_len (ts : List S29) : ts.length ≤ cns29 ts:=by
 induction ts with
 | nil => simp
 | cons a l ih => rw [cns29]; have := cn29_eq a; simp only [List.length_cons]; omega
/-! #### a term that came in, read as a tree -/
open Go.ChangeShapes Go.WideShapes
section
variable {H : Type} {enc : TypeId × Value → H} {w : World} {base : Nat} {spare : Nat → Bool} {held : Bool}
theorem list_of {α : Type} {Q : Nat → α → Prop} : ∀ (n : Nat),(∀ i,i < n → ∃ t,Q i t) → ∃ l : List α,l.length = n ∧ ∀ i t,l[i]? = some t → Q i t
 | 0, _ => ⟨[], rfl, fun i t h => by simp at h⟩
 | n + 1, h => by
  obtain ⟨l,hl,hq⟩:=list_of n (fun i hi => h i (by omega))
  obtain ⟨t,ht⟩:=h n (by omega)
  refine ⟨l ++ [t],by simp [hl],fun i t' hi => ?_⟩
  rcases Nat.lt_or_ge i n with h1|h1
  ·rw [List.getElem?_append_left (by omega)] at hi;exact hq i t' hi
  ·rw [List.getElem?_append_right (by omega),hl] at hi
   have : i = n:=by
    rcases Nat.eq_or_lt_of_le h1 with h2|h2
    ·exact h2.symm
    ·rw [List.getElem?_eq_none (by simp;omega)] at hi;simp at hi
   subst this
   simp at hi;rw [← hi];exact ht
theorem oks24_of {ts : List S24} (h : ∀ t ∈ ts,ok24 t) : oks24 ts:=by
 induction ts with
 | nil => rw [oks24]; trivial
 | cons a l ih => rw [oks24]; exact ⟨h a (by simp), ih fun t ht => h t (by simp [ht])⟩
set_option maxRecDepth 100000 in
theorem open_T (fuel : Nat) : ∀ (cs : List Value) (x : DataW H × List MemPlace),DataW.trod enc Tryd.prog w base spare held fuel 24 cs = some x → ∃ t : S24,k24.K w t cs ∧ ok24 t:=by
 induction fuel using Nat.strongRecOn with
 | _ fuel IH =>
  intro cs x h
  obtain ⟨xs,n,rfl,rfl,hlen,hxl,hf⟩:=DataW.trod_struct Tryd.underlying24 h
  have hC : Tryd.prog.cellsOf 24 = 4:=by kernel_rfl
  rw [hC] at hlen
  match cs,hlen,xs,hxl with
  | [c0, c1, c2, c3], _, [y0, y1, y2, y3], _ =>
   have C3 : Tryd.prog.cellsOf 3 = 1:=by kernel_rfl
   have C9 : Tryd.prog.cellsOf 9 = 1:=by kernel_rfl
   have C22 : Tryd.prog.cellsOf 22 = 1:=by kernel_rfl
   have g0 : DataW.trod enc Tryd.prog w base spare held n 3 [c0] = some y0:=by
    have g : DataW.trod enc Tryd.prog w base spare held n 3 (([c0,c1,c2,c3].drop 0).take (Tryd.prog.cellsOf 3)) = some y0:=hf 0 _ rfl
    rw [C3] at g
    exact g
   have g1 : DataW.trod enc Tryd.prog w base spare held n 9 [c1] = some y1:=by
    have g : DataW.trod enc Tryd.prog w base spare held n 9 (([c0,c1,c2,c3].drop 1).take (Tryd.prog.cellsOf 9)) = some y1:=hf 1 _ rfl
    rw [C9] at g
    exact g
   have g2 : DataW.trod enc Tryd.prog w base spare held n 3 [c2] = some y2:=by
    have g : DataW.trod enc Tryd.prog w base spare held n 3 (([c0,c1,c2,c3].drop 2).take (Tryd.prog.cellsOf 3)) = some y2:=hf 2 _ rfl
    rw [C3] at g
    exact g
   have g3 : DataW.trod enc Tryd.prog w base spare held n 22 [c3] = some y3:=by
    have g : DataW.trod enc Tryd.prog w base spare held n 22 (([c0,c1,c2,c3].drop 3).take (Tryd.prog.cellsOf 22)) = some y3:=hf 3 _ rfl
    rw [C22] at g
    exact g
   obtain ⟨a,ha,_,_⟩:=DataW.trod_int Tryd.underlying3 g0
   obtain ⟨nm,hn,_,hsz⟩:=DataW.trod_string Tryd.underlying9 g1
   obtain ⟨b,hb,_,_⟩:=DataW.trod_int Tryd.underlying3 g2
   simp only [List.cons.injEq,and_true] at ha hn hb
   subst ha hn hb
   have hm : maxLen = 9223372036854775807:=by decide +kernel
   rcases DataW.trod_slice Tryd.underlying22 g3 with ⟨h3,_⟩|⟨ad,len,cap,elems,rest,m,hm1,h3,_,_,hl,hcap,hel,hrd,_,_⟩
   ·simp only [List.cons.injEq,and_true] at h3
    subst h3
    refine ⟨⟨a,nm,b,[]⟩,k24_mk w ⟨a,nm,b,[]⟩ (A3:=none) (c3:=0) (Nat.le_refl _) ⟨rfl,by simp,fun h => by simp at h⟩,?_⟩
    rw [ok24];exact ⟨by omega,by simp,by rw [oks24];trivial⟩
   ·simp only [List.cons.injEq,and_true] at h3
    subst h3
    have hall : ∀ i,i < len → ∃ t : S24,ok24 t ∧ ∃ c : List Value,c.length = 4 ∧ k24.K w t c ∧ ∀ j u,c[j]? = some u → w.cell? (ad.add (i * 4 + j)) = some u:=by
     intro i hi
     have h4:=hrd i hi
     rw [hC,List.getElem?_eq_getElem (by omega)] at h4
     obtain ⟨c,hc,ht⟩:=Option.bind_eq_some_iff.1 h4
     obtain ⟨t,hK,hok⟩:=IH m (by omega) c _ ht
     obtain ⟨_,hcl,hat⟩:=World.cells?_some hc
     refine ⟨t,hok,c,hcl,hK,fun j u hj => ?_⟩
     have hj4 : j < 4:=by
      rcases Nat.lt_or_ge j 4 with h|h
      ·exact h
      ·rw [List.getElem?_eq_none (by omega)] at hj;simp at hj
     rw [← hj,← hat j hj4,Go.Deep.add_add]
    obtain ⟨l,hll,hq⟩:=list_of len hall
    have hoks : oks24 l:=oks24_of fun t ht => by
     obtain ⟨i,hi,rfl⟩:=List.getElem_of_mem ht
     exact (hq i _ (List.getElem?_eq_getElem hi)).1
    have hlc : l.length ≤ cap:=by omega
    have hk:=k24_mk w ⟨a,nm,b,l⟩ (A3:=some ad) (c3:=cap) hlc ⟨rfl,by show l.length ≤ _;omega,fun _ => ⟨ad,rfl,fun j p hj => by
     obtain ⟨_,c,h1,h2,h3⟩:=hq j p hj
     exact ⟨c,h1,h2,h3⟩⟩⟩
    refine ⟨⟨a,nm,b,l⟩,?_,?_⟩
    ·have : (⟨a,nm,b,l⟩ : S24).f3.length = len:=hll
     rw [this] at hk;exact hk
    ·rw [ok24];exact ⟨by omega,by omega,hoks⟩
end
/-! #### a clause that came in, read -/
section
variable {H : Type} {enc : TypeId × Value → H} {w : World} {base : Nat} {spare : Nat → Bool} {held : Bool}
set_option maxRecDepth 100000 in
theorem open_C (fuel : Nat) (cs : List Value) (x : DataW H × List MemPlace) (h : DataW.trod enc Tryd.prog w base spare held fuel 60 cs = some x) :
  ∃ (h b : S24) (s : ByteArray) (A : Option Addr) (c : Nat) (B : Option Addr) (d : Nat),cs = [.int .i64 h.f0,.string h.f1,.int .i64 h.f2,.slice A h.f3.length c,.int .i64 b.f0,.string b.f1,.int .i64 b.f2,.slice B b.f3.length d,.string s] ∧
   h.f3.length ≤ c ∧ Kd.C k24 w A h.f3.length h.f3 ∧ b.f3.length ≤ d ∧ Kd.C k24 w B b.f3.length b.f3 ∧ ok24 h ∧ ok24 b ∧ s.size ≤ 9223372036854775807:=by
 obtain ⟨xs,n,rfl,rfl,hlen,hxl,hf⟩:=DataW.trod_struct Tryd.underlying60 h
 have hC : Tryd.prog.cellsOf 60 = 9:=by kernel_rfl
 rw [hC] at hlen
 match cs,hlen,xs,hxl with
 | [c0, c1, c2, c3, c4, c5, c6, c7, c8], _, [y0, y1, y2], _ =>
  have C24 : Tryd.prog.cellsOf 24 = 4:=by kernel_rfl
  have C9 : Tryd.prog.cellsOf 9 = 1:=by kernel_rfl
  have g0 : DataW.trod enc Tryd.prog w base spare held n 24 [c0,c1,c2,c3] = some y0:=by
   have g : DataW.trod enc Tryd.prog w base spare held n 24 (([c0,c1,c2,c3,c4,c5,c6,c7,c8].drop 0).take (Tryd.prog.cellsOf 24)) = some y0:=hf 0 _ rfl
   rw [C24] at g
   exact g
  have g1 : DataW.trod enc Tryd.prog w base spare held n 24 [c4,c5,c6,c7] = some y1:=by
   have g : DataW.trod enc Tryd.prog w base spare held n 24 (([c0,c1,c2,c3,c4,c5,c6,c7,c8].drop 4).take (Tryd.prog.cellsOf 24)) = some y1:=hf 1 _ rfl
   rw [C24] at g
   exact g
  have g2 : DataW.trod enc Tryd.prog w base spare held n 9 [c8] = some y2:=by
   have g : DataW.trod enc Tryd.prog w base spare held n 9 (([c0,c1,c2,c3,c4,c5,c6,c7,c8].drop 8).take (Tryd.prog.cellsOf 9)) = some y2:=hf 2 _ rfl
   rw [C9] at g
   exact g
  obtain ⟨t,hK,ho⟩:=open_T n _ _ g0
  obtain ⟨u,hK2,ho2⟩:=open_T n _ _ g1
  obtain ⟨s,hs,_,hsz⟩:=DataW.trod_string Tryd.underlying9 g2
  obtain ⟨A,c,e1,hl,hCt⟩:=k24_open hK
  obtain ⟨B,d,e2,hm,hCu⟩:=k24_open hK2
  simp only [List.cons.injEq,and_true] at e1 e2 hs
  obtain ⟨rfl,rfl,rfl,rfl⟩:=e1
  obtain ⟨rfl,rfl,rfl,rfl⟩:=e2
  subst hs
  have hm9 : maxLen = 9223372036854775807:=by decide +kernel
  exact ⟨t,u,s,A,c,B,d,rfl,hl,hCt,hm,hCu,ho,ho2,by omega⟩
end
/-! #### rows of clauses and of texts, and a database, that came in, read -/
def ok60 (x : S60) : Prop:=ok24 x.f0 ∧ ok24 x.f1 ∧ x.f2.size ≤ 9223372036854775807
section
variable {H : Type} {enc : TypeId × Value → H} {w : World} {base : Nat} {spare : Nat → Bool} {held : Bool}
set_option maxRecDepth 100000 in
theorem open_rowC (n : Nat) (c3 : Value) (y : DataW H × List MemPlace) (g3 : DataW.trod enc Tryd.prog w base spare held n 33 [c3] = some y) :
  ∃ (l : List S60) (A : Option Addr) (c : Nat),c3 = .slice A l.length c ∧ l.length ≤ c ∧ Kd.C k60 w A l.length l ∧ l.length ≤ 9223372036854775807 ∧ ∀ x ∈ l,ok60 x:=by
 have hm : maxLen = 9223372036854775807:=by decide +kernel
 have hC : Tryd.prog.cellsOf 60 = 9:=by kernel_rfl
 rcases DataW.trod_slice Tryd.underlying33 g3 with ⟨h3,_⟩|⟨ad,len,cap,elems,rest,m,hm1,h3,_,_,hl,hcap,hel,hrd,_,_⟩
 ·simp only [List.cons.injEq,and_true] at h3
  subst h3
  exact ⟨[],none,0,rfl,Nat.le_refl _,⟨rfl,by simp,fun h => by simp at h⟩,by simp,fun x hx => by simp at hx⟩
 ·simp only [List.cons.injEq,and_true] at h3
  subst h3
  have hall : ∀ i,i < len → ∃ t : S60,ok60 t ∧ ∃ c : List Value,c.length = 9 ∧ k60.K w t c ∧ ∀ j u,c[j]? = some u → w.cell? (ad.add (i * 9 + j)) = some u:=by
   intro i hi
   have h4:=hrd i hi
   rw [hC,List.getElem?_eq_getElem (by omega)] at h4
   obtain ⟨c,hc,ht⟩:=Option.bind_eq_some_iff.1 h4
   obtain ⟨h,b,s,A,ca,B,d,e,hla,hCa,hlb,hCb,oh,ob,os⟩:=open_C m c _ ht
   obtain ⟨_,hcl,hat⟩:=World.cells?_some hc
   refine ⟨⟨h,b,s⟩,⟨oh,ob,os⟩,c,hcl,by rw [e];exact k60_mk w ⟨h,b,s⟩ hla hCa hlb hCb,fun j u hj => ?_⟩
   have hj4 : j < 9:=by
    rcases Nat.lt_or_ge j 9 with h|h
    ·exact h
    ·rw [List.getElem?_eq_none (by omega)] at hj;simp at hj
   rw [← hj,← hat j hj4,Go.Deep.add_add]
  obtain ⟨l,hll,hq⟩:=list_of len hall
  have hoks : ∀ x ∈ l,ok60 x:=fun t ht => by
   obtain ⟨i,hi,rfl⟩:=List.getElem_of_mem ht
   exact (hq i _ (List.getElem?_eq_getElem hi)).1
  subst hll
  exact ⟨l,some ad,cap,rfl,hl,⟨rfl,by omega,fun _ => ⟨ad,rfl,fun j p hj => by
   obtain ⟨_,c,h1,h2,h3⟩:=hq j p hj
   exact ⟨c,h1,h2,h3⟩⟩⟩,by omega,hoks⟩
set_option maxRecDepth 100000 in
theorem open_rowS (n : Nat) (c3 : Value) (y : DataW H × List MemPlace) (g3 : DataW.trod enc Tryd.prog w base spare held n 34 [c3] = some y) :
  ∃ (l : List ByteArray) (A : Option Addr) (c : Nat),c3 = .slice A l.length c ∧ l.length ≤ c ∧ Kd.C Kd.string w A l.length l ∧ l.length ≤ 9223372036854775807 ∧ ∀ x ∈ l,x.size ≤ 9223372036854775807:=by
 have hm : maxLen = 9223372036854775807:=by decide +kernel
 have hC : Tryd.prog.cellsOf 9 = 1:=by kernel_rfl
 rcases DataW.trod_slice Tryd.underlying34 g3 with ⟨h3,_⟩|⟨ad,len,cap,elems,rest,m,hm1,h3,_,_,hl,hcap,hel,hrd,_,_⟩
 ·simp only [List.cons.injEq,and_true] at h3
  subst h3
  exact ⟨[],none,0,rfl,Nat.le_refl _,⟨rfl,by simp,fun h => by simp at h⟩,by simp,fun x hx => by simp at hx⟩
 ·simp only [List.cons.injEq,and_true] at h3
  subst h3
  have hall : ∀ i,i < len → ∃ t : ByteArray,t.size ≤ 9223372036854775807 ∧ ∃ c : List Value,c.length = 1 ∧ Kd.string.K w t c ∧ ∀ j u,c[j]? = some u → w.cell? (ad.add (i * 1 + j)) = some u:=by
   intro i hi
   have h4:=hrd i hi
   rw [hC,List.getElem?_eq_getElem (by omega)] at h4
   obtain ⟨c,hc,ht⟩:=Option.bind_eq_some_iff.1 h4
   obtain ⟨s,e,_,os⟩:=DataW.trod_string Tryd.underlying9 ht
   obtain ⟨_,hcl,hat⟩:=World.cells?_some hc
   refine ⟨s,by omega,c,hcl,e,fun j u hj => ?_⟩
   have hj4 : j < 1:=by
    rcases Nat.lt_or_ge j 1 with h|h
    ·exact h
    ·rw [List.getElem?_eq_none (by omega)] at hj;simp at hj
   rw [← hj,← hat j hj4,Go.Deep.add_add]
  obtain ⟨l,hll,hq⟩:=list_of len hall
  have hoks : ∀ x ∈ l,x.size ≤ 9223372036854775807:=fun t ht => by
   obtain ⟨i,hi,rfl⟩:=List.getElem_of_mem ht
   exact (hq i _ (List.getElem?_eq_getElem hi)).1
  subst hll
  exact ⟨l,some ad,cap,rfl,hl,⟨rfl,by omega,fun _ => ⟨ad,rfl,fun j p hj => by
   obtain ⟨_,c,h1,h2,h3⟩:=hq j p hj
   exact ⟨c,h1,h2,h3⟩⟩⟩,by omega,hoks⟩
set_option maxRecDepth 100000 in
theorem open_D (fuel : Nat) (cs : List Value) (x : DataW H × List MemPlace) (h : DataW.trod enc Tryd.prog w base spare held fuel 36 cs = some x) :
  ∃ (l : List S60) (o : List ByteArray) (A : Option Addr) (c : Nat) (B : Option Addr) (d : Nat),cs = [.slice A l.length c,.slice B o.length d] ∧ l.length ≤ c ∧ Kd.C k60 w A l.length l ∧ o.length ≤ d ∧ Kd.C Kd.string w B o.length o ∧ (∀ x ∈ l,ok60 x) ∧ l.length ≤ 9223372036854775807 ∧ o.length ≤ 9223372036854775807 ∧ ∀ x ∈ o,x.size ≤ 9223372036854775807:=by
 obtain ⟨xs,n,rfl,rfl,hlen,hxl,hf⟩:=DataW.trod_struct Tryd.underlying36 h
 have hC : Tryd.prog.cellsOf 36 = 2:=by kernel_rfl
 rw [hC] at hlen
 match cs,hlen,xs,hxl with
 | [c0, c1], _, [y0, y1], _ =>
  have C22 : Tryd.prog.cellsOf 33 = 1:=by kernel_rfl
  have C23 : Tryd.prog.cellsOf 34 = 1:=by kernel_rfl
  have g0 : DataW.trod enc Tryd.prog w base spare held n 33 [c0] = some y0:=by
   have g : DataW.trod enc Tryd.prog w base spare held n 33 (([c0,c1].drop 0).take (Tryd.prog.cellsOf 33)) = some y0:=hf 0 _ rfl
   rw [C22] at g
   exact g
  have g1 : DataW.trod enc Tryd.prog w base spare held n 34 [c1] = some y1:=by
   have g : DataW.trod enc Tryd.prog w base spare held n 34 (([c0,c1].drop 1).take (Tryd.prog.cellsOf 34)) = some y1:=hf 1 _ rfl
   rw [C23] at g
   exact g
  obtain ⟨l,A,c,rfl,hl,hCr,hm,ho⟩:=open_rowC n c0 y0 g0
  obtain ⟨o,B,d,rfl,hl2,hCr2,hm2,ho2⟩:=open_rowS n c1 y1 g1
  exact ⟨l,o,A,c,B,d,rfl,hl,hCr,hl2,hCr2,ho,hm,hm2,ho2⟩
end
/-! #### szTerm tells what is left of the weight -/
def szr (w : Nat) (left : Int) : Int:=if (w : Int) ≤ left then left - w else -1
theorem szS_ev (n : Nat) (xs : List S24) (hlen : xs.length ≤ 1048576)
  (IH : ∀ x ∈ xs,∀ left : Int,0 ≤ left → left ≤ 1048576 → Ev (fun k => (i_sz n).f k x.f0 x.f1 x.f2 x.f3 left) (szr (wt24 x) left)) (d : Nat) :
  ∀ (i : Nat) (left : Int),i ≤ xs.length → xs.length - i = d → 0 ≤ left → left ≤ 1048576 →
  Ev (fun k => @laws_szTermS.l0 (i_sz n) k xs left i) (szr (wts24 (xs.drop i)) left):=by
 induction d with
 | zero =>
  intro i left hi hd h0 h1
  refine Ev.step (f:=fun _ => some left) (fun k => ?_) ?_
  ·simp only [laws_szTermS.l0];rw [if_neg (by omega)]
  ·rw [List.drop_eq_nil_of_le (by omega),wts24]
   unfold szr;rw [if_pos (by simpa using h0)]
   simpa using Ev.now left
 | succ d ih =>
  intro i left hi hd h0 h1
  have hlt : i < xs.length:=by omega
  refine Ev.step (f:=fun k => ((i_sz n).f k xs[i].f0 xs[i].f1 xs[i].f2 xs[i].f3 left).bind fun t => if t < 0 then some (-1) else @laws_szTermS.l0 (i_sz n) k xs t ((i + 1 : Nat) : Int)) (fun k => ?_) ?_
  ·simp only [laws_szTermS.l0]
   rw [if_pos (by omega),if_pos (by omega),rd24_at xs i hlt,next_i i _ hlt hlen]
  ·refine Ev.bind (f:=fun k t => if t < 0 then some (-1) else @laws_szTermS.l0 (i_sz n) k xs t ((i + 1 : Nat) : Int)) (IH xs[i] (List.getElem_mem hlt) left h0 h1) ?_
   rw [List.drop_eq_getElem_cons hlt,wts24]
   unfold szr
   by_cases hc : (wt24 xs[i] : Int) ≤ left
   ·rw [if_pos hc]
    have h2:=ih (i + 1) (left - wt24 xs[i]) (by omega) (by omega) (by omega) (by omega)
    unfold szr at h2
    have e : (if ((wt24 xs[i] + wts24 (xs.drop (i + 1)) : Nat) : Int) ≤ left then left - ((wt24 xs[i] + wts24 (xs.drop (i + 1)) : Nat) : Int) else -1) = (if (wts24 (xs.drop (i + 1)) : Int) ≤ left - wt24 xs[i] then left - wt24 xs[i] - (wts24 (xs.drop (i + 1)) : Int) else -1):=by
     by_cases h3 : (wts24 (xs.drop (i + 1)) : Int) ≤ left - wt24 xs[i]
     ·rw [if_pos h3,if_pos (by omega)];omega
     ·rw [if_neg h3,if_neg (by omega)]
    rw [e]
    exact Ev.congr (fun k => if_neg (by omega)) h2
   ·rw [if_neg hc,if_neg (by omega)]
    exact Ev.congr (fun k => if_pos (by omega)) (Ev.now (-1))
theorem sz_ev (n : Nat) : ∀ (t : S24),ok24 t → ht24 t ≤ n → ∀ left : Int,0 ≤ left → left ≤ 1048576 → Ev (fun k => (i_sz n).f k t.f0 t.f1 t.f2 t.f3 left) (szr (wt24 t) left):=by
 induction n with
 | zero => intro t _ h; rw [ht24_eq] at h; omega
 | succ n ih =>
  intro t ho h left h0 h1
  rw [ht24_eq] at h
  obtain ⟨o1,o2,o3⟩:=(ok24_eq t).1 ho
  show Ev (fun k => @laws_szTerm.f (i_sz n) k t.f0 t.f1 t.f2 t.f3 left) _
  unfold laws_szTerm.f
  have e1 : wrap64 (left - (t.f1.size : Int)) = left - t.f1.size:=by unfold wrap64;omega
  rw [e1,wt24_eq]
  by_cases c1 : left - (t.f1.size : Int) < 0
  ·refine Ev.congr (fun k => if_pos c1) ?_
   unfold szr;rw [if_neg (by omega)];exact Ev.now _
  refine Ev.congr (fun k => if_neg c1) ?_
  have hS : Ev (fun k => @laws_szTermS.f (i_sz n) k t.f3 (left - (t.f1.size : Int))) (szr (t.f3.length + wts24 t.f3) (left - (t.f1.size : Int))):=by
   unfold laws_szTermS.f
   have e2 : wrap64 (left - (t.f1.size : Int) - (t.f3.length : Int)) = left - t.f1.size - t.f3.length:=by unfold wrap64;omega
   rw [e2]
   by_cases c2 : left - (t.f1.size : Int) - (t.f3.length : Int) < 0
   ·refine Ev.congr (fun k => if_pos c2) ?_
    unfold szr;rw [if_neg (by omega)];exact Ev.now _
   ·refine Ev.congr (fun k => if_neg c2) ?_
    have:=szS_ev n t.f3 (by omega) (fun x hx left h0 h1 => ih x (oks24_mem hx o3) (by have:=hts24_mem hx;omega) left h0 h1) t.f3.length 0 (left - t.f1.size - t.f3.length) (by omega) (by omega) (by omega) (by omega)
    rw [List.drop_zero] at this
    have e : szr (t.f3.length + wts24 t.f3) (left - (t.f1.size : Int)) = szr (wts24 t.f3) (left - t.f1.size - t.f3.length):=by
     unfold szr
     by_cases h3 : (wts24 t.f3 : Int) ≤ left - t.f1.size - t.f3.length
     ·rw [if_pos h3,if_pos (by omega)];omega
     ·rw [if_neg h3,if_neg (by omega)]
    rw [e];exact this
  refine Ev.bind (f:=fun _ t => if t < 0 then some (-1) else some t) hS ?_
  have e : szr (t.f1.size + (t.f3.length + wts24 t.f3)) left = szr (t.f3.length + wts24 t.f3) (left - (t.f1.size : Int)):=by
   unfold szr
   by_cases h3 : ((t.f3.length + wts24 t.f3 : Nat) : Int) ≤ left - t.f1.size
   ·rw [if_pos h3,if_pos (by omega)];omega
   ·rw [if_neg h3,if_neg (by omega)]
  rw [e]
  by_cases c3 : szr (t.f3.length + wts24 t.f3) (left - (t.f1.size : Int)) < 0
  ·have : szr (t.f3.length + wts24 t.f3) (left - (t.f1.size : Int)) = -1:=by
    unfold szr at c3 ⊢;split at c3 <;> rename_i h
    ·omega
    ·rw [if_neg h]
   rw [this];exact Ev.now _
  ·exact Ev.congr (fun k => if_neg c3) (Ev.now _)
/-! #### toTerm is the copy -/
/-! #### eqTerm tells true of what is the same -/
theorem eqS_ev (n : Nat) (xs : List S29) (hlen : xs.length ≤ 1048576)
  (IH : ∀ x ∈ xs,Ev (fun k => (i_eq n).f k x.f0 x.f1 x.f2 x.f3 x.f0 x.f1 x.f2 x.f3) true) (d : Nat) :
  ∀ (i : Nat),i ≤ xs.length → xs.length - i = d → Ev (fun k => @laws_eqTermS.l0 (i_eq n) k xs xs i) true:=by
 induction d with
 | zero =>
  intro i hi hd
  refine Ev.step (f:=fun _ => some true) (fun k => ?_) (Ev.now _)
  simp only [laws_eqTermS.l0];rw [if_neg (by omega)]
 | succ d ih =>
  intro i hi hd
  have hlt : i < xs.length:=by omega
  refine Ev.step (f:=fun k => ((i_eq n).f k xs[i].f0 xs[i].f1 xs[i].f2 xs[i].f3 xs[i].f0 xs[i].f1 xs[i].f2 xs[i].f3).bind fun b => if b = true then @laws_eqTermS.l0 (i_eq n) k xs xs ((i + 1 : Nat) : Int) else some false) (fun k => ?_) ?_
  ·simp only [laws_eqTermS.l0]
   rw [if_pos (by omega),if_pos (by omega),if_pos (by omega),rd29_at xs i hlt,next_i i _ hlt hlen]
  ·refine Ev.bind (f:=fun k b => if b = true then @laws_eqTermS.l0 (i_eq n) k xs xs ((i + 1 : Nat) : Int) else some false) (IH xs[i] (List.getElem_mem hlt)) ?_
   exact Ev.congr (fun k => if_pos rfl) (ih (i + 1) (by omega) (by omega))
theorem eq_ev (n : Nat) : ∀ (t : S29),ht29 t ≤ n → cn29 t ≤ 1048577 → Ev (fun k => (i_eq n).f k t.f0 t.f1 t.f2 t.f3 t.f0 t.f1 t.f2 t.f3) true:=by
 induction n with
 | zero => intro t h; rw [ht29_eq] at h; omega
 | succ n ih =>
  intro t h hc
  rw [ht29_eq] at h
  rw [cn29_eq] at hc
  have hcm : ∀ (ts : List S29),(∀ x ∈ ts,cn29 x ≤ cns29 ts) ∧ ts.length ≤ cns29 ts:=by
   intro ts
   induction ts with
   | nil => exact ⟨fun x hx => by simp at hx, by simp⟩
   | cons a l ihl =>
    rw [cns29]
    have:=cn29_eq a
    refine ⟨fun x hx => ?_,by simp only [List.length_cons];have:=ihl.2;omega⟩
    rcases List.mem_cons.1 hx with rfl|hx
    ·omega
    ·have:=ihl.1 x hx;omega
  show Ev (fun k => @laws_eqTerm.f (i_eq n) k t.f0 t.f1 t.f2 t.f3 t.f0 t.f1 t.f2 t.f3) _
  unfold laws_eqTerm.f
  refine Ev.congr (fun k => by rw [if_pos rfl,if_pos rfl,if_pos rfl]) ?_
  refine Ev.bind (f:=fun _ b => if b = true then some true else some false) (a:=true) ?_ (Ev.now _)
  unfold laws_eqTermS.f
  refine Ev.congr (fun k => if_pos rfl) ?_
  exact eqS_ev n t.f3 (by have:=(hcm t.f3).2;omega) (fun x hx => ih x (by have:=hts29_mem hx;omega) (by have:=(hcm t.f3).1 x hx;omega)) t.f3.length 0 (by omega) (by omega)
/-! #### the reference's figures -/
theorem Ev.pos {α : Type} {c : Prop} [Decidable c] {g f : Nat → Option α} {r : α} (h : c) (k : Ev g r) : Ev (fun n => if c then g n else f n) r:=Ev.congr (fun _ => if_pos h) k
theorem Ev.neg {α : Type} {c : Prop} [Decidable c] {g f : Nat → Option α} {r : α} (h : ¬c) (k : Ev f r) : Ev (fun n => if c then g n else f n) r:=Ev.congr (fun _ => if_neg h) k
def dg0 (u : Nat) : List UInt8:=if u = 0 then [] else Lib.decDigits u
theorem dg0_step (u : Nat) (h : 0 < u) : dg0 u = dg0 (u / 10) ++ [UInt8.ofNat (48 + u % 10)]:=by
 unfold dg0
 rw [if_neg (by omega),Lib.decDigits]
 by_cases h10 : u < 10
 ·rw [dif_pos h10,if_pos (by omega),show u % 10 = u by omega];rfl
 ·rw [dif_neg h10,if_neg (by omega)]
theorem push_fig (d : Nat) (hd : d < 10) (L : List UInt8) : strOfNums [((48 + d : Nat) : Int)] ++ (⟨L.toArray⟩ : ByteArray) = ⟨(UInt8.ofNat (48 + d) :: L).toArray⟩:=by
 apply ByteArray.ext
 rw [ByteArray.data_append]
 apply Array.toList_inj.1
 rw [Array.toList_append]
 have : d = 0 ∨ d = 1 ∨ d = 2 ∨ d = 3 ∨ d = 4 ∨ d = 5 ∨ d = 6 ∨ d = 7 ∨ d = 8 ∨ d = 9:=by omega
 rcases this with rfl|rfl|rfl|rfl|rfl|rfl|rfl|rfl|rfl|rfl <;> rfl
theorem fig_ok (d : Nat) (hd : d < 10) : spec_l01Figure.f (d : Int) = some ((48 + d : Nat) : Int):=by
 unfold spec_l01Figure.f
 rw [if_pos (by omega)]
 congr 1
 unfold wrap64
 omega
theorem dec_loop (b : Bool) (m : Nat) : ∀ (n : Int) (L : List UInt8),-9223372036854775808 ≤ n → n ≤ 9223372036854775807 → n.natAbs < 10 ^ m → L.length + m ≤ 100 →
  Ev (fun k => spec_Decimal.l0 k n b ⟨L.toArray⟩) (⟨((if b then [45] else []) ++ (dg0 n.natAbs ++ L)).toArray⟩ : ByteArray):=by
 induction m with
 | zero =>
  intro n L h0 h1 hm hl
  have hn : n = 0:=by omega
  subst hn
  cases b with
  | false =>
   refine Ev.step (f:=fun _ => some (⟨L.toArray⟩ : ByteArray)) (fun k => ?_) (Ev.now _)
   simp only [spec_Decimal.l0,if_true,Bool.false_eq_true,if_false]
  | true =>
   refine Ev.step (f:=fun _ => some ((⟨#[45]⟩ : ByteArray) ++ (⟨L.toArray⟩ : ByteArray))) (fun k => ?_) ?_
   ·simp only [spec_Decimal.l0,if_true]
    rw [if_pos (by show 1 + L.toArray.size ≤ _;rw [List.size_toArray];omega)]
   ·rw [show ((⟨#[45]⟩ : ByteArray) ++ (⟨L.toArray⟩ : ByteArray)) = (⟨((if true then [45] else []) ++ (dg0 (0 : Int).natAbs ++ L)).toArray⟩ : ByteArray) by
     apply ByteArray.ext;rw [ByteArray.data_append];apply Array.toList_inj.1;rw [Array.toList_append];rfl]
    exact Ev.now _
 | succ m ih =>
  intro n L h0 h1 hm hl
  by_cases hn : n = 0
  ·subst hn
   cases b with
   | false =>
    refine Ev.step (f:=fun _ => some (⟨L.toArray⟩ : ByteArray)) (fun k => ?_) (Ev.now _)
    simp only [spec_Decimal.l0,if_true,Bool.false_eq_true,if_false]
   | true =>
    refine Ev.step (f:=fun _ => some ((⟨#[45]⟩ : ByteArray) ++ (⟨L.toArray⟩ : ByteArray))) (fun k => ?_) ?_
    ·simp only [spec_Decimal.l0,if_true]
     rw [if_pos (by show 1 + L.toArray.size ≤ _;rw [List.size_toArray];omega)]
    ·rw [show ((⟨#[45]⟩ : ByteArray) ++ (⟨L.toArray⟩ : ByteArray)) = (⟨((if true then [45] else []) ++ (dg0 (0 : Int).natAbs ++ L)).toArray⟩ : ByteArray) by
      apply ByteArray.ext;rw [ByteArray.data_append];apply Array.toList_inj.1;rw [Array.toList_append];rfl]
     exact Ev.now _
  ·have hqa : (Int.tdiv n 10).natAbs = n.natAbs / 10:=Int.natAbs_tdiv n 10
   have hma : (Int.tmod n 10).natAbs = n.natAbs % 10:=Int.natAbs_tmod n 10
   have hqb : -1000000000000000000 ≤ Int.tdiv n 10 ∧ Int.tdiv n 10 ≤ 1000000000000000000:=by
    generalize Int.tdiv n 10 = q at hqa
    omega
   have hq : wrap64 (Int.tdiv n 10) = Int.tdiv n 10:=by
    generalize Int.tdiv n 10 = q at hqb
    unfold wrap64;omega
   have hlt : n.natAbs / 10 < 10 ^ m:=by rw [Nat.pow_succ] at hm;omega
   have hd : n.natAbs % 10 < 10:=Nat.mod_lt _ (by omega)
   have hres : dg0 n.natAbs ++ L = dg0 (Int.tdiv n 10).natAbs ++ (UInt8.ofNat (48 + n.natAbs % 10) :: L):=by
    rw [hqa,dg0_step n.natAbs (by omega),List.append_assoc];rfl
   have hnext:=ih (Int.tdiv n 10) (UInt8.ofNat (48 + n.natAbs % 10) :: L) (by have:=hqb.1;omega) (by have:=hqb.2;omega) (by rw [hqa];exact hlt) (by rw [List.length_cons];omega)
   rw [hres]
   refine Ev.step (fun k => ?_) hnext
   have hsz : (strOfNums [((48 + n.natAbs % 10 : Nat) : Int)]).size + (⟨L.toArray⟩ : ByteArray).size ≤ 9223372036854775807:=by
    show 1 + L.toArray.size ≤ _
    rw [List.size_toArray];omega
   by_cases hneg : Int.tmod n 10 < 0
   ·have e1 : wrap64 (-(Int.tmod n 10)) = ((n.natAbs % 10 : Nat) : Int):=by
     generalize Int.tmod n 10 = q at hma hneg
     unfold wrap64;omega
    simp only [spec_Decimal.l0,Option.bind_some]
    rw [if_neg hn,if_pos hneg,e1,fig_ok _ hd,Option.bind_some,if_pos hsz,push_fig _ hd,hq]
   ·have e1 : Int.tmod n 10 = ((n.natAbs % 10 : Nat) : Int):=by
     generalize Int.tmod n 10 = q at hma hneg
     omega
    simp only [spec_Decimal.l0,Option.bind_some]
    rw [if_neg hn,if_neg hneg,e1,fig_ok _ hd,Option.bind_some,if_pos hsz,push_fig _ hd,hq]
theorem dec_ev (n : Int) (h0 : -9223372036854775808 ≤ n) (h1 : n ≤ 9223372036854775807) : Ev (fun k => spec_Decimal.f k n) (⟨(Lib.itoa n).toArray⟩ : ByteArray):=by
 unfold spec_Decimal.f
 by_cases hn : n = 0
 ·subst hn
  refine Ev.pos rfl ?_
  rw [show (⟨#[48]⟩ : ByteArray) = (⟨(Lib.itoa 0).toArray⟩ : ByteArray) by unfold Lib.itoa;rw [if_neg (by decide),Lib.decDigits];rfl]
  exact Ev.now _
 ·refine Ev.neg hn ?_
  have:=dec_loop (decide (n < 0)) 20 n [] h0 h1 (by omega) (by decide)
  have e : (if decide (n < 0) = true then [45] else []) ++ (dg0 n.natAbs ++ []) = Lib.itoa n:=by
   have hd : dg0 n.natAbs = Lib.decDigits n.natAbs:=by unfold dg0;rw [if_neg (by omega)]
   unfold Lib.itoa
   rw [List.append_nil,hd]
   by_cases hneg : n < 0
   ·rw [if_pos hneg,decide_eq_true hneg];rfl
   ·rw [if_neg hneg,decide_eq_false hneg,show n.toNat = n.natAbs by omega];rfl
  rw [e] at this
  exact this
theorem impl_dec (k : Nat) (n : Int) (h0 : -9223372036854775808 ≤ n) (h1 : n ≤ 9223372036854775807) : @impl_Decimal.f i_it k n = some (⟨(Lib.itoa n).toArray⟩ : ByteArray):=by
 unfold impl_Decimal.f
 show ((if -9223372036854775808 ≤ n ∧ n ≤ 9223372036854775807 then some (⟨(Lib.itoa n).toArray⟩ : ByteArray) else none) : Option ByteArray).bind _ = _
 rw [if_pos ⟨h0,h1⟩];rfl
/-! #### clauses, rows of them, rows of texts, a database: weighed, copied, compared -/
theorem szr_pos {w : Nat} {left : Int} (h : (w : Int) ≤ left) : szr w left = left - w:=if_pos h
theorem szr_neg {w : Nat} {left : Int} (h : ¬ (w : Int) ≤ left) : szr w left = -1:=if_neg h
def wtC (c : S60) : Nat:=wt24 c.f0 + (wt24 c.f1 + c.f2.size)
def wtCs : List S60 → Nat
 | [] => 0
 | c :: l => wtC c + wtCs l
def wtS : List ByteArray → Nat
 | [] => 0
 | s :: l => s.size + wtS l
def htC (c : S60) : Nat:=max (ht24 c.f0) (ht24 c.f1)
def htCs : List S60 → Nat
 | [] => 0
 | c :: l => max (htC c) (htCs l)
def toC (c : S60) : S48:=⟨to29 c.f0,to29 c.f1,c.f2⟩
theorem wtCs_mem {l : List S60} {c : S60} (h : c ∈ l) : wtC c ≤ wtCs l:=by
 induction l with
 | nil => simp at h
 | cons a l ih =>
  rw [wtCs]
  rcases List.mem_cons.1 h with rfl|h
  ·omega
  ·have:=ih h;omega
theorem htCs_mem {l : List S60} {c : S60} (h : c ∈ l) : htC c ≤ htCs l:=by
 induction l with
 | nil => simp at h
 | cons a l ih =>
  rw [htCs]
  rcases List.mem_cons.1 h with rfl|h
  ·omega
  ·have:=ih h;omega
theorem rd60_at (xs : List S60) (i : Nat) (h : i < xs.length) : rd_T60 xs (i : Int) = xs[i]:=by
 unfold rd_T60;simp [List.getD,h]
theorem rd48_at (xs : List S48) (i : Nat) (h : i < xs.length) : rd_T48 xs (i : Int) = xs[i]:=by
 unfold rd_T48;simp [List.getD,h]
theorem rdS_at (xs : List ByteArray) (i : Nat) (h : i < xs.length) : rdOf ByteArray.empty xs (i : Int) = xs[i]:=by
 unfold rdOf;simp [List.getD,h]
theorem t_wrap' {i : Int} (h0 : -9223372036854775808 ≤ i) (h1 : i ≤ 9223372036854775807) : wrap64 i = i:=by unfold wrap64;omega
theorem szC_ev (n : Nat) (c : S60) (ho : ok60 c) (hh : htC c ≤ n + 1) (left : Int) (h0 : 0 ≤ left) (h1 : left ≤ 1048576) :
  Ev (fun k => @laws_szClause.f (i_sz n) k c.f0.f0 c.f0.f1 c.f0.f2 c.f0.f3 c.f1.f0 c.f1.f1 c.f1.f2 c.f1.f3 c.f2 left) (szr (wtC c) left):=by
 unfold htC at hh
 have e1:=sz_ev (n + 1) c.f0 ho.1 (by omega) left h0 h1
 have h2s:=ho.2.2
 unfold laws_szClause.f
 refine Ev.bind (g:=fun k => @laws_szTerm.f (i_sz n) k c.f0.f0 c.f0.f1 c.f0.f2 c.f0.f3 left) e1 ?_
 by_cases c1 : (wt24 c.f0 : Int) ≤ left
 ·rw [szr_pos c1]
  refine Ev.neg (by omega) ?_
  have e2:=sz_ev (n + 1) c.f1 ho.2.1 (by omega) (left - wt24 c.f0) (by omega) (by omega)
  refine Ev.bind (g:=fun k => @laws_szTerm.f (i_sz n) k c.f1.f0 c.f1.f1 c.f1.f2 c.f1.f3 (left - wt24 c.f0)) e2 ?_
  by_cases c2 : (wt24 c.f1 : Int) ≤ left - wt24 c.f0
  ·rw [szr_pos c2]
   refine Ev.neg (by omega) ?_
   have e3 : wrap64 (left - (wt24 c.f0 : Int) - (wt24 c.f1 : Int) - (c.f2.size : Int)) = left - wt24 c.f0 - wt24 c.f1 - c.f2.size:=t_wrap' (by omega) (by omega)
   rw [e3]
   by_cases c3 : (c.f2.size : Int) ≤ left - wt24 c.f0 - wt24 c.f1
   ·rw [szr_pos (show ((wtC c : Nat) : Int) ≤ left by unfold wtC;omega)]
    refine Ev.neg (by omega) ?_
    rw [show left - ((wtC c : Nat) : Int) = left - wt24 c.f0 - wt24 c.f1 - c.f2.size by unfold wtC;omega]
    exact Ev.now _
   ·rw [szr_neg (show ¬ ((wtC c : Nat) : Int) ≤ left by unfold wtC;omega)]
    exact Ev.pos (by omega) (Ev.now _)
  ·rw [szr_neg c2,szr_neg (show ¬ ((wtC c : Nat) : Int) ≤ left by unfold wtC;omega)]
   exact Ev.pos (by omega) (Ev.now _)
 ·rw [szr_neg c1,szr_neg (show ¬ ((wtC c : Nat) : Int) ≤ left by unfold wtC;omega)]
  exact Ev.pos (by omega) (Ev.now _)
theorem szCs_l (n : Nat) (xs : List S60) (hx : xs.length ≤ 1048576) (ho : ∀ x ∈ xs,ok60 x) (hh : ∀ x ∈ xs,htC x ≤ n + 1) (d : Nat) :
  ∀ (i : Nat) (left : Int),i ≤ xs.length → xs.length - i = d → 0 ≤ left → left ≤ 1048576 → Ev (fun k => @laws_szClauseS.l0 (i_sz n) k xs left i) (szr (wtCs (xs.drop i)) left):=by
 induction d with
 | zero =>
  intro i left hi hd h0 h1
  refine Ev.step (f:=fun _ => some left) (fun k => ?_) ?_
  ·simp only [laws_szClauseS.l0];rw [if_neg (by omega)]
  ·rw [List.drop_eq_nil_of_le (by omega),wtCs,szr_pos (by omega)]
   simpa using Ev.now left
 | succ d ih =>
  intro i left hi hd h0 h1
  have hlt : i < xs.length:=by omega
  refine Ev.step (f:=fun k => (@laws_szClause.f (i_sz n) k xs[i].f0.f0 xs[i].f0.f1 xs[i].f0.f2 xs[i].f0.f3 xs[i].f1.f0 xs[i].f1.f1 xs[i].f1.f2 xs[i].f1.f3 xs[i].f2 left).bind fun t => if t < 0 then some (-1) else @laws_szClauseS.l0 (i_sz n) k xs t ((i + 1 : Nat) : Int)) (fun k => ?_) ?_
  ·simp only [laws_szClauseS.l0]
   rw [if_pos (by omega),if_pos (by omega),rd60_at xs i hlt,next_i i _ hlt hx]
  ·refine Ev.bind (f:=fun k t => if t < 0 then some (-1) else @laws_szClauseS.l0 (i_sz n) k xs t ((i + 1 : Nat) : Int)) (szC_ev n xs[i] (ho _ (List.getElem_mem hlt)) (hh _ (List.getElem_mem hlt)) left h0 h1) ?_
   rw [List.drop_eq_getElem_cons hlt,wtCs]
   by_cases c1 : ((wtC xs[i] : Nat) : Int) ≤ left
   ·rw [szr_pos c1]
    refine Ev.neg (by omega) ?_
    have:=ih (i + 1) (left - wtC xs[i]) (by omega) (by omega) (by omega) (by omega)
    by_cases c2 : ((wtCs (xs.drop (i + 1)) : Nat) : Int) ≤ left - wtC xs[i]
    ·rw [szr_pos c2] at this
     rw [szr_pos (by omega),show left - ((wtC xs[i] + wtCs (xs.drop (i + 1)) : Nat) : Int) = left - wtC xs[i] - wtCs (xs.drop (i + 1)) by omega]
     exact this
    ·rw [szr_neg c2] at this
     rw [szr_neg (by omega)]
     exact this
   ·rw [szr_neg c1,szr_neg (by omega)]
    exact Ev.pos (by omega) (Ev.now _)
theorem szS_l (xs : List ByteArray) (hx : xs.length ≤ 1048576) (ho : ∀ x ∈ xs,x.size ≤ 9223372036854775807) (d : Nat) :
  ∀ (i : Nat) (left : Int),i ≤ xs.length → xs.length - i = d → 0 ≤ left → left ≤ 1048576 → Ev (fun k => laws_szStringS.l0 k xs left i) (szr (wtS (xs.drop i)) left):=by
 induction d with
 | zero =>
  intro i left hi hd h0 h1
  refine Ev.step (f:=fun _ => some left) (fun k => ?_) ?_
  ·simp only [laws_szStringS.l0];rw [if_neg (by omega)]
  ·rw [List.drop_eq_nil_of_le (by omega),wtS,szr_pos (by omega)]
   simpa using Ev.now left
 | succ d ih =>
  intro i left hi hd h0 h1
  have hlt : i < xs.length:=by omega
  have hs:=ho _ (List.getElem_mem hlt)
  have e3 : wrap64 (left - (xs[i].size : Int)) = left - xs[i].size:=t_wrap' (by omega) (by omega)
  refine Ev.step (f:=fun k => if left - (xs[i].size : Int) < 0 then some (-1) else laws_szStringS.l0 k xs (left - xs[i].size) ((i + 1 : Nat) : Int)) (fun k => ?_) ?_
  ·simp only [laws_szStringS.l0]
   rw [if_pos (by omega),if_pos (by omega),rdS_at xs i hlt,next_i i _ hlt hx,e3]
  ·rw [List.drop_eq_getElem_cons hlt,wtS]
   by_cases c1 : (xs[i].size : Int) ≤ left
   ·refine Ev.neg (by omega) ?_
    have:=ih (i + 1) (left - xs[i].size) (by omega) (by omega) (by omega) (by omega)
    by_cases c2 : ((wtS (xs.drop (i + 1)) : Nat) : Int) ≤ left - xs[i].size
    ·rw [szr_pos c2] at this
     rw [szr_pos (by omega),show left - ((xs[i].size + wtS (xs.drop (i + 1)) : Nat) : Int) = left - xs[i].size - wtS (xs.drop (i + 1)) by omega]
     exact this
    ·rw [szr_neg c2] at this
     rw [szr_neg (by omega)]
     exact this
   ·rw [szr_neg (by omega)]
    exact Ev.pos (by omega) (Ev.now _)
/-! #### a database compared with itself -/
theorem eqC_ev (n : Nat) (c : S60) (hh : htC c ≤ n + 1) (hw : wtC c ≤ 1048576) :
  Ev (fun k => @laws_eqClause.f (i_eq n) k (toC c).f0.f0 (toC c).f0.f1 (toC c).f0.f2 (toC c).f0.f3 (toC c).f1.f0 (toC c).f1.f1 (toC c).f1.f2 (toC c).f1.f3 (toC c).f2 (toC c).f0.f0 (toC c).f0.f1 (toC c).f0.f2 (toC c).f0.f3 (toC c).f1.f0 (toC c).f1.f1 (toC c).f1.f2 (toC c).f1.f3 (toC c).f2) true:=by
 unfold htC at hh
 unfold wtC at hw
 have n0:=cn_wt c.f0
 have n1:=cn_wt c.f1
 have e1:=eq_ev (n + 1) (to29 c.f0) (by rw [ht_to];omega) (by omega)
 have e2:=eq_ev (n + 1) (to29 c.f1) (by rw [ht_to];omega) (by omega)
 unfold laws_eqClause.f
 exact Ev.bind e1 (Ev.pos rfl (Ev.bind e2 (Ev.pos rfl (Ev.pos rfl (Ev.now _)))))
theorem eqCs_l (n : Nat) (xs : List S60) (hx : xs.length ≤ 1048576) (hh : ∀ x ∈ xs,htC x ≤ n + 1) (hw : ∀ x ∈ xs,wtC x ≤ 1048576) (d : Nat) :
  ∀ i : Nat,i ≤ xs.length → xs.length - i = d → Ev (fun k => @laws_eqClauseS.l0 (i_eq n) k (xs.map toC) (xs.map toC) i) true:=by
 have hl : (xs.map toC).length = xs.length:=List.length_map ..
 induction d with
 | zero =>
  intro i hi hd
  refine Ev.step (f:=fun _ => some true) (fun k => ?_) (Ev.now _)
  simp only [laws_eqClauseS.l0];rw [if_neg (by omega)]
 | succ d ih =>
  intro i hi hd
  have hlt : i < xs.length:=by omega
  have hn:=ih (i + 1) (by omega) (by omega)
  refine Ev.step (f:=fun k => (@laws_eqClause.f (i_eq n) k (toC xs[i]).f0.f0 (toC xs[i]).f0.f1 (toC xs[i]).f0.f2 (toC xs[i]).f0.f3 (toC xs[i]).f1.f0 (toC xs[i]).f1.f1 (toC xs[i]).f1.f2 (toC xs[i]).f1.f3 (toC xs[i]).f2 (toC xs[i]).f0.f0 (toC xs[i]).f0.f1 (toC xs[i]).f0.f2 (toC xs[i]).f0.f3 (toC xs[i]).f1.f0 (toC xs[i]).f1.f1 (toC xs[i]).f1.f2 (toC xs[i]).f1.f3 (toC xs[i]).f2).bind fun t => if t = true then @laws_eqClauseS.l0 (i_eq n) k (xs.map toC) (xs.map toC) ((i + 1 : Nat) : Int) else some false) (fun k => ?_) ?_
  ·simp only [laws_eqClauseS.l0]
   rw [if_pos (by omega),if_pos (by omega),if_pos (by omega),rd48_at (xs.map toC) i (by omega),List.getElem_map,next_i i _ hlt hx]
  ·exact Ev.bind (f:=fun k t => if t = true then @laws_eqClauseS.l0 (i_eq n) k (xs.map toC) (xs.map toC) ((i + 1 : Nat) : Int) else some false) (eqC_ev n xs[i] (hh _ (List.getElem_mem hlt)) (hw _ (List.getElem_mem hlt))) (Ev.pos rfl hn)
theorem eqS_l (xs : List ByteArray) (hx : xs.length ≤ 1048576) (d : Nat) : ∀ i : Nat,i ≤ xs.length → xs.length - i = d → Ev (fun k => laws_eqStringS.l0 k xs xs i) true:=by
 induction d with
 | zero =>
  intro i hi hd
  refine Ev.step (f:=fun _ => some true) (fun k => ?_) (Ev.now _)
  simp only [laws_eqStringS.l0]
  rw [if_neg (by omega)]
 | succ d ih =>
  intro i hi hd
  refine Ev.step (fun k => ?_) (ih (i + 1) (by omega) (by omega))
  simp only [laws_eqStringS.l0]
  rw [if_pos (by omega),if_pos (by omega),if_pos (by omega),next_i i _ (by omega) hx]
  exact if_pos trivial
theorem eqD_ev (n : Nat) (xs : List S60) (o : List ByteArray) (hx : xs.length ≤ 1048576) (ho : o.length ≤ 1048576) (hh : ∀ x ∈ xs,htC x ≤ n + 1) (hw : ∀ x ∈ xs,wtC x ≤ 1048576) : Ev (fun k => @laws_eqDb.f (i_eq n) k (xs.map toC) o (xs.map toC) o) true:=by
 have h1 : Ev (fun k => @laws_eqClauseS.f (i_eq n) k (xs.map toC) (xs.map toC)) true:=by
  unfold laws_eqClauseS.f
  exact Ev.pos rfl (eqCs_l n xs hx hh hw _ 0 (by omega) rfl)
 have h2 : Ev (fun k => laws_eqStringS.f k o o) true:=by
  unfold laws_eqStringS.f
  exact Ev.pos rfl (eqS_l o ho _ 0 (by omega) rfl)
 unfold laws_eqDb.f
 exact Ev.bind h1 (Ev.pos rfl (Ev.bind h2 (Ev.pos rfl (Ev.now _))))
/-! #### a database weighed -/
theorem szD_ev (n : Nat) (xs : List S60) (o : List ByteArray) (hl1 : xs.length ≤ 9223372036854775807) (hl2 : o.length ≤ 9223372036854775807) (ho : ∀ x ∈ xs,ok60 x) (hs : ∀ x ∈ o,x.size ≤ 9223372036854775807) (hh : ∀ x ∈ xs,htC x ≤ n + 1) :
  Ev (fun k => @laws_szDb.f (i_sz n) k xs o 1048576) (szr (xs.length + wtCs xs + (o.length + wtS o)) 1048576):=by
 have h1 : Ev (fun k => @laws_szClauseS.f (i_sz n) k xs 1048576) (szr (xs.length + wtCs xs) 1048576):=by
  unfold laws_szClauseS.f
  rw [t_wrap' (i:=1048576 - (xs.length : Int)) (by omega) (by omega)]
  by_cases c : (1048576 : Int) - xs.length < 0
  ·rw [szr_neg (by omega)]
   exact Ev.pos c (Ev.now _)
  ·refine Ev.neg c ?_
   have:=szCs_l n xs (by omega) ho hh xs.length 0 (1048576 - xs.length) (by omega) (by omega) (by omega) (by omega)
   rw [List.drop_zero] at this
   have e : szr (wtCs xs) (1048576 - xs.length) = szr (xs.length + wtCs xs) 1048576:=by unfold szr;split <;> split <;> omega
   rw [e] at this
   exact this
 unfold laws_szDb.f
 refine Ev.bind h1 ?_
 by_cases c1 : ((xs.length + wtCs xs : Nat) : Int) ≤ 1048576
 ·rw [szr_pos c1]
  refine Ev.neg (by omega) ?_
  have h2 : Ev (fun k => laws_szStringS.f k o (1048576 - ((xs.length + wtCs xs : Nat) : Int))) (szr (o.length + wtS o) (1048576 - ((xs.length + wtCs xs : Nat) : Int))):=by
   unfold laws_szStringS.f
   rw [t_wrap' (i:=1048576 - ((xs.length + wtCs xs : Nat) : Int) - (o.length : Int)) (by omega) (by omega)]
   by_cases c : 1048576 - ((xs.length + wtCs xs : Nat) : Int) - (o.length : Int) < 0
   ·rw [szr_neg (by omega)]
    exact Ev.pos c (Ev.now _)
   ·refine Ev.neg c ?_
    have:=szS_l o (by omega) hs o.length 0 (1048576 - ((xs.length + wtCs xs : Nat) : Int) - o.length) (by omega) (by omega) (by omega) (by omega)
    rw [List.drop_zero] at this
    have e : szr (wtS o) (1048576 - ((xs.length + wtCs xs : Nat) : Int) - o.length) = szr (o.length + wtS o) (1048576 - ((xs.length + wtCs xs : Nat) : Int)):=by unfold szr;split <;> split <;> omega
    rw [e] at this
    exact this
  refine Ev.bind h2 ?_
  by_cases c2 : ((o.length + wtS o : Nat) : Int) ≤ 1048576 - ((xs.length + wtCs xs : Nat) : Int)
  ·rw [szr_pos c2,szr_pos (by omega),show (1048576 : Int) - ((xs.length + wtCs xs + (o.length + wtS o) : Nat) : Int) = 1048576 - ((xs.length + wtCs xs : Nat) : Int) - ((o.length + wtS o : Nat) : Int) by omega]
   exact Ev.neg (by omega) (Ev.now _)
  ·rw [szr_neg c2,szr_neg (by omega)]
   exact Ev.pos (by omega) (Ev.now _)
 ·rw [szr_neg c1,szr_neg (by omega)]
  exact Ev.pos (by omega) (Ev.now _)
/-! #### a row of texts is copied -/
theorem set_row {α : Type} (xs : List α) (z : α) (r : Nat) (i : Nat) (y : α) (hi : i = xs.length) : (xs ++ List.replicate (r + 1) z).set i y = (xs ++ [y]) ++ List.replicate r z:=by
 subst hi
 rw [List.set_append_right _ _ (Nat.le_refl _),Nat.sub_self,List.replicate_succ,List.set_cons_zero,List.append_assoc]
 rfl
theorem toS_l (xs : List ByteArray) (hx : xs.length ≤ 1048576) (d : Nat) :
  ∀ i : Nat,i ≤ xs.length → xs.length - i = d → Ev (fun k => laws_toStringS.l0 k xs (xs.take i ++ List.replicate d (⟨#[]⟩ : ByteArray)) i) xs:=by
 induction d with
 | zero =>
  intro i hi hd
  refine Ev.step (f:=fun _ => some (xs.take i ++ List.replicate 0 (⟨#[]⟩ : ByteArray))) (fun k => ?_) ?_
  ·simp only [laws_toStringS.l0];rw [if_neg (by omega)]
  ·rw [List.take_of_length_le (by omega),List.replicate_zero,List.append_nil]
   exact Ev.now _
 | succ d ih =>
  intro i hi hd
  have hlt : i < xs.length:=by omega
  have hl : (xs.take i).length = i:=by rw [List.length_take];omega
  have hn:=ih (i + 1) (by omega) (by omega)
  rw [List.take_succ_eq_append_getElem hlt] at hn
  refine Ev.step (fun k => ?_) hn
  simp only [laws_toStringS.l0]
  rw [if_pos (by omega),if_pos (by omega),rdS_at xs i hlt,next_i i _ hlt hx,if_pos (by rw [List.length_append,hl,List.length_replicate];omega),Int.toNat_natCast,set_row _ _ d i _ hl.symm]
theorem toTexts_ev (xs : List ByteArray) (hx : xs.length ≤ 1048576) : Ev (fun k => laws_toStringS.f k xs) xs:=by
 unfold laws_toStringS.f
 refine Ev.pos (by omega) (Ev.pos (by omega) ?_)
 have:=toS_l xs hx xs.length 0 (by omega) (by omega)
 rw [Int.toNat_natCast]
 exact this
/-! #### PredOf, both ways -/
def dtx (n : Nat) : ByteArray:=⟨(Lib.itoa (n : Int)).toArray⟩
def pv (t : S29) : ByteArray:=if t.f0 = 2 ∨ t.f0 = 4 then t.f1 ++ ⟨#[47]⟩ ++ dtx t.f3.length else ⟨#[]⟩
theorem dtx_size (n : Nat) (h : n ≤ 1048576) : (dtx n).size ≤ 21:=by
 have:=Lib.itoa_length_le (n : Int) (by omega) (by omega)
 show (Lib.itoa (n : Int)).toArray.size ≤ 21
 rw [List.size_toArray]
 exact this
theorem spec_pred (t : S29) (h1 : t.f1.size ≤ 1048576) (h2 : t.f3.length ≤ 1048576) : Ev (fun k => spec_PredOf.f k t.f0 t.f1 t.f2 t.f3) (pv t):=by
 have hd : Ev (fun k => spec_Decimal.f k (t.f3.length : Int)) (dtx t.f3.length):=dec_ev _ (by omega) (by omega)
 have hz:=dtx_size t.f3.length h2
 have hz2 : (t.f1 ++ (⟨#[47]⟩ : ByteArray)).size = t.f1.size + 1:=by rw [ByteArray.size_append];rfl
 unfold spec_PredOf.f pv
 by_cases c2 : t.f0 = 2
 ·rw [if_pos (Or.inl c2)]
  refine Ev.pos c2 (Ev.pos (by omega) ?_)
  exact Ev.bind (f:=fun _ t131 => (if (t.f1 ++ (⟨#[47]⟩ : ByteArray)).size + t131.size ≤ 9223372036854775807 then (some ((t.f1 ++ (⟨#[47]⟩ : ByteArray)) ++ t131)) else (none))) hd (Ev.pos (by omega) (Ev.now _))
 ·refine Ev.neg c2 ?_
  by_cases c4 : t.f0 = 4
  ·rw [if_pos (Or.inr c4)]
   refine Ev.pos c4 (Ev.pos (by omega) ?_)
   exact Ev.bind (f:=fun _ t131 => (if (t.f1 ++ (⟨#[47]⟩ : ByteArray)).size + t131.size ≤ 9223372036854775807 then (some ((t.f1 ++ (⟨#[47]⟩ : ByteArray)) ++ t131)) else (none))) hd (Ev.pos (by omega) (Ev.now _))
  ·rw [if_neg (fun h => h.elim c2 c4)]
   exact Ev.neg c4 (Ev.now _)
theorem impl_pred (t : S29) (h1 : t.f1.size ≤ 1048576) (h2 : t.f3.length ≤ 1048576) (k : Nat) : @impl_PredOf.f i_it k t.f0 t.f1 t.f2 t.f3 = some (pv t):=by
 have hd : @impl_Decimal.f i_it k (t.f3.length : Int) = some (dtx t.f3.length):=impl_dec k _ (by omega) (by omega)
 have hz:=dtx_size t.f3.length h2
 have hz2 : (t.f1 ++ (⟨#[47]⟩ : ByteArray)).size = t.f1.size + 1:=by rw [ByteArray.size_append];rfl
 unfold impl_PredOf.f pv
 by_cases c2 : t.f0 = 2
 ·rw [if_pos (Or.inl c2),if_pos c2,if_pos (by omega),hd,Option.bind_some,if_pos (by omega)]
 ·rw [if_neg c2]
  by_cases c4 : t.f0 = 4
  ·rw [if_pos (Or.inr c4),if_pos c4,if_pos (by omega),hd,Option.bind_some,if_pos (by omega)]
  ·rw [if_neg c4,if_neg (fun h => h.elim c2 c4)]
/-! #### l34Term tells the same term -/
theorem l34S_ev (n : Nat) (xs : List S29) (hlen : xs.length ≤ 1048576) (IH : ∀ x ∈ xs,Ev (fun k => (i_34 n).f k x.f0 x.f1 x.f2 x.f3) (x.f0,x.f1,x.f2,x.f3)) (d : Nat) :
  ∀ (i : Nat) (ys : List S29),i ≤ xs.length → xs.length - i = d → ys.length = i → Ev (fun k => @spec_l34Terms.l0 (i_34 n) k xs ys i) (ys ++ xs.drop i):=by
 induction d with
 | zero =>
  intro i ys hi hd hy
  refine Ev.step (f:=fun _ => some ys) (fun k => ?_) ?_
  ·simp only [spec_l34Terms.l0];rw [if_neg (by omega)]
  ·rw [List.drop_eq_nil_of_le (by omega),List.append_nil];exact Ev.now ys
 | succ d ih =>
  intro i ys hi hd hy
  have hlt : i < xs.length:=by omega
  refine Ev.step (f:=fun k => ((i_34 n).f k xs[i].f0 xs[i].f1 xs[i].f2 xs[i].f3).bind fun b => @spec_l34Terms.l0 (i_34 n) k xs (ys ++ [⟨b.1,b.2.1,b.2.2.1,b.2.2.2⟩]) ((i + 1 : Nat) : Int)) (fun k => ?_) ?_
  ·simp only [spec_l34Terms.l0]
   rw [if_pos (by omega),if_pos (by omega),rd29_at xs i hlt,next_i i _ hlt hlen]
   have : ys.length < 2513169434916:=by omega
   simp only [if_pos this]
  ·refine Ev.bind (f:=fun k b => @spec_l34Terms.l0 (i_34 n) k xs (ys ++ [⟨b.1,b.2.1,b.2.2.1,b.2.2.2⟩]) ((i + 1 : Nat) : Int)) (IH xs[i] (List.getElem_mem hlt)) ?_
   have h2:=ih (i + 1) (ys ++ [xs[i]]) (by omega) (by omega) (by simp;omega)
   rw [List.append_assoc,List.singleton_append,← List.drop_eq_getElem_cons hlt] at h2
   show Ev (fun k => @spec_l34Terms.l0 (i_34 n) k xs (ys ++ [(⟨xs[i].f0,xs[i].f1,xs[i].f2,xs[i].f3⟩ : S29)]) ((i + 1 : Nat) : Int)) _
   rw [eta29]
   exact h2
theorem l34_ev (n : Nat) : ∀ (t : S29),ht29 t ≤ n → cn29 t ≤ 1048577 → Ev (fun k => (i_34 n).f k t.f0 t.f1 t.f2 t.f3) (t.f0,t.f1,t.f2,t.f3):=by
 induction n with
 | zero => intro t h; rw [ht29_eq] at h; omega
 | succ n ih =>
  intro t h hc
  rw [ht29_eq] at h
  rw [cn29_eq] at hc
  show Ev (fun k => @spec_l34Term.f (i_34 n) k t.f0 t.f1 t.f2 t.f3) _
  unfold spec_l34Term.f
  refine Ev.bind (f:=fun _ b => some (t.f0,t.f1,t.f2,b)) (a:=t.f3) ?_ (Ev.now _)
  unfold spec_l34Terms.f
  have:=l34S_ev n t.f3 (by have:=cns29_len t.f3;omega) (fun x hx => ih x (by have:=hts29_mem hx;omega) (by have:=cns29_mem hx;omega)) t.f3.length 0 [] (by omega) (by omega) rfl
  rw [List.drop_zero,List.nil_append] at this
  exact this
/-! #### Known, both ways -/
def kpB (p : ByteArray) (c : S48) : Bool:=(pv c.f0).toList == p.toList
def fineK (n : Nat) (c : S48) : Prop:=c.f0.f1.size ≤ 1048576 ∧ c.f0.f3.length ≤ 1048576 ∧ cn29 c.f0 ≤ 1048577 ∧ cn29 c.f1 ≤ 1048577 ∧ ht29 c.f0 ≤ n ∧ ht29 c.f1 ≤ n
theorem Ev.tt {α : Type} {g f : Nat → Option α} {r : α} (k : Ev g r) : Ev (fun n => if true = true then g n else f n) r:=Ev.pos rfl k
theorem Ev.ff {α : Type} {g f : Nat → Option α} {r : α} (k : Ev f r) : Ev (fun n => if false = true then g n else f n) r:=Ev.neg (by decide) k
theorem eta48 (c : S48) : (⟨⟨c.f0.f0,c.f0.f1,c.f0.f2,c.f0.f3⟩,⟨c.f1.f0,c.f1.f1,c.f1.f2,c.f1.f3⟩,c.f2⟩ : S48) = c:=by
 obtain ⟨a,b,s⟩:=c
 cases a;cases b;rfl
theorem raw_l (n : Nat) (xs : List S48) (o : List ByteArray) (p : ByteArray) (hx : xs.length ≤ 1048576) (hf : ∀ c ∈ xs,fineK n c) (d : Nat) : ∀ (i : Nat) (acc : List S48),i ≤ xs.length → xs.length - i = d → acc.length ≤ i →
  Ev (fun k => spec_l08ClausesOfRaw.l0 k p acc i xs o) (acc ++ (xs.drop i).filter (kpB p)):=by
 induction d with
 | zero =>
  intro i acc hi hd ha
  refine Ev.step (f:=fun _ => some acc) (fun k => ?_) ?_
  ·simp only [spec_l08ClausesOfRaw.l0];rw [if_neg (by omega)]
  ·rw [List.drop_eq_nil_of_le (by omega),List.filter_nil,List.append_nil];exact Ev.now _
 | succ d ih =>
  intro i acc hi hd ha
  have hlt : i < xs.length:=by omega
  obtain ⟨h1,h2,_⟩:=hf _ (List.getElem_mem hlt)
  refine Ev.step (f:=fun k => (spec_PredOf.f k xs[i].f0.f0 xs[i].f0.f1 xs[i].f0.f2 xs[i].f0.f3).bind fun t => if t.toList = p.toList then spec_l08ClausesOfRaw.l0 k p (acc ++ [xs[i]]) ((i + 1 : Nat) : Int) xs o else spec_l08ClausesOfRaw.l0 k p acc ((i + 1 : Nat) : Int) xs o) (fun k => ?_) ?_
  ·simp only [spec_l08ClausesOfRaw.l0]
   rw [if_pos (by omega),if_pos (by omega),rd48_at xs i hlt,next_i i _ hlt hx,eta48]
   simp only [if_pos (show acc.length < 1099511627776 by omega)]
  ·refine Ev.bind (f:=fun k t => if t.toList = p.toList then spec_l08ClausesOfRaw.l0 k p (acc ++ [xs[i]]) ((i + 1 : Nat) : Int) xs o else spec_l08ClausesOfRaw.l0 k p acc ((i + 1 : Nat) : Int) xs o) (spec_pred xs[i].f0 h1 h2) ?_
   rw [List.drop_eq_getElem_cons hlt]
   by_cases c : (pv xs[i].f0).toList = p.toList
   ·refine Ev.pos c ?_
    rw [List.filter_cons_of_pos (show kpB p xs[i] = true by unfold kpB;simp [c])]
    have:=ih (i + 1) (acc ++ [xs[i]]) (by omega) (by omega) (by rw [List.length_append,List.length_singleton];omega)
    rw [List.append_assoc,List.singleton_append] at this
    exact this
   ·refine Ev.neg c ?_
    rw [List.filter_cons_of_neg (show ¬ kpB p xs[i] = true by unfold kpB;simp [c])]
    exact ih (i + 1) acc (by omega) (by omega) (by omega)
theorem l34C_ev (n : Nat) (c : S48) (h : fineK n c) : Ev (fun k => @spec_l34Clause.f (i_34 n) k c.f0.f0 c.f0.f1 c.f0.f2 c.f0.f3 c.f1.f0 c.f1.f1 c.f1.f2 c.f1.f3 c.f2) (c.f0.f0,c.f0.f1,c.f0.f2,c.f0.f3,c.f1.f0,c.f1.f1,c.f1.f2,c.f1.f3,c.f2):=by
 obtain ⟨_,_,h1,h2,h3,h4⟩:=h
 unfold spec_l34Clause.f
 exact Ev.bind (l34_ev (n + 1) c.f0 (by omega) h1) (Ev.bind (l34_ev (n + 1) c.f1 (by omega) h2) (Ev.now _))
theorem l34Cs_l (n : Nat) (xs : List S48) (hx : xs.length ≤ 1048576) (hf : ∀ c ∈ xs,fineK n c) (d : Nat) : ∀ (i : Nat) (ys : List S48),i ≤ xs.length → xs.length - i = d → ys.length = i → Ev (fun k => @spec_l34Clauses.l0 (i_34 n) k xs ys i) (ys ++ xs.drop i):=by
 induction d with
 | zero =>
  intro i ys hi hd hy
  refine Ev.step (f:=fun _ => some ys) (fun k => ?_) ?_
  ·simp only [spec_l34Clauses.l0];rw [if_neg (by omega)]
  ·rw [List.drop_eq_nil_of_le (by omega),List.append_nil];exact Ev.now ys
 | succ d ih =>
  intro i ys hi hd hy
  have hlt : i < xs.length:=by omega
  refine Ev.step (f:=fun k => (@spec_l34Clause.f (i_34 n) k xs[i].f0.f0 xs[i].f0.f1 xs[i].f0.f2 xs[i].f0.f3 xs[i].f1.f0 xs[i].f1.f1 xs[i].f1.f2 xs[i].f1.f3 xs[i].f2).bind fun b => @spec_l34Clauses.l0 (i_34 n) k xs (ys ++ [⟨⟨b.1,b.2.1,b.2.2.1,b.2.2.2.1⟩,⟨b.2.2.2.2.1,b.2.2.2.2.2.1,b.2.2.2.2.2.2.1,b.2.2.2.2.2.2.2.1⟩,b.2.2.2.2.2.2.2.2⟩]) ((i + 1 : Nat) : Int)) (fun k => ?_) ?_
  ·simp only [spec_l34Clauses.l0]
   rw [if_pos (by omega),if_pos (by omega),rd48_at xs i hlt,next_i i _ hlt hx]
   simp only [if_pos (show ys.length < 1099511627776 by omega)]
  ·refine Ev.bind (f:=fun k b => @spec_l34Clauses.l0 (i_34 n) k xs (ys ++ [⟨⟨b.1,b.2.1,b.2.2.1,b.2.2.2.1⟩,⟨b.2.2.2.2.1,b.2.2.2.2.2.1,b.2.2.2.2.2.2.1,b.2.2.2.2.2.2.2.1⟩,b.2.2.2.2.2.2.2.2⟩]) ((i + 1 : Nat) : Int)) (l34C_ev n xs[i] (hf _ (List.getElem_mem hlt))) ?_
   have h2:=ih (i + 1) (ys ++ [xs[i]]) (by omega) (by omega) (by rw [List.length_append,List.length_singleton];omega)
   rw [List.append_assoc,List.singleton_append,← List.drop_eq_getElem_cons hlt] at h2
   show Ev (fun k => @spec_l34Clauses.l0 (i_34 n) k xs (ys ++ [(⟨⟨xs[i].f0.f0,xs[i].f0.f1,xs[i].f0.f2,xs[i].f0.f3⟩,⟨xs[i].f1.f0,xs[i].f1.f1,xs[i].f1.f2,xs[i].f1.f3⟩,xs[i].f2⟩ : S48)]) ((i + 1 : Nat) : Int)) _
   rw [eta48]
   exact h2
theorem spec_of (n : Nat) (xs : List S48) (o : List ByteArray) (p : ByteArray) (hx : xs.length ≤ 1048576) (hf : ∀ c ∈ xs,fineK n c) : Ev (fun k => @spec_ClausesOf.f (i_34 n) k xs o p) (xs.filter (kpB p)):=by
 have h1 : Ev (fun k => spec_l08ClausesOfRaw.f k xs o p) (xs.filter (kpB p)):=by
  have:=raw_l n xs o p hx hf xs.length 0 [] (by omega) (by omega) (by simp)
  rw [List.drop_zero,List.nil_append] at this
  exact this
 have hl : (xs.filter (kpB p)).length ≤ 1048576:=Nat.le_trans (List.length_filter_le _ _) hx
 have h2 : Ev (fun k => @spec_l34Clauses.f (i_34 n) k (xs.filter (kpB p))) (xs.filter (kpB p)):=by
  have:=l34Cs_l n (xs.filter (kpB p)) hl (fun c hc => hf c (List.mem_filter.1 hc).1) _ 0 [] (by omega) rfl rfl
  rw [List.drop_zero,List.nil_append] at this
  exact this
 unfold spec_ClausesOf.f
 exact Ev.bind h1 (Ev.bind h2 (Ev.now _))
theorem fineK_to (n : Nat) (c : S60) (hh : htC c ≤ n) (hw : wtC c ≤ 1048576) : fineK n (toC c):=by
 unfold wtC at hw
 unfold htC at hh
 have n0:=cn_wt c.f0
 have n1:=cn_wt c.f1
 have w0:=wt24_eq c.f0
 have h0:=ht_to c.f0
 have h1:=ht_to c.f1
 refine ⟨?_,?_,by show cn29 (to29 c.f0) ≤ _;omega,by show cn29 (to29 c.f1) ≤ _;omega,by show ht29 (to29 c.f0) ≤ _;omega,by show ht29 (to29 c.f1) ≤ _;omega⟩
 ·show (to29 c.f0).f1.size ≤ _
  rw [to29_eq]
  show c.f0.f1.size ≤ _
  omega
 ·show (to29 c.f0).f3.length ≤ _
  rw [to29_eq]
  show (tos29 c.f0.f3).length ≤ _
  rw [tos29_map,List.length_map]
  omega
/-! #### a term whose rows are its own: no two of them one block, all the way down -/
def FD29 (d : Kd S29) : Kd S29:=Kd.iso (Kd.pair (Kd.int .i64) (Kd.pair Kd.string (Kd.pair (Kd.int .i64) (Kd.sliceS 29 d)))) (fun x : S29 => (x.f0,x.f1,x.f2,x.f3))
theorem monoD29 : Kd.Mono FD29:=Kd.mono_iso _ (Kd.mono_pair (Kd.mono_const _) (Kd.mono_pair (Kd.mono_const _) (Kd.mono_pair (Kd.mono_const _) (Kd.mono_sliceS 29 Kd.mono_id))))
theorem subD29 : Kd.Sub FD29 [29]:=Kd.sub_iso _ (Kd.sub_pair (Kd.sub_const _ (by decide)) (Kd.sub_pair (Kd.sub_const _ (by decide)) (Kd.sub_pair (Kd.sub_const _ (by decide)) (Kd.sub_sliceS 29 (by decide) Kd.sub_id))))
theorem szD29 : ∀ n,(Kd.upto FD29 4 [29] n).sz = 4:=Kd.upto_sz (fun _ => rfl)
def kD29 : Kd S29:=Kd.fix FD29 4 [29] szD29 (Kd.upto_E subD29)
theorem kD29_openM {w : World} {base : Nat} {ok : Nat → Prop} {x : S29} {cs : List Value} (h : kD29.M w base ok x cs) : ∃ v3,cs = [.int .i64 x.f0,.string x.f1,.int .i64 x.f2,v3] ∧ Kd.S kD29 29 w base ok v3 x.f3:=by
 obtain ⟨n,h⟩:=h
 cases n with
 | zero => exact h.elim
 | succ n =>
  obtain ⟨_,_,rfl,rfl,⟨_,_,rfl,rfl,⟨_,_,rfl,rfl,⟨v3,rfl,g3⟩⟩⟩⟩:=h
  exact ⟨v3,rfl,Kd.fix_S g3⟩
theorem kD29_mkM (w : World) (base : Nat) (ok : Nat → Prop) (x : S29) {v3 : Value} (g3 : Kd.S kD29 29 w base ok v3 x.f3) : kD29.M w base ok x [.int .i64 x.f0,.string x.f1,.int .i64 x.f2,v3]:=by
 obtain ⟨n3,q3⟩:=Kd.fix_S_back monoD29 g3
 exact ⟨n3 + 1,⟨[.int .i64 x.f0],[.string x.f1,.int .i64 x.f2,v3],rfl,rfl,⟨[.string x.f1],[.int .i64 x.f2,v3],rfl,rfl,⟨[.int .i64 x.f2],[v3],rfl,rfl,⟨v3,rfl,q3⟩⟩⟩⟩⟩
theorem uptoD29_K : ∀ (n : Nat) {w : World} {x : S29} {cs : List Value},(Kd.upto FD29 4 [29] n).K w x cs → (Kd.upto F29 4 [29] n).K w x cs
 | 0, _, _, _, h => h.elim
 | n + 1, w, x, cs, h => by
  obtain ⟨_,_,rfl,rfl,⟨_,_,rfl,rfl,⟨_,_,rfl,rfl,⟨A,c,rfl,l,g⟩⟩⟩⟩:=h
  have g' : (Kd.upto F29 4 [29] n).C w A x.f3.length x.f3:=Kd.C_imp (d:=Kd.upto FD29 4 [29] n) ((szD29 n).trans (sz29 n).symm) (fun _ _ _ hp => uptoD29_K n hp) g
  exact ⟨[.int .i64 x.f0],[.string x.f1,.int .i64 x.f2,.slice A x.f3.length c],rfl,rfl,⟨[.string x.f1],[.int .i64 x.f2,.slice A x.f3.length c],rfl,rfl,⟨[.int .i64 x.f2],[.slice A x.f3.length c],rfl,rfl,⟨A,c,rfl,l,g'⟩⟩⟩⟩
theorem kD29_K {w : World} {x : S29} {cs : List Value} (h : kD29.K w x cs) : k29.K w x cs:=by
 obtain ⟨n,h⟩:=h
 exact ⟨n,uptoD29_K n h⟩
theorem kD29_C {w : World} {A : Option Addr} {n : Nat} {xs : List S29} (h : Kd.C kD29 w A n xs) : Kd.C k29 w A n xs:=Kd.C_imp (d:=kD29) (d':=k29) rfl (fun _ _ _ hp => kD29_K hp) h
theorem kD29_reads {e : Nat} {w : World} {base : Nat} {ok : Nat → Prop} {v : Value} {xs : List S29} (h : Kd.S kD29 e w base ok v xs) : ∃ A c,v = .slice A xs.length c ∧ xs.length ≤ c ∧ Kd.C k29 w A xs.length xs:=by
 obtain ⟨A,c,rfl,hl,hC⟩:=Kd.S_reads h
 exact ⟨A,c,rfl,hl,kD29_C hC⟩
theorem kD29_leaf (w : World) (base : Nat) (ok : Nat → Prop) (a : Int) (s : ByteArray) (b : Int) : kD29.M w base ok ⟨a,s,b,[]⟩ [.int .i64 a,.string s,.int .i64 b,.slice none 0 0]:=kD29_mkM w base ok ⟨a,s,b,[]⟩ (Kd.S_nil _ _ _ _ _)
theorem uptoD29_M : ∀ (n : Nat) {w : World} {base : Nat} {ok : Nat → Prop} {x : S29} {cs : List Value},(Kd.upto FD29 4 [29] n).M w base ok x cs → (Kd.upto F29 4 [29] n).M w base ok x cs
 | 0, _, _, _, _, _, h => h.elim
 | n + 1, w, base, ok, x, cs, h => by
  obtain ⟨_,_,rfl,rfl,⟨_,_,rfl,rfl,⟨_,_,rfl,rfl,⟨v3,rfl,g⟩⟩⟩⟩:=h
  have g' : (Kd.upto F29 4 [29] n).R 29 w base ok v3 x.f3:=Kd.R_imp (d:=Kd.upto FD29 4 [29] n) ((szD29 n).trans (sz29 n).symm) (fun _ _ _ _ _ hp => uptoD29_M n hp) (Kd.S_R g)
  exact ⟨[.int .i64 x.f0],[.string x.f1,.int .i64 x.f2,v3],rfl,rfl,⟨[.string x.f1],[.int .i64 x.f2,v3],rfl,rfl,⟨[.int .i64 x.f2],[v3],rfl,rfl,⟨v3,rfl,g'⟩⟩⟩⟩
theorem kD29_M {w : World} {base : Nat} {ok : Nat → Prop} {x : S29} {cs : List Value} (h : kD29.M w base ok x cs) : k29.M w base ok x cs:=by
 obtain ⟨n,h⟩:=h
 exact ⟨n,uptoD29_M n h⟩
theorem S_k29 {e : Nat} {w : World} {base : Nat} {ok : Nat → Prop} {v : Value} {xs : List S29} (h : Kd.S kD29 e w base ok v xs) : k29.R e w base ok v xs:=Kd.R_imp (d:=kD29) (d':=k29) rfl (fun _ _ _ _ _ hp => kD29_M hp) (Kd.S_R h)
/-! #### what a mark leaves -/
mutual
def mk29 (mt : Int → ByteArray) : S29 → Int → S29
 | ⟨_, _, _, ks⟩, k => ⟨k, mt (k + 1), k + 2, mks29 mt ks (k + 3)⟩
def mks29 (mt : Int → ByteArray) : List S29 → Int → List S29
 | [], _ => []
 | t :: ts, k => mk29 mt t k :: mks29 mt ts (k + 3 * (cn29 t : Int))
end
theorem mk29_eq (mt : Int → ByteArray) (t : S29) (k : Int) : mk29 mt t k = ⟨k,mt (k + 1),k + 2,mks29 mt t.f3 (k + 3)⟩:=by cases t;rw [mk29]
theorem mks29_length (mt : Int → ByteArray) : ∀ (ts : List S29) (k : Int),(mks29 mt ts k).length = ts.length
 | [], _ => by rw [mks29]
 | t :: ts, k => by rw [mks29, List.length_cons, List.length_cons, mks29_length mt ts]
theorem mks29_append (mt : Int → ByteArray) : ∀ (ts us : List S29) (k : Int),mks29 mt (ts ++ us) k = mks29 mt ts k ++ mks29 mt us (k + 3 * (cns29 ts : Int))
 | [], us, k => by rw [mks29, cns29, List.nil_append, List.nil_append]; simp
 | t :: ts, us, k => by
  rw [List.cons_append,mks29,mks29,cns29,List.cons_append,mks29_append mt ts us]
  congr 3
  push_cast
  omega
theorem cns29_append : ∀ (ts us : List S29),cns29 (ts ++ us) = cns29 ts + cns29 us
 | [], us => by rw [List.nil_append, cns29]; omega
 | t :: ts, us => by rw [List.cons_append, cns29, cns29, cns29_append ts us]; omega
theorem mks29_cn (mt : Int → ByteArray) : ∀ (n : Nat),(∀ t k,ht29 t ≤ n → cn29 (mk29 mt t k) = cn29 t ∧ ht29 (mk29 mt t k) = ht29 t) ∧ (∀ ts k,hts29 ts ≤ n → cns29 (mks29 mt ts k) = cns29 ts ∧ hts29 (mks29 mt ts k) = hts29 ts)
 | 0 => by
  refine ⟨fun t k h => by rw [ht29_eq] at h;omega,fun ts k h => ?_⟩
  cases ts with
  | nil => rw [mks29]; exact ⟨rfl, rfl⟩
  | cons t ts => rw [hts29] at h; have := ht29_eq t; omega
 | n + 1 => by
  have h1 : ∀ t k,ht29 t ≤ n + 1 → cn29 (mk29 mt t k) = cn29 t ∧ ht29 (mk29 mt t k) = ht29 t:=fun t k h => by
   rw [ht29_eq] at h
   obtain ⟨h2,h3⟩:=(mks29_cn mt n).2 t.f3 (k + 3) (by omega)
   rw [mk29_eq,cn29_eq,cn29_eq t,ht29_eq,ht29_eq t]
   exact ⟨by rw [h2],by rw [h3]⟩
  refine ⟨h1,fun ts => ?_⟩
  induction ts with
  | nil => intro k _; rw [mks29]; exact ⟨rfl, rfl⟩
  | cons t ts ih =>
   intro k h
   rw [hts29] at h
   obtain ⟨h2,h3⟩:=h1 t k (by omega)
   obtain ⟨h4,h5⟩:=ih (k + 3 * (cn29 t : Int)) (by omega)
   rw [mks29,cns29,cns29,hts29,hts29,h2,h3,h4,h5]
   exact ⟨rfl,rfl⟩
theorem marks_take (xs : List S29) (i : Nat) (h : i < xs.length) : cns29 (xs.take (i + 1)) = cns29 (xs.take i) + (cns29 xs[i].f3 + 1):=by
 rw [List.take_succ_eq_append_getElem h,cns29_append,cns29,cns29,← cn29_eq];omega
theorem marks_set (mt : Int → ByteArray) (xs : List S29) (k : Int) (i : Nat) (h : i < xs.length) : (mks29 mt (xs.take i) k ++ xs.drop i).set i (mk29 mt xs[i] (k + 3 * (cns29 (xs.take i) : Int))) = mks29 mt (xs.take (i + 1)) k ++ xs.drop (i + 1):=by
 have hl : (mks29 mt (xs.take i) k).length = i:=by rw [mks29_length,List.length_take];omega
 rw [List.set_append_right _ _ (by omega),hl,Nat.sub_self,List.drop_eq_getElem_cons h,List.set_cons_zero,List.take_succ_eq_append_getElem h,mks29_append,mks29,mks29,List.append_assoc]
 rfl
/-! #### one term of a row is being marked: the row with a hole, the term's own rows, what was kept -/
structure MS (base : Nat) (ok : Nat → Prop) (g n cap : Nat) (xs : List S29) (i : Nat) (oki : Nat → Prop) (A3 : Option Addr) (c3 : Nat) (ks : List S29) (w W : World) (c : List Value) : Prop where
 hi : i < n
 hH : Kd.H kD29 29 W base ok (.slice (some ⟨g,0,none⟩) n cap) xs (i : Int) oki c
 hK : Kd.S kD29 29 W base oki (.slice A3 ks.length c3) ks
 hg : ∀ k,oki k → k ≠ g
 hok : ok g
 hb : base ≤ g
 hl : c.length = 4
 below : Below base w W
 hbs : base ≤ W.heap.size
 kept : Kept w W ok
section
variable {base : Nat} {ok : Nat → Prop} {g n cap : Nat} {xs : List S29} {i : Nat} {oki : Nat → Prop} {A3 : Option Addr} {c3 : Nat} {ks : List S29} {w W W1 : World} {c : List Value}
theorem MS.at_ (h : MS base ok g n cap xs i oki A3 c3 ks w W c) : (∀ j u,c[j]? = some u → W.cell? ⟨g,i * 4 + j,none⟩ = some u) ∧ ∀ j,W.frozen? ⟨g,i * 4 + j,none⟩ = false:=by
 have hi:=h.hi
 obtain ⟨h1,h2⟩:=Kd.H_at h.hH (by omega) (by omega)
 rw [Int.toNat_natCast] at h1 h2
 exact ⟨h1,h2⟩
theorem MS.put (h : MS base ok g n cap xs i oki A3 c3 ks w W c) (j : Nat) (v : Value) (hj : j < 4) (h1 : v.oneCell' = true) :
  MS base ok g n cap xs i oki A3 c3 ks w (W.setCell ⟨g,i * 4 + j,none⟩ v) (c.take j ++ [v] ++ c.drop (j + 1)):=by
 have hi:=h.hi
 have hl:=h.hl
 obtain ⟨h2,h3⟩:=Kd.H_seg h.hH (by omega) (by omega) (seg:=[v]) (j:=j) (show j + 1 ≤ 4 by omega) (fun q hq => by rw [List.mem_singleton.1 hq];exact h1)
 rw [Int.toNat_natCast] at h2
 exact ⟨hi,h2,Kd.S_far h.hK (p:=⟨g,i * 4 + j,none⟩) h.hg v,h.hg,h.hok,h.hb,by simp only [List.length_append,List.length_take,List.length_drop,List.length_singleton];omega,
  h.below.setCell h.hb _,by have:=h.hbs;simpa [World.setCell] using this,Kept.setCell h.kept (.inl h.hok) _⟩
theorem MS.step (h : MS base ok g n cap xs i oki A3 c3 ks w W c) (hb : Below W.heap.size W W1) : MS base ok g n cap xs i oki A3 c3 ks w W1 c :=
 ⟨h.hi,Kd.H_below h.hH hb,Kd.S_below h.hK hb,h.hg,h.hok,h.hb,h.hl,below_then h.below h.hbs hb,Nat.le_trans h.hbs hb.size,h.kept.below hb⟩
theorem MS.done (h : MS base ok g n cap xs i oki A3 c3 ks w W c) {a b : Int} {s : ByteArray} (hc : c = [.int .i64 a,.string s,.int .i64 b,.slice A3 ks.length c3]) {ks' : List S29} (hB : Below base W W1) (hS : Kd.S kD29 29 W1 base oki (.slice A3 ks.length c3) ks') (hk : Kept W W1 oki) :
  Kd.S kD29 29 W1 base ok (.slice (some ⟨g,0,none⟩) n cap) (xs.set i ⟨a,s,b,ks'⟩) ∧ Below base w W1 ∧ Kept w W1 ok ∧ base ≤ W1.heap.size:=by
 have hH:=Kd.H_kept h.hH hk (fun k _ hn => hn)
 subst hc
 refine ⟨?_,h.below.trans hB,h.kept.then_ hk (fun k hk2 => .inl (hH.1 k hk2)),Nat.le_trans h.hbs hk.1⟩
 have:=Kd.H_back hH (x':=(⟨a,s,b,ks'⟩ : S29)) (okp:=oki) (kD29_mkM W1 base oki ⟨a,s,b,ks'⟩ hS) (fun _ hk => hk)
 rw [Int.toNat_natCast] at this
 exact this
theorem MS.kids_len (h : MS base ok g n cap xs i oki A3 c3 ks w W c) : ks.length ≤ 9223372036854775807:=(Kd.S_reads' h.hK).2.2.2.1
end
theorem ms_new {base : Nat} {ok : Nat → Prop} {g n cap : Nat} {xs : List S29} {i : Nat} {w W : World} (hS : Kd.S kD29 29 W base ok (.slice (some ⟨g,0,none⟩) n cap) xs) (hi : i < n) (hB : Below base w W) (hk : Kept w W ok) (hbs : base ≤ W.heap.size) (x : S29) (hx : xs.getD i z29 = x) :
  ∃ (oki : Nat → Prop) (A3 : Option Addr) (c3 : Nat),MS base ok g n cap xs i oki A3 c3 x.f3 w W [.int .i64 x.f0,.string x.f1,.int .i64 x.f2,.slice A3 x.f3.length c3]:=by
 obtain ⟨oki,ce,hcl,hM,hcc,hfr,hoki,hH⟩:=Kd.S_elem hS z29 (i : Int) (by omega) (by omega)
 rw [Int.toNat_natCast,hx] at hM
 obtain ⟨v3,rfl,hK3⟩:=kD29_openM hM
 obtain ⟨A3,c3,rfl⟩:=Kd.S_slice hK3
 have hR:=Kd.S_R hS
 exact ⟨oki,A3,c3,hi,hH,hK3,fun k hk => (hoki k hk).2,hR.1 g (by simp [Value.ownBlock]),Kd.S_base hS g (by simp [Value.ownBlock]),hcl,hB,hbs,hk⟩
/-! #### markTermS: a row that is the call's own, all the way down, is marked -/
section
set_option linter.unusedSectionVars false
variable [fk_laws_szTerm] [fk_laws_eqTerm] [fk_spec_l34Term] [fk_strconv_Itoa]
def MarkOf (mt : Int → ByteArray) (xs : List S29) : Prop:=∀ (A : Option Addr) (c : Nat) (k : Int) (w : World) (base : Nat) (ok : Nat → Prop),0 < k → k + 3 * (cns29 xs : Int) ≤ 1000000000 → base ≤ w.heap.size → Kd.S kD29 29 w base ok (.slice A xs.length c) xs →
  Calls Tryd.prog 64 #[.slice A xs.length c,.int .i64 k] w fun e w' => e = .returned (.int .i64 (k + 3 * (cns29 xs : Int))) ∧ Kd.S kD29 29 w' base ok (.slice A xs.length c) (mks29 mt xs k) ∧ Below base w w' ∧ Kept w w' ok
set_option maxHeartbeats 8000000 in
set_option maxRecDepth 100000 in
theorem mark_step (mt : Int → ByteArray) (kt : Nat) (hmt : ∀ n : Int,0 < n → n ≤ 1000000000 → laws_markText.f kt n = some (mt n)) (xs : List S29) (ih : ∀ x ∈ xs,MarkOf mt x.f3) : MarkOf mt xs:=by
  intro A c k w base ok hk hk2 hbs hS
  have IH:=Aside0.mk ih
  have HS:=Aside0.mk hS
  have HK:=Aside0.mk hk2
  have hm:=(Kd.S_reads' hS).2.2.2.1
  clear hS hk2 ih
  go_enter Tryd.func64,Tryd.ntmps64
  go_wp2
  go_loopg [1,5] xs.length (fun m v1 v5 w' => ∃ i : Nat,v5 = .int .i64 i ∧ v1 = .int .i64 (k + 3 * (cns29 (xs.take i) : Int)) ∧ Aside0 (m + i = xs.length) ∧ Aside0 (Kd.S kD29 29 w' base ok (.slice A xs.length c) (mks29 mt (xs.take i) k ++ xs.drop i)) ∧ Aside0 (Below base w w') ∧ Aside0 (Kept w w' ok))
  case atStart => exact ⟨0,rfl,by simp [cns29],⟨by omega⟩,⟨by simpa [mks29] using HS.out⟩,⟨Below.refl _ _⟩,⟨⟨Nat.le_refl _,fun _ _ _ => rfl⟩⟩⟩
  case round =>
   clear HS
   obtain ⟨i,rfl,rfl,hi,HA,HB,HK2⟩:=hrel
   by_cases hlt : (i : Int) < (xs.length : Int)
   ·have c3b0 : decide ((i : Int) < (xs.length : Int)) = true:=decide_eq_true hlt
    have hlt' : i < xs.length:=by omega
    have c3b1 : decide (i < xs.length) = true:=decide_eq_true hlt'
    have hlen : (mks29 mt (xs.take i) k ++ xs.drop i).length = xs.length:=by rw [List.length_append,mks29_length,List.length_take,List.length_drop];omega
    obtain ⟨g,hA⟩ : ∃ g,A = some ⟨g,0,none⟩:=by
     obtain ⟨g,cap,e,_⟩:=Kd.S_form HA.out (by rw [hlen];omega)
     injection e with e1
     exact ⟨g,e1⟩
    subst hA
    have hx : (mks29 mt (xs.take i) k ++ xs.drop i).getD i z29 = xs[i]:=by
     rw [List.getD_eq_getElem?_getD,List.getElem?_append_right (by rw [mks29_length,List.length_take];omega),mks29_length,List.length_take,Nat.min_eq_left (by omega),Nat.sub_self,List.drop_eq_getElem_cons hlt']
     rfl
    obtain ⟨oki,A3,c3,hms⟩:=ms_new HA.out hlt' HB.out HK2.out (Nat.le_trans hbs HK2.out.1) xs[i] hx
    have hf0:=hms.at_.2 0
    have hx0:=hms.at_.1 0 _ rfl
    simp only [Nat.add_zero] at hf0 hx0
    have HM:=Aside0.mk hms
    have hcn : cns29 (xs.take i) + cn29 xs[i] ≤ cns29 xs:=by
     have:=cns29_append (xs.take i) (xs.drop i)
     rw [List.take_append_drop,List.drop_eq_getElem_cons hlt',cns29] at this
     omega
    have hcs:=cn29_eq xs[i]
    have HCN:=Aside0.mk hcn
    have HCS:=Aside0.mk hcs
    clear hlen hms hx hcn hcs
    generalize hki : k + 3 * (cns29 (xs.take i) : Int) = ki
    have HKI:=Aside0.mk hki
    have e1 : wrap64 (ki + 1) = ki + 1:=t_wrap (by omega) (by have:=HK.out;have:=HCN.out;omega)
    have e2 : wrap64 (wrap64 (ki + 1) + 1) = ki + 2:=by rw [e1,t_wrap (by have:=HKI.out;omega) (by have:=HK.out;have:=HCN.out;omega)];omega
    have e3 : wrap64 (wrap64 (wrap64 (ki + 1) + 1) + 1) = ki + 3:=by rw [e2,t_wrap (by have:=HKI.out;omega) (by have:=HK.out;have:=HCN.out;omega)];omega
    have hr1 : laws_markText.f kt (wrap64 (ki + 1)) = some (mt (ki + 1)):=by rw [e1];exact hmt _ (by have:=HKI.out;omega) (by have:=HK.out;have:=HCN.out;have:=HCS.out;omega)
    have E2:=Aside0.mk e2
    have E3:=Aside0.mk e3
    have E1:=Aside0.mk e1
    have HR1:=Aside0.mk hr1
    clear hki hr1 e1 e2 e3
    go_wp2_with (first
     | ((with_reducible refine gate_store (t := 3) (p := 16) rfl ?_); refine store_event (t := 3) (p := 16) (v := ?vo1) (w1 := wr.setCell ⟨g, i * 4, none⟩ (.int .i64 ki)) ?hg ?ho ?hn ?hr ?_; (case ho => rfl); (case hg => rfl); (case hn => rfl); (case hr => first | (go_simp; done) | (go_simp; rfl)); intro w2 hw2; have HM' := Aside0.mk (HM.out.put 0 (.int .i64 ki) (by decide) rfl); rw [Nat.add_zero, ← hw2] at HM'; clear HM hw2 hf0 hx0; have HM := HM'; clear HM')
     | ((with_reducible refine gate_callee (f := 68) rfl ?_); refine goesL_ (some 22) rfl rfl Tryd.func68 (by kernel_rfl) rfl #[.int .i64 (wrap64 (ki + 1))] rfl (by (try simp only [List.map_toArray, List.map_cons, List.map_nil]); first | done | rfl) ?_; refine (laws_markText.calls kt (wrap64 (ki + 1)) (mt (ki + 1)) _ HR1.out).mono ?_; rintro e w3 ⟨rfl, hb3⟩; refine ⟨_, rfl, ?_⟩; have HM' := Aside0.mk (HM.out.step hb3); clear HM hb3; have HM := HM'; clear HM'; have hf1 := HM.out.at_.2 1; have hx1 := HM.out.at_.1 1 _ rfl)
     | ((with_reducible refine gate_store (t := 9) (p := 24) rfl ?_); refine store_event (t := 9) (p := 24) (v := ?vo2) (w1 := w3.setCell ⟨g, i * 4 + 1, none⟩ (.string (mt (ki + 1)))) ?hg ?ho ?hn ?hr ?_; (case ho => rfl); (case hg => rfl); (case hn => rfl); (case hr => first | (go_simp; done) | (go_simp; rfl)); intro w4 hw4; have HM' := Aside0.mk (HM.out.put 1 (.string (mt (ki + 1))) (by decide) rfl); rw [← hw4] at HM'; clear HM hw4 hf1 hx1; have HM := HM'; clear HM'; have hf2 := HM.out.at_.2 2; have hx2 := HM.out.at_.1 2 _ rfl)
     | ((with_reducible refine gate_store (t := 3) (p := 31) rfl ?_); refine store_event (t := 3) (p := 31) (v := ?vo3) (w1 := w4.setCell ⟨g, i * 4 + 2, none⟩ (.int .i64 (wrap64 (wrap64 (ki + 1) + 1)))) ?hg ?ho ?hn ?hr ?_; (case ho => rfl); (case hg => rfl); (case hn => rfl); (case hr => first | (go_simp; done) | (go_simp; rfl)); intro w5 hw5; have HM' := Aside0.mk (HM.out.put 2 (.int .i64 (wrap64 (wrap64 (ki + 1) + 1))) (by decide) rfl); rw [← hw5] at HM'; clear HM hw5 hf2 hx2; have HM := HM'; clear HM'; have hx3 := HM.out.at_.1 3 _ rfl)
     | ((with_reducible refine gate_callee (f := 64) rfl ?_); refine goesL_ (some 40) rfl rfl Tryd.func64 (by kernel_rfl) rfl #[.slice A3 xs[i].f3.length c3, .int .i64 (wrap64 (wrap64 (wrap64 (ki + 1) + 1) + 1))] rfl (by (try simp only [List.map_toArray, List.map_cons, List.map_nil]); first | done | rfl) ?_; refine (IH.out xs[i] (List.getElem_mem hlt') A3 c3 (wrap64 (wrap64 (wrap64 (ki + 1) + 1) + 1)) _ base oki ?s2 ?s3 HM.out.hbs HM.out.hK).mono ?_; (case s2 => rw [E3.out]; have := HKI.out; omega); (case s3 => rw [E3.out]; have := HK.out; have := HCN.out; have := HCS.out; have := HKI.out; omega); rintro e w6 ⟨rfl, hs6, hb6, hk6⟩; refine ⟨_, rfl, ?_⟩))
    obtain ⟨hs7,hb7,hk7,hz7⟩:=HM.out.done rfl hb6 hs6 hk6
    rw [E3.out,E2.out] at hs7
    have hq:=marks_set mt xs k i hlt'
    rw [HKI.out,mk29_eq] at hq
    rw [hq] at hs7
    go_roundg (xs.length - (i + 1))
    case measure => have:=hi.out;omega
    case rel => exact ⟨i + 1,by go_num,by rw [E3.out,marks_take xs i hlt'];have:=HKI.out;congr 1;push_cast;omega,⟨by have:=hi.out;omega⟩,⟨hs7⟩,⟨hb7⟩,⟨hk7⟩⟩
   ·have c3b0 : decide ((i : Int) < (xs.length : Int)) = false:=decide_eq_false hlt
    have c3b1 : decide (i < xs.length) = false:=decide_eq_false (by omega)
    go_wp2
    go_ret
    have he : xs.length ≤ i:=by omega
    have hS:=HA.out
    rw [List.take_of_length_le he,List.drop_eq_nil_of_le he,List.append_nil] at hS
    exact ⟨by rw [List.take_of_length_le he];rfl,hS,HB.out,HK2.out⟩
theorem mark_calls (mt : Int → ByteArray) (kt : Nat) (hmt : ∀ n : Int,0 < n → n ≤ 1000000000 → laws_markText.f kt n = some (mt n)) (n : Nat) : ∀ xs : List S29,hts29 xs ≤ n → MarkOf mt xs:=by
 induction n with
 | zero =>
  intro xs h
  refine mark_step mt kt hmt xs (fun x hx => ?_)
  have:=hts29_mem hx
  have:=ht29_eq x
  omega
 | succ n ih =>
  intro xs h
  refine mark_step mt kt hmt xs (fun x hx => ih x.f3 ?_)
  have:=hts29_mem hx
  have:=ht29_eq x
  omega
end
/-! #### markText tells a text; what was marked is held -/
section
set_option linter.unusedSectionVars false
variable [fk_laws_szTerm] [fk_laws_eqTerm] [fk_spec_l34Term] [fk_strconv_Itoa]
theorem markText_l (d : Nat) : ∀ (x : Int) (s : ByteArray),0 ≤ x → x ≤ 1000000000 → x < 10 ^ d → s.size + d ≤ 100 → ∃ r,laws_markText.l0 (d + 1) x s = some r:=by
 induction d with
 | zero =>
  intro x s h0 hb h1 hs
  obtain rfl : x = 0:=by omega
  exact ⟨⟨#[109]⟩ ++ s,by simp only [laws_markText.l0];rw [if_neg (by omega),if_pos (by omega)]⟩
 | succ d ih =>
  intro x s h0 hb h1 hs
  by_cases c : x > 0
  ·have hd : wrap64 (Int.tdiv x 10) = x / 10:=by
    rw [Int.tdiv_eq_ediv_of_nonneg h0]
    exact t_wrap (by omega) (by omega)
   have hq : x / 10 < 10 ^ d:=by
    rw [Int.pow_succ] at h1
    omega
   obtain ⟨r,hr⟩:=ih (x / 10) ((strOfNums [(wrap64 (48 + (Int.tmod x 10))) % 256]) ++ s) (by omega) (by omega) hq (by rw [ByteArray.size_append];have : (strOfNums [(wrap64 (48 + (Int.tmod x 10))) % 256]).size = 1:=rfl;omega)
   refine ⟨r,?_⟩
   simp only [laws_markText.l0,Option.bind_some]
   have h3 : (strOfNums [(wrap64 (48 + (Int.tmod x 10))) % 256]).size = 1:=rfl
   rw [if_pos c,if_pos (by omega),hd]
   exact hr
  ·refine ⟨⟨#[109]⟩ ++ s,?_⟩
   simp only [laws_markText.l0]
   rw [if_neg c,if_pos (by omega)]
def mtx (n : Int) : ByteArray:=(laws_markText.f 11 n).getD ⟨#[]⟩
theorem mtx_ok (n : Int) (h0 : 0 < n) (h1 : n ≤ 1000000000) : laws_markText.f 11 n = some (mtx n):=by
 obtain ⟨r,hr⟩:=markText_l 10 n ⟨#[]⟩ (by omega) h1 (by omega) (by decide)
 have : laws_markText.f 11 n = some r:=by
  unfold laws_markText.f
  rw [if_neg (by omega)]
  exact hr
 unfold mtx
 rw [this]
 rfl
theorem mtx_ev (n : Int) (h0 : 0 < n) (h1 : n ≤ 1000000000) : Ev (fun k => laws_markText.f k n) (mtx n):=Ev.of (fun k => laws_markText.mono n k) (mtx_ok n h0 h1)
theorem mks29_get (mt : Int → ByteArray) : ∀ (xs : List S29) (k : Int) (i : Nat) (h : i < xs.length),(mks29 mt xs k)[i]'(by rw [mks29_length];exact h) = mk29 mt xs[i] (k + 3 * (cns29 (xs.take i) : Int))
 | t :: ts, k, 0, _ => by simp only [mks29, List.getElem_cons_zero, List.take_zero, cns29]; congr 1; omega
 | t :: ts, k, i + 1, h => by
  simp only [mks29,List.getElem_cons_succ,List.take_succ_cons,cns29]
  rw [mks29_get mt ts _ i (by simpa using h)]
  congr 1
  push_cast
  omega
theorem cns29_take_le (xs : List S29) (i : Nat) : cns29 (xs.take i) ≤ cns29 xs:=by
 have:=cns29_append (xs.take i) (xs.drop i)
 rw [List.take_append_drop] at this
 omega
def HeldOf (xs : List S29) : Prop:=∀ k0 : Int,0 < k0 → k0 + 3 * (cns29 xs : Int) ≤ 1000000000 → Ev (fun k => laws_heldTermS.f k (mks29 mtx xs k0) k0) (k0 + 3 * (cns29 xs : Int))
theorem held_step (xs : List S29) (hlen : xs.length ≤ 1048576) (ih : ∀ x ∈ xs,HeldOf x.f3) : HeldOf xs:=by
 intro k0 h0 h1
 have hl : ∀ (d i : Nat),i ≤ xs.length → xs.length - i = d → Ev (fun k => laws_heldTermS.l0 k (mks29 mtx xs k0) (k0 + 3 * (cns29 (xs.take i) : Int)) i) (k0 + 3 * (cns29 xs : Int)):=by
  intro d
  induction d with
  | zero =>
   intro i hi hd
   refine Ev.step (f:=fun _ => some (k0 + 3 * (cns29 xs : Int))) (fun k => ?_) (Ev.now _)
   simp only [laws_heldTermS.l0]
   rw [if_neg (by rw [mks29_length];omega),List.take_of_length_le (by omega)]
  | succ d ihd =>
   intro i hi hd
   have hlt : i < xs.length:=by omega
   have hcn:=cns29_take_le xs (i + 1)
   have htk:=marks_take xs i hlt
   obtain ⟨ki,hki⟩ : ∃ ki : Int,ki = k0 + 3 * (cns29 (xs.take i) : Int):=⟨_,rfl⟩
   have e1 : wrap64 (ki + 1) = ki + 1:=t_wrap (by omega) (by omega)
   have e2 : wrap64 (ki + 1 + 1) = ki + 2:=by rw [t_wrap (by omega) (by omega)];omega
   have e3 : wrap64 (ki + 2 + 1) = ki + 3:=by rw [t_wrap (by omega) (by omega)];omega
   have hx : rd_T29 (mks29 mtx xs k0) (i : Int) = mk29 mtx xs[i] ki:=by rw [rd29_at _ _ (by rw [mks29_length];exact hlt),mks29_get mtx xs k0 i hlt,hki]
   rw [← hki]
   refine Ev.step (f:=fun k => (laws_markText.f k (ki + 1)).bind fun t212 => (if (mtx (ki + 1)).toList = t212.toList then ((laws_heldTermS.f k (mks29 mtx xs[i].f3 (ki + 3)) (ki + 3)).bind fun t215 => (if t215 < 0 then (some (-1)) else (laws_heldTermS.l0 k (mks29 mtx xs k0) t215 ((i + 1 : Nat) : Int)))) else (some (-1)))) (fun k => ?_) ?_
   ·simp only [laws_heldTermS.l0]
    rw [if_pos (by rw [mks29_length];omega),if_pos (by omega),hx,mk29_eq,next_i i _ hlt hlen]
    simp only [e1,e2,e3,if_true]
   ·refine Ev.bind (f:=fun k t212 => (if (mtx (ki + 1)).toList = t212.toList then ((laws_heldTermS.f k (mks29 mtx xs[i].f3 (ki + 3)) (ki + 3)).bind fun t215 => (if t215 < 0 then (some (-1)) else (laws_heldTermS.l0 k (mks29 mtx xs k0) t215 ((i + 1 : Nat) : Int)))) else (some (-1)))) (mtx_ev (ki + 1) (by omega) (by omega)) ?_
    refine Ev.congr (fun k => if_pos rfl) ?_
    refine Ev.bind (f:=fun k t215 => (if t215 < 0 then (some (-1)) else (laws_heldTermS.l0 k (mks29 mtx xs k0) t215 ((i + 1 : Nat) : Int)))) (ih xs[i] (List.getElem_mem hlt) (ki + 3) (by omega) (by omega)) ?_
    refine Ev.congr (fun k => if_neg (by omega)) ?_
    have:=ihd (i + 1) (by omega) (by omega)
    have e : ki + 3 + 3 * (cns29 xs[i].f3 : Int) = k0 + 3 * (cns29 (xs.take (i + 1)) : Int):=by rw [htk,hki];push_cast;omega
    rw [e]
    exact this
 refine Ev.step (f:=fun k => laws_heldTermS.l0 k (mks29 mtx xs k0) k0 0) (fun k => by simp only [laws_heldTermS.f]) ?_
 have:=hl xs.length 0 (by omega) (by omega)
 rw [List.take_zero,cns29] at this
 simpa using this
theorem held_ev (n : Nat) : ∀ xs : List S29,hts29 xs ≤ n → cns29 xs ≤ 1048576 → HeldOf xs:=by
 induction n with
 | zero =>
  intro xs h hc
  refine held_step xs ?_ (fun x hx => ?_)
  ·cases xs with
   | nil => simp
   | cons t ts => rw [hts29] at h; have := ht29_eq t; omega
  ·have:=hts29_mem hx
   have:=ht29_eq x
   omega
 | succ n ih =>
  intro xs h hc
  refine held_step xs (by have:=cns29_len xs;omega) (fun x hx => ih x.f3 ?_ ?_)
  ·have:=hts29_mem hx;have:=ht29_eq x;omega
  ·have:=cns29_mem hx;have:=cn29_eq x;omega
end
/-! #### what a row tells to who reads it -/
theorem readS {e : Nat} {w : World} {base : Nat} {ok : Nat → Prop} {A : Option Addr} {n c : Nat} {xs : List S29} (h : Kd.S kD29 e w base ok (.slice A n c) xs) : n ≤ c ∧ Kd.C k29 w A n xs:=by
 obtain ⟨h1,h2,h3⟩:=Kd.S_reads' h
 rw [h1]
 exact ⟨by omega,kD29_C h3⟩
theorem readR {e : Nat} {w : World} {base : Nat} {ok : Nat → Prop} {A : Option Addr} {n c : Nat} {xs : List S29} (h : k29.R e w base ok (.slice A n c) xs) : n ≤ c ∧ Kd.C k29 w A n xs:=by
 obtain ⟨h1,h2,h3⟩:=Kd.R_reads' h
 rw [h1]
 exact ⟨by omega,h3⟩
theorem readV {e : Nat} {w : World} {base : Nat} {ok : Nat → Prop} {A : Option Addr} {n c : Nat} {xs : List S29} (h : Kd.V k29 e w base ok (.slice A n c) xs) : n ≤ c ∧ Kd.C k29 w A n xs:=by
 obtain ⟨h1,h2,h3⟩:=Kd.V_reads' h
 rw [h1]
 exact ⟨by omega,h3⟩
/-! #### two in line, whose blocks are apart -/
def pairA {α β : Type} (a : Kd α) (b : Kd β) : Kd (α × β) where
 sz:=a.sz + b.sz
 E:=a.E ++ b.E
 K:=fun w x cs => ∃ c0 c1,cs = c0 ++ c1 ∧ a.K w x.1 c0 ∧ b.K w x.2 c1
 M:=fun w base ok x cs => ∃ (p : Nat → Prop) (c0 c1 : List Value),cs = c0 ++ c1 ∧ a.M w base (fun k => ok k ∧ p k) x.1 c0 ∧ b.M w base (fun k => ok k ∧ ¬ p k) x.2 c1
 K_len:=by
  rintro w x cs ⟨c0,c1,rfl,h0,h1⟩
  rw [List.length_append,a.K_len h0,b.K_len h1]
 K_one:=by
  rintro w x cs ⟨c0,c1,rfl,h0,h1⟩ u hu
  rcases List.mem_append.1 hu with hu|hu
  ·exact a.K_one h0 u hu
  ·exact b.K_one h1 u hu
 K_below:=by
  rintro w w1 x cs hb ⟨c0,c1,rfl,h0,h1⟩
  exact ⟨c0,c1,rfl,a.K_below hb h0,b.K_below hb h1⟩
 K_of_M:=by
  rintro w base ok x cs ⟨p,c0,c1,rfl,h0,h1⟩
  exact ⟨c0,c1,rfl,a.K_of_M h0,b.K_of_M h1⟩
 M_mono:=by
  rintro w base ok ok' x cs hok ⟨p,c0,c1,rfl,h0,h1⟩
  exact ⟨p,c0,c1,rfl,a.M_mono (fun k hk => ⟨hok k hk.1,hk.2⟩) h0,b.M_mono (fun k hk => ⟨hok k hk.1,hk.2⟩) h1⟩
 M_bound:=by
  rintro w base ok x cs ⟨p,c0,c1,rfl,h0,h1⟩
  refine ⟨p,c0,c1,rfl,a.M_mono ?_ (a.M_bound h0),b.M_mono ?_ (b.M_bound h1)⟩
  ·rintro k ⟨h2,h3,h4,q,hq,hc⟩
   exact ⟨⟨h2.1,h3,h4,q,List.mem_append_left _ hq,hc⟩,h2.2⟩
  ·rintro k ⟨h2,h3,h4,q,hq,hc⟩
   exact ⟨⟨h2.1,h3,h4,q,List.mem_append_right _ hq,hc⟩,h2.2⟩
 M_move:=by
  rintro w w1 base ok x cs hm ⟨p,c0,c1,rfl,h0,h1⟩
  exact ⟨p,c0,c1,rfl,a.M_move (fun k hk => hm k hk.1) h0,b.M_move (fun k hk => hm k hk.1) h1⟩
 M_lower:=by
  rintro w base base' ok x cs hb ⟨p,c0,c1,rfl,h0,h1⟩
  exact ⟨p,c0,c1,rfl,a.M_lower hb h0,b.M_lower hb h1⟩
/-! #### a clause whose rows are its own: head and body share no block -/
def kD59 : Kd S48:=Kd.iso (pairA kD29 (Kd.pair kD29 Kd.string)) (fun x : S48 => (x.f0,x.f1,x.f2))
theorem kD59_openM {w : World} {base : Nat} {ok : Nat → Prop} {x : S48} {cs : List Value} (h : kD59.M w base ok x cs) : ∃ (p : Nat → Prop) (v3 v7 : Value),cs = [.int .i64 x.f0.f0,.string x.f0.f1,.int .i64 x.f0.f2,v3,.int .i64 x.f1.f0,.string x.f1.f1,.int .i64 x.f1.f2,v7,.string x.f2] ∧ Kd.S kD29 29 w base (fun k => ok k ∧ p k) v3 x.f0.f3 ∧ Kd.S kD29 29 w base (fun k => ok k ∧ ¬ p k) v7 x.f1.f3:=by
 obtain ⟨p,_,_,rfl,s0,⟨_,_,rfl,s4,rfl⟩⟩:=h
 obtain ⟨v3,rfl,g3⟩:=kD29_openM s0
 obtain ⟨v7,rfl,g7⟩:=kD29_openM s4
 exact ⟨p,v3,v7,rfl,g3,g7⟩
theorem kD59_mkM (w : World) (base : Nat) (ok p : Nat → Prop) (x : S48) {v3 v7 : Value} (g3 : Kd.S kD29 29 w base (fun k => ok k ∧ p k) v3 x.f0.f3) (g7 : Kd.S kD29 29 w base (fun k => ok k ∧ ¬ p k) v7 x.f1.f3) : kD59.M w base ok x [.int .i64 x.f0.f0,.string x.f0.f1,.int .i64 x.f0.f2,v3,.int .i64 x.f1.f0,.string x.f1.f1,.int .i64 x.f1.f2,v7,.string x.f2] :=
 ⟨p,[.int .i64 x.f0.f0,.string x.f0.f1,.int .i64 x.f0.f2,v3],[.int .i64 x.f1.f0,.string x.f1.f1,.int .i64 x.f1.f2,v7,.string x.f2],rfl,kD29_mkM w base _ x.f0 g3,⟨[.int .i64 x.f1.f0,.string x.f1.f1,.int .i64 x.f1.f2,v7],[.string x.f2],rfl,kD29_mkM w base _ x.f1 g7,rfl⟩⟩
theorem kD59_K {w : World} {x : S48} {cs : List Value} (h : kD59.K w x cs) : k48.K w x cs:=by
 obtain ⟨c0,_,rfl,s0,⟨c1,c2,rfl,s4,s8⟩⟩:=h
 exact ⟨c0,c1 ++ c2,rfl,kD29_K s0,⟨c1,c2,rfl,kD29_K s4,s8⟩⟩
theorem kD59_C {w : World} {A : Option Addr} {n : Nat} {xs : List S48} (h : Kd.C kD59 w A n xs) : Kd.C k48 w A n xs:=Kd.C_imp (d:=kD59) (d':=k48) rfl (fun _ _ _ hp => kD59_K hp) h
theorem kD59_M {w : World} {base : Nat} {ok : Nat → Prop} {x : S48} {cs : List Value} (h : kD59.M w base ok x cs) : k48.M w base ok x cs:=by
 obtain ⟨p,c0,_,rfl,s0,⟨c1,c2,rfl,s4,s8⟩⟩:=h
 exact ⟨c0,c1 ++ c2,rfl,k29.M_mono (fun k hk => hk.1) (kD29_M s0),⟨c1,c2,rfl,k29.M_mono (fun k hk => hk.1) (kD29_M s4),s8⟩⟩
theorem S_k59 {e : Nat} {w : World} {base : Nat} {ok : Nat → Prop} {v : Value} {xs : List S48} (h : Kd.S kD59 e w base ok v xs) : k48.R e w base ok v xs:=Kd.R_imp (d:=kD59) (d':=k48) rfl (fun _ _ _ _ _ hp => kD59_M hp) (Kd.S_R h)
theorem readS59 {e : Nat} {w : World} {base : Nat} {ok : Nat → Prop} {A : Option Addr} {n c : Nat} {xs : List S48} (h : Kd.S kD59 e w base ok (.slice A n c) xs) : n ≤ c ∧ Kd.C k48 w A n xs:=by
 obtain ⟨h1,h2,h3⟩:=Kd.S_reads' h
 rw [h1]
 exact ⟨by omega,kD59_C h3⟩
/-- A clause of a row is stored anew: what it leads to is new since the row was last written. -/
theorem S_store59 {W : World} {base N M g n cap : Nat} {xs : List S48} (i : Nat) (hS : Kd.S kD59 48 W base (fun k => k < N) (.slice (some ⟨g,0,none⟩) n cap) xs) (hi : i < n) (x : S48) (v3 v7 : Value)
  (h3 : Kd.S kD29 29 W base (fun k => N ≤ k ∧ k < M) v3 x.f0.f3) (h7 : Kd.S kD29 29 W base (fun k => N ≤ k ∧ ¬ k < M) v7 x.f1.f3) (hg : g < N) :
  Kd.S kD59 48 (W.setCells g (i * 9) [.int .i64 x.f0.f0,.string x.f0.f1,.int .i64 x.f0.f2,v3,.int .i64 x.f1.f0,.string x.f1.f1,.int .i64 x.f1.f2,v7,.string x.f2]) base (fun _ => True) (.slice (some ⟨g,0,none⟩) n cap) (xs.set i x) ∧ W.grownBy (W.setCells g (i * 9) [.int .i64 x.f0.f0,.string x.f0.f1,.int .i64 x.f0.f2,v3,.int .i64 x.f1.f0,.string x.f1.f1,.int .i64 x.f1.f2,v7,.string x.f2]) (some g):=by
 have hS2 : Kd.S kD59 48 W base (fun k => True ∧ ¬ (N ≤ k)) (.slice (some ⟨g,0,none⟩) n cap) xs:=Kd.S_mono hS (fun k hk => ⟨trivial,by omega⟩)
 obtain ⟨oki,c,hcl,hM,hcc,hfr,hoki,hH⟩:=Kd.S_elem hS2 z48 (i : Int) (by omega) (by omega)
 obtain ⟨L,hL⟩ : ∃ L,L = [Value.int .i64 x.f0.f0,.string x.f0.f1,.int .i64 x.f0.f2,v3,.int .i64 x.f1.f0,.string x.f1.f1,.int .i64 x.f1.f2,v7,.string x.f2]:=⟨_,rfl⟩
 rw [← hL]
 have hLl : L.length = 9:=by rw [hL];rfl
 have h:=Kd.S_seg (okg:=fun k => N ≤ k) (seg:=L) (j:=0) (x':=x) (okp:=fun k => N ≤ k) hH (by omega) (by omega) (show 0 + L.length ≤ 9 by omega)
  (by
   have e : c.take 0 ++ L ++ c.drop (0 + L.length) = L:=by
    have hcl9 : c.length = 9:=hcl
    rw [List.take_zero,List.nil_append,List.drop_eq_nil_of_le (by omega),List.append_nil]
   rw [e,hL]
   exact kD59_mkM W base (fun k => N ≤ k) (fun k => k < M) x h3 h7)
  (fun k hk => .inr hk) (fun k hk => ⟨trivial,by omega⟩)
 rw [Int.toNat_natCast] at h
 exact h
/-! #### laws.toTerm, laws.toTermS: the copy, with rows apart -/
/-- Element i of a row is stored anew: what it leads to is new since the row was last written. -/
theorem S_store {W : World} {base N g n cap : Nat} {xs : List S29} (i : Nat) (hS : Kd.S kD29 29 W base (fun k => k < N) (.slice (some ⟨g,0,none⟩) n cap) xs) (hi : i < n) (x : S29) (v3 : Value) (hK : Kd.S kD29 29 W base (fun k => N ≤ k) v3 x.f3) (hg : g < N) :
  Kd.S kD29 29 (W.setCells g (i * 4) [.int .i64 x.f0,.string x.f1,.int .i64 x.f2,v3]) base (fun _ => True) (.slice (some ⟨g,0,none⟩) n cap) (xs.set i x) ∧ W.grownBy (W.setCells g (i * 4) [.int .i64 x.f0,.string x.f1,.int .i64 x.f2,v3]) (some g):=by
 have hS2 : Kd.S kD29 29 W base (fun k => True ∧ ¬ (N ≤ k)) (.slice (some ⟨g,0,none⟩) n cap) xs:=Kd.S_mono hS (fun k hk => ⟨trivial,by omega⟩)
 obtain ⟨oki,c,hcl,hM,hcc,hfr,hoki,hH⟩:=Kd.S_elem hS2 z29 (i : Int) (by omega) (by omega)
 have h:=Kd.S_seg (okg:=fun k => N ≤ k) (seg:=[.int .i64 x.f0,.string x.f1,.int .i64 x.f2,v3]) (j:=0) (x':=x) (okp:=fun k => N ≤ k) hH (by omega) (by omega) (show 0 + 4 ≤ 4 by omega)
  (by
   have e : c.take 0 ++ [.int .i64 x.f0,.string x.f1,.int .i64 x.f2,v3] ++ c.drop (0 + [Value.int .i64 x.f0,.string x.f1,.int .i64 x.f2,v3].length) = [.int .i64 x.f0,.string x.f1,.int .i64 x.f2,v3]:=by
    have hcl4 : c.length = 4:=hcl
    rw [List.take_zero,List.nil_append,List.drop_eq_nil_of_le (by simp;omega),List.append_nil]
   rw [e]
   exact kD29_mkM W base _ x hK)
  (fun k hk => .inr hk) (fun k hk => ⟨trivial,by omega⟩)
 rw [Int.toNat_natCast] at h
 exact h
section
set_option linter.unusedSectionVars false
variable [fk_laws_szTerm] [fk_laws_eqTerm] [fk_spec_l34Term] [fk_strconv_Itoa]
def ToOf (xs : List S24) : Prop:=∀ (A : Option Addr) (c : Nat) (w : World),Kd.C k24 w A xs.length xs → xs.length ≤ c →
 Calls Tryd.prog 44 #[.slice A xs.length c] w fun e w' => ∃ v,e = .returned v ∧ Kd.S kD29 29 w' w.heap.size (fun _ => True) v (tos29 xs) ∧ Below w.heap.size w w'
def ToT (t : S24) : Prop:=∀ (A : Option Addr) (c : Nat) (w : World),Kd.C k24 w A t.f3.length t.f3 → t.f3.length ≤ c →
 Calls Tryd.prog 12 #[.agg #[.int .i64 t.f0,.string t.f1,.int .i64 t.f2,.slice A t.f3.length c]] w fun e w' => ∃ v,e = .returned (.agg #[.int .i64 t.f0,.string t.f1,.int .i64 t.f2,v]) ∧ Kd.S kD29 29 w' w.heap.size (fun _ => True) v (tos29 t.f3) ∧ Below w.heap.size w w'
set_option maxHeartbeats 8000000 in
set_option maxRecDepth 100000 in
theorem to_step (xs : List S24) (hlen : xs.length ≤ 1048576) (ih : ∀ x ∈ xs,ToT x) : ToOf xs:=by
 intro A c w hC hc
 have IH:=Aside0.mk ih
 have HC:=Aside0.mk hC
 have HCC:=Aside0.mk hc
 have HL:=Aside0.mk hlen
 have HB:=Aside0.mk (Below.refl w.heap.size w)
 clear hC hc ih hlen
 go_enter Tryd.func44,Tryd.ntmps44
 go_wp2_with (first
  | ((with_reducible refine gate_dst (N := 7) rfl ?_); refine Kd.S_make kD29 _ 29 rfl (N := 7) rfl 27 _ _ rfl (xs.length : Int) rfl rfl Tryd.underlying27 (.agg #[(.int .i64 0), (.string ⟨#[]⟩), (.int .i64 0), (.slice none 0 0)]) 56 info29 rfl (by decide) (by decide) z29 (ok := fun _ => True) (okp := fun _ => True) (kD29_leaf _ _ _ 0 ⟨#[]⟩ 0) (fun _ hk => hk) trivial (by omega) (by have := HL.out; rw [Int.toNat_natCast]; omega) (Below.refl _ _) (Nat.le_refl _) ?_; intro v1 w6 hS hb6 hg_ hnew; clear hg_ hnew; obtain ⟨A1, c1, rfl⟩ := Kd.S_slice hS; have HS := Aside0.mk hS; have HB6 := Aside0.mk hb6; clear hS hb6))
 rw [Int.toNat_natCast,List.length_replicate] at HS
 go_loopg [4] xs.length (fun m v4 w' => ∃ i : Nat,v4 = .int .i64 i ∧ Aside0 (m + i = xs.length) ∧ Aside0 (Kd.S kD29 29 w' w.heap.size (fun _ => True) (.slice A1 xs.length c1) (tos29 (xs.take i) ++ List.replicate (xs.length - i) z29)) ∧ Aside0 (Below w.heap.size w w'))
 case atStart => exact ⟨0,rfl,⟨by omega⟩,⟨by simpa [tos29] using Kd.S_lower HS.out HB.out.size⟩,⟨below_step HB.out HB6.out⟩⟩
 case round =>
  clear HS HB6 HB
  obtain ⟨i,rfl,hi,HA,HB⟩:=hrel
  by_cases hlt : (i : Int) < (xs.length : Int)
  ·have c3b0 : decide ((i : Int) < (xs.length : Int)) = true:=decide_eq_true hlt
   have hlt' : i < xs.length:=by omega
   have c3b1 : decide (i < xs.length) = true:=decide_eq_true hlt'
   have hl1 : (tos29 (xs.take i)).length = i:=by rw [tos29_length,List.length_take];omega
   have hlen : (tos29 (xs.take i) ++ List.replicate (xs.length - i) z29).length = xs.length:=by rw [List.length_append,hl1,List.length_replicate];omega
   obtain ⟨g,hA,hgl⟩ : ∃ g,A1 = some ⟨g,0,none⟩ ∧ g < wr.heap.size:=by
    obtain ⟨g,cap,e,_,hg,_⟩:=Kd.S_form HA.out (by rw [hlen];omega)
    injection e with e1
    exact ⟨g,e1,hg⟩
   subst hA
   obtain ⟨ad,A3,c3,e3,hx0,hx1,hx2,hx3,hl3,hi3⟩:=at_T24 HC.out (i : Int) (by omega) hlt
   cases e3
   rw [rd24_at xs i hlt'] at hx0 hx1 hx2 hx3 hl3 hi3
   simp only [Int.toNat_natCast] at hx0 hx1 hx2 hx3
   replace hx0:=(HB.out.cell (World.block_lt_of_cell? w _ hx0)).trans hx0
   replace hx1:=(HB.out.cell (World.block_lt_of_cell? w _ hx1)).trans hx1
   replace hx2:=(HB.out.cell (World.block_lt_of_cell? w _ hx2)).trans hx2
   replace hx3:=(HB.out.cell (World.block_lt_of_cell? w _ hx3)).trans hx3
   have HI3:=Aside0.mk (Kd.C_below hi3 HB.out)
   have HL3:=Aside0.mk hl3
   have HGL:=Aside0.mk hgl
   have HLEN:=Aside0.mk hlen
   have HL1:=Aside0.mk hl1
   clear hi3 hl3 hgl hlen hl1
   have p1 : (0 : Int) ≤ (i : Int):=by omega
   go_wp2_with (first
    | ((with_reducible refine gate_callee (f := 12) rfl ?_); refine goesL_ (some 20) rfl rfl Tryd.func12 (by kernel_rfl) rfl #[.agg #[.int .i64 xs[i].f0, .string xs[i].f1, .int .i64 xs[i].f2, .slice A3 xs[i].f3.length c3]] rfl (by (try simp only [List.map_toArray, List.map_cons, List.map_nil]); first | done | rfl) ?_; refine (IH.out xs[i] (List.getElem_mem hlt') A3 c3 _ HI3.out HL3.out).mono ?_; rintro e w2 ⟨v4, rfl, ho0, hb⟩; refine ⟨_, rfl, ?_⟩; obtain ⟨A4, c4, rfl⟩ := Kd.S_slice ho0; have HO := Aside0.mk (Kd.S_mono (ok' := fun k_ => k_ < wr.heap.size) (Kd.S_old HA.out hb) (fun k_ hk_ => hk_.2)); have HN := Aside0.mk (Kd.S_lower (Kd.S_mono (ok' := fun k_ => wr.heap.size ≤ k_) (Kd.S_bound ho0) (fun k_ hk_ => hk_.2.1)) HB.out.size); have HB' := Aside0.mk (below_step HB.out hb); have HE := Kd.S_elem HO.out z29 (i : Int) (by omega) (by omega); obtain ⟨oki_, ce_, hcl_, hM_, hcc_, hfr_, _, _⟩ := HE; obtain ⟨ve_, rfl, _⟩ := kD29_openM hM_; rw [Int.toNat_natCast] at hcc_ hfr_; have hy0 := hcc_ 0 _ rfl; have hy1 := hcc_ 1 _ rfl; have hy2 := hcc_ 2 _ rfl; have hy3 := hcc_ 3 _ rfl; have hf0 := hfr_ 0; have hf1 := hfr_ 1; have hf2 := hfr_ 2; have hf3 := hfr_ 3; simp only [show kD29.sz = 4 from rfl, Nat.add_zero] at hy0 hy1 hy2 hy3 hf0 hf1 hf2 hf3; clear hcc_ hfr_ hM_ hcl_ hb ho0)
    | ((with_reducible refine gate_store (t := 29) (p := 21) rfl ?_); refine store_event (t := 29) (p := 21) (v := ?vo1) (w1 := w2.setCells g (i * 4) [.int .i64 xs[i].f0, .string xs[i].f1, .int .i64 xs[i].f2, .slice A4 (tos29 xs[i].f3).length c4]) ?hg ?ho ?hn ?hr ?_; (case ho => rfl); (case hg => rfl); (case hn => rfl); (case hr => first | (go_simp; done) | (go_simp; rfl)); intro w4 hw4))
   have hx : (⟨xs[i].f0,xs[i].f1,xs[i].f2,tos29 xs[i].f3⟩ : S29) = to29 xs[i]:=(to29_eq _).symm
   obtain ⟨hS1,hg1⟩:=S_store i HO.out hlt' (⟨xs[i].f0,xs[i].f1,xs[i].f2,tos29 xs[i].f3⟩ : S29) (.slice A4 (tos29 xs[i].f3).length c4) HN.out HGL.out
   have hq : (tos29 (xs.take i) ++ List.replicate (xs.length - i) z29).set i (⟨xs[i].f0,xs[i].f1,xs[i].f2,tos29 xs[i].f3⟩ : S29) = tos29 (xs.take (i + 1)) ++ List.replicate (xs.length - (i + 1)) z29:=by
    rw [hx,List.set_append_right _ _ (by have:=HL1.out;omega),HL1.out,Nat.sub_self,show xs.length - i = (xs.length - (i + 1)) + 1 by omega,List.replicate_succ,List.set_cons_zero,List.take_succ_eq_append_getElem hlt',tos29_map,tos29_map,List.map_append,List.append_assoc]
    rfl
   rw [hq] at hS1
   have hgb : w.heap.size ≤ g:=Kd.S_base HO.out g (by simp [Value.ownBlock])
   go_roundg (xs.length - (i + 1))
   case measure => have:=hi.out;omega
   case rel => exact ⟨i + 1,by rw [next_i i _ hlt' HL.out],⟨by have:=hi.out;omega⟩,⟨hS1⟩,⟨pw_below_grown HB'.out (some g) HB'.out.size hg1 (fun k_ e_ => by injection e_ with e_;omega)⟩⟩
  ·have c3b0 : decide ((i : Int) < (xs.length : Int)) = false:=decide_eq_false hlt
   have c3b1 : decide (i < xs.length) = false:=decide_eq_false (by omega)
   go_wp2
   go_ret
   have he : xs.length ≤ i:=by omega
   have hS:=HA.out
   rw [List.take_of_length_le he,show xs.length - i = 0 by omega,List.replicate_zero,List.append_nil] at hS
   exact ⟨_,rfl,hS,HB.out⟩
set_option maxHeartbeats 8000000 in
set_option maxRecDepth 100000 in
theorem toT_step (t : S24) (ih : ToOf t.f3) : ToT t:=by
 intro A c w hC hc
 have IH:=Aside0.mk ih
 have HC:=Aside0.mk hC
 have HCC:=Aside0.mk hc
 have HB:=Aside0.mk (Below.refl w.heap.size w)
 clear hC hc ih
 go_enter Tryd.func12,Tryd.ntmps12
 go_wp2_with (first
  | ((with_reducible refine gate_dst (N := 1) rfl ?_); refine box_event ?hg1 (N := 1) ?hd1 (cs := #[.int .i64 t.f0, .string t.f1, .int .i64 t.f2, .slice A t.f3.length c]) (t := 24) ?hr1 ?_; (case hd1 => rfl); (case hg1 => rfl); (case hr1 => first | (go_simp; done) | (go_simp; rfl)); intro ga hg w1 hbox hb; have HG_ga := Aside0.mk hg; have BK_ga := Aside0.mk hbox; have q_ := Aside0.mk (below_step HB.out hb); have HGE_ga := Aside0.mk (show w.heap.size ≤ ga by have := HB.out.size; omega); clear HB; have HB := q_; clear q_; have HLT_ga := Aside0.mk (blk_lt hbox); clear hg hbox hb)
  | ((with_reducible refine gate_dst (N := 2) rfl ?_); refine box_event ?hg2 (N := 2) ?hd2 (cs := #[.int .i64 0, .string (⟨#[]⟩ : ByteArray), .int .i64 0, .slice none 0 0]) (t := 29) ?hr2 ?_; (case hd2 => rfl); (case hg2 => rfl); (case hr2 => first | (go_simp; done) | (go_simp; rfl)); intro gr hg w2 hbox hb; have HG_gr := Aside0.mk hg; have q_ := Aside0.mk (blk_below BK_ga.out hb); clear BK_ga; have BK_ga := q_; clear q_; have BK_gr := Aside0.mk hbox; have q_ := Aside0.mk (below_step HB.out hb); have HGE_gr := Aside0.mk (show w.heap.size ≤ gr by have := HB.out.size; omega); clear HB; have HB := q_; clear q_; have HN_ga_gr := Aside0.mk (show ga ≠ gr by have := blk_lt hbox; intro e_; subst e_; have h1_ := HG_gr.out; have h2_ := HLT_ga.out; omega); have HLT_gr := Aside0.mk (blk_lt hbox); have q_ := Aside0.mk (Nat.lt_of_lt_of_le HLT_ga.out hb.size); clear HLT_ga; have HLT_ga := q_; clear q_; clear hg hbox hb)
  | ((with_reducible refine gate_dst (N := 3) rfl ?_); refine box_event ?hg3 (N := 3) ?hd3 (cs := #[.int .i64 0, .string (⟨#[]⟩ : ByteArray), .int .i64 0, .slice none 0 0]) (t := 29) ?hr3 ?_; (case hd3 => rfl); (case hg3 => rfl); (case hr3 => first | (go_simp; done) | (go_simp; rfl)); intro go hg w3 hbox hb; have HG_go := Aside0.mk hg; have q_ := Aside0.mk (blk_below BK_ga.out hb); clear BK_ga; have BK_ga := q_; clear q_; have q_ := Aside0.mk (blk_below BK_gr.out hb); clear BK_gr; have BK_gr := q_; clear q_; have BK_go := Aside0.mk hbox; have q_ := Aside0.mk (below_step HB.out hb); have HGE_go := Aside0.mk (show w.heap.size ≤ go by have := HB.out.size; omega); clear HB; have HB := q_; clear q_; have HN_ga_go := Aside0.mk (show ga ≠ go by have := blk_lt hbox; intro e_; subst e_; have h1_ := HG_go.out; have h2_ := HLT_ga.out; omega); have HN_gr_go := Aside0.mk (show gr ≠ go by have := blk_lt hbox; intro e_; subst e_; have h1_ := HG_go.out; have h2_ := HLT_gr.out; omega); have HLT_go := Aside0.mk (blk_lt hbox); have q_ := Aside0.mk (Nat.lt_of_lt_of_le HLT_ga.out hb.size); clear HLT_ga; have HLT_ga := q_; clear q_; have q_ := Aside0.mk (Nat.lt_of_lt_of_le HLT_gr.out hb.size); clear HLT_gr; have HLT_gr := q_; clear q_; have hc_ga_0 : w3.cell? ⟨ga, 0, none⟩ = some (.int .i64 t.f0) := (blk_cell BK_ga.out 0).trans rfl; have hf_ga_0 := blk_frozen BK_ga.out 0; have hc_ga_1 : w3.cell? ⟨ga, 1, none⟩ = some (.string t.f1) := (blk_cell BK_ga.out 1).trans rfl; have hf_ga_1 := blk_frozen BK_ga.out 1; have hc_ga_2 : w3.cell? ⟨ga, 2, none⟩ = some (.int .i64 t.f2) := (blk_cell BK_ga.out 2).trans rfl; have hf_ga_2 := blk_frozen BK_ga.out 2; have hc_ga_3 : w3.cell? ⟨ga, 3, none⟩ = some (.slice A t.f3.length c) := (blk_cell BK_ga.out 3).trans rfl; have hf_ga_3 := blk_frozen BK_ga.out 3; have hc_go_0 : w3.cell? ⟨go, 0, none⟩ = some (.int .i64 0) := (blk_cell BK_go.out 0).trans rfl; have hf_go_0 := blk_frozen BK_go.out 0; have hc_go_1 : w3.cell? ⟨go, 1, none⟩ = some (.string (⟨#[]⟩ : ByteArray)) := (blk_cell BK_go.out 1).trans rfl; have hf_go_1 := blk_frozen BK_go.out 1; have hc_go_2 : w3.cell? ⟨go, 2, none⟩ = some (.int .i64 0) := (blk_cell BK_go.out 2).trans rfl; have hf_go_2 := blk_frozen BK_go.out 2; have hc_go_3 : w3.cell? ⟨go, 3, none⟩ = some (.slice none 0 0) := (blk_cell BK_go.out 3).trans rfl; have hf_go_3 := blk_frozen BK_go.out 3; have hn1 := HN_ga_go.out; have hn2 := Ne.symm HN_ga_go.out; clear hg hbox hb)
  | ((with_reducible refine gate_callee (f := 44) rfl ?_); refine goesL_ (some 15) rfl rfl Tryd.func44 (by kernel_rfl) rfl #[.slice A t.f3.length c] rfl (by (try simp only [List.map_toArray, List.map_cons, List.map_nil]); first | done | rfl) ?_; have HX := Aside0.mk (show Below w.heap.size w (((w3.setCell ⟨go, 0, none⟩ (.int .i64 t.f0)).setCell ⟨go, 1, none⟩ (.string t.f1)).setCell ⟨go, 2, none⟩ (.int .i64 t.f2)) from below_set (below_set (below_set HB.out HGE_go.out) HGE_go.out) HGE_go.out); refine (IH.out A c (((w3.setCell ⟨go, 0, none⟩ (.int .i64 t.f0)).setCell ⟨go, 1, none⟩ (.string t.f1)).setCell ⟨go, 2, none⟩ (.int .i64 t.f2)) (Kd.C_below HC.out HX.out) HCC.out).mono ?_; rintro e w4 ⟨v4, rfl, ho0, hb⟩; refine ⟨_, rfl, ?_⟩; obtain ⟨A4, c4, rfl⟩ := Kd.S_slice ho0; have b1_ : (((w3.setCell ⟨go, 0, none⟩ (.int .i64 t.f0)).setCell ⟨go, 1, none⟩ (.string t.f1)).setCell ⟨go, 2, none⟩ (.int .i64 t.f2)).heap[go]? = some (.cells #[.int .i64 t.f0, .string t.f1, .int .i64 t.f2, .slice none 0 0] 29 (0, 0)) := (by refine blk_put (cs := #[.int .i64 t.f0, .string t.f1, .int .i64 0, .slice none 0 0]) ?_ 2 _ rfl; refine blk_put (cs := #[.int .i64 t.f0, .string (⟨#[]⟩ : ByteArray), .int .i64 0, .slice none 0 0]) ?_ 1 _ rfl; refine blk_put (cs := #[.int .i64 0, .string (⟨#[]⟩ : ByteArray), .int .i64 0, .slice none 0 0]) ?_ 0 _ rfl; exact BK_go.out); have b2_ : (((w3.setCell ⟨go, 0, none⟩ (.int .i64 t.f0)).setCell ⟨go, 1, none⟩ (.string t.f1)).setCell ⟨go, 2, none⟩ (.int .i64 t.f2)).heap[gr]? = some (.cells #[.int .i64 0, .string (⟨#[]⟩ : ByteArray), .int .i64 0, .slice none 0 0] 29 (0, 0)) := blk_far (blk_far (blk_far BK_gr.out HN_gr_go.out _) HN_gr_go.out _) HN_gr_go.out _; have q_ := Aside0.mk (blk_below b1_ hb); clear BK_go; have BK_go := q_; clear q_; have q_ := Aside0.mk (blk_below b2_ hb); clear BK_gr; have BK_gr := q_; clear q_; have HLO := Aside0.mk (show go < (((w3.setCell ⟨go, 0, none⟩ (.int .i64 t.f0)).setCell ⟨go, 1, none⟩ (.string t.f1)).setCell ⟨go, 2, none⟩ (.int .i64 t.f2)).heap.size from blk_lt b1_); have HLR := Aside0.mk (show gr < (((w3.setCell ⟨go, 0, none⟩ (.int .i64 t.f0)).setCell ⟨go, 1, none⟩ (.string t.f1)).setCell ⟨go, 2, none⟩ (.int .i64 t.f2)).heap.size from blk_lt b2_); have HS := Aside0.mk (Kd.S_mono (ok' := fun k_ => (((w3.setCell ⟨go, 0, none⟩ (.int .i64 t.f0)).setCell ⟨go, 1, none⟩ (.string t.f1)).setCell ⟨go, 2, none⟩ (.int .i64 t.f2)).heap.size ≤ k_) (Kd.S_bound ho0) (fun k_ hk_ => hk_.2.1)); have HB4 := Aside0.mk (below_step HX.out hb); clear b1_ b2_ ho0 hb; have hd_go_0 : w4.cell? ⟨go, 0, none⟩ = some (.int .i64 t.f0) := (blk_cell BK_go.out 0).trans rfl; have he_go_0 := blk_frozen BK_go.out 0; have hd_go_1 : w4.cell? ⟨go, 1, none⟩ = some (.string t.f1) := (blk_cell BK_go.out 1).trans rfl; have he_go_1 := blk_frozen BK_go.out 1; have hd_go_2 : w4.cell? ⟨go, 2, none⟩ = some (.int .i64 t.f2) := (blk_cell BK_go.out 2).trans rfl; have he_go_2 := blk_frozen BK_go.out 2; have hd_go_3 : w4.cell? ⟨go, 3, none⟩ = some (.slice none 0 0) := (blk_cell BK_go.out 3).trans rfl; have he_go_3 := blk_frozen BK_go.out 3; have hc_gr_0 : w4.cell? ⟨gr, 0, none⟩ = some (.int .i64 0) := (blk_cell BK_gr.out 0).trans rfl; have hf_gr_0 := blk_frozen BK_gr.out 0; have hc_gr_1 : w4.cell? ⟨gr, 1, none⟩ = some (.string (⟨#[]⟩ : ByteArray)) := (blk_cell BK_gr.out 1).trans rfl; have hf_gr_1 := blk_frozen BK_gr.out 1; have hc_gr_2 : w4.cell? ⟨gr, 2, none⟩ = some (.int .i64 0) := (blk_cell BK_gr.out 2).trans rfl; have hf_gr_2 := blk_frozen BK_gr.out 2; have hc_gr_3 : w4.cell? ⟨gr, 3, none⟩ = some (.slice none 0 0) := (blk_cell BK_gr.out 3).trans rfl; have hf_gr_3 := blk_frozen BK_gr.out 3; have hn3 := HN_gr_go.out; have hn4 := Ne.symm HN_gr_go.out))
 refine bodyPost_ret (results_cell_row rfl _ _ gr 29 #[.int .i64 t.f0,.string t.f1,.int .i64 t.f2,.slice A4 (tos29 t.f3).length c4] (0,0) _ rfl (by refine blk_put (cs:=#[.int .i64 t.f0,.string t.f1,.int .i64 t.f2,.slice none 0 0]) ?_ 3 _ rfl;refine blk_put (cs:=#[.int .i64 t.f0,.string t.f1,.int .i64 0,.slice none 0 0]) ?_ 2 _ rfl;refine blk_put (cs:=#[.int .i64 t.f0,.string (⟨#[]⟩ : ByteArray),.int .i64 0,.slice none 0 0]) ?_ 1 _ rfl;refine blk_put (cs:=#[.int .i64 0,.string (⟨#[]⟩ : ByteArray),.int .i64 0,.slice none 0 0]) ?_ 0 _ rfl;exact blk_far BK_gr.out HN_gr_go.out _) Tryd.underlying29 rfl (by kernel_rfl)) rfl ?_
 have hne1 : ∀ k_,(((w3.setCell ⟨go,0,none⟩ (.int .i64 t.f0)).setCell ⟨go,1,none⟩ (.string t.f1)).setCell ⟨go,2,none⟩ (.int .i64 t.f2)).heap.size ≤ k_ → k_ ≠ go:=fun k_ hk_ e_ => by have:=HLO.out;omega
 have hne2 : ∀ k_,(((w3.setCell ⟨go,0,none⟩ (.int .i64 t.f0)).setCell ⟨go,1,none⟩ (.string t.f1)).setCell ⟨go,2,none⟩ (.int .i64 t.f2)).heap.size ≤ k_ → k_ ≠ gr:=fun k_ hk_ e_ => by have:=HLR.out;omega
 refine ⟨_,rfl,?_,below_set (below_set (below_set (below_set (below_set HB4.out HGE_go.out) HGE_gr.out) HGE_gr.out) HGE_gr.out) HGE_gr.out⟩
 exact Kd.S_mono (Kd.S_lower (Kd.S_far (p:=⟨gr,3,none⟩) (Kd.S_far (p:=⟨gr,2,none⟩) (Kd.S_far (p:=⟨gr,1,none⟩) (Kd.S_far (p:=⟨gr,0,none⟩) (Kd.S_far (p:=⟨go,3,none⟩) HS.out hne1 _) hne2 _) hne2 _) hne2 _) hne2 _) HX.out.size) (fun _ _ => trivial)
theorem toT_all (n : Nat) : (∀ t : S24,ht24 t ≤ n → wt24 t ≤ 1048576 → ToT t) ∧ (∀ xs : List S24,hts24 xs ≤ n → wts24 xs + xs.length ≤ 1048576 → ToOf xs):=by
 induction n with
 | zero =>
  refine ⟨fun t h => by rw [ht24_eq] at h;omega,fun xs h hw => to_step xs (by omega) (fun x hx => ?_)⟩
  have:=hts24_mem hx
  have:=ht24_eq x
  omega
 | succ n ih =>
  have h1 : ∀ t : S24,ht24 t ≤ n + 1 → wt24 t ≤ 1048576 → ToT t:=fun t h hw => by
   rw [ht24_eq] at h
   rw [wt24_eq] at hw
   exact toT_step t (ih.2 t.f3 (by omega) (by omega))
  refine ⟨h1,fun xs h hw => to_step xs (by omega) (fun x hx => h1 x ?_ ?_)⟩
  ·have:=hts24_mem hx;omega
  ·have:=wts24_mem hx;omega
end
/-! #### laws.toClause, with rows apart -/
section
set_option linter.unusedSectionVars false
variable [fk_laws_szTerm] [fk_laws_eqTerm] [fk_spec_l34Term] [fk_strconv_Itoa]
set_option maxHeartbeats 16000000 in
set_option maxRecDepth 100000 in
theorem toClause_calls (h b : S24) (s : ByteArray) (hT1 : ToT h) (hT2 : ToT b) (A : Option Addr) (c : Nat) (B : Option Addr) (d : Nat) (w : World) (hCA : Kd.C k24 w A h.f3.length h.f3) (hcA : h.f3.length ≤ c) (hCB : Kd.C k24 w B b.f3.length b.f3) (hcB : b.f3.length ≤ d) :
  Calls Tryd.prog 36 #[.agg #[.int .i64 h.f0,.string h.f1,.int .i64 h.f2,.slice A h.f3.length c,.int .i64 b.f0,.string b.f1,.int .i64 b.f2,.slice B b.f3.length d,.string s]] w fun e w' => ∃ v1 v2 N,e = .returned (.agg #[.int .i64 h.f0,.string h.f1,.int .i64 h.f2,v1,.int .i64 b.f0,.string b.f1,.int .i64 b.f2,v2,.string s]) ∧ Kd.S kD29 29 w' w.heap.size (fun k => k < N) v1 (tos29 h.f3) ∧ Kd.S kD29 29 w' w.heap.size (fun k => N ≤ k) v2 (tos29 b.f3) ∧ Below w.heap.size w w':=by
 have IH1:=Aside0.mk hT1
 have IH2:=Aside0.mk hT2
 have HC1:=Aside0.mk hCA
 have HL1:=Aside0.mk hcA
 have HC2:=Aside0.mk hCB
 have HL2:=Aside0.mk hcB
 have HB:=Aside0.mk (Below.refl w.heap.size w)
 clear hT1 hT2 hCA hcA hCB hcB
 go_enter Tryd.func36,Tryd.ntmps36
 go_wp2_with (first
  | ((with_reducible refine gate_dst (N := 1) rfl ?_); refine box_event ?hg1 (N := 1) ?hd1 (cs := #[.int .i64 h.f0, .string h.f1, .int .i64 h.f2, .slice A h.f3.length c, .int .i64 b.f0, .string b.f1, .int .i64 b.f2, .slice B b.f3.length d, .string s]) (t := 60) ?hr1 ?_; (case hd1 => rfl); (case hg1 => rfl); (case hr1 => first | (go_simp; done) | (go_simp; rfl)); intro ga hg w1 hbox hb; have HG_ga := Aside0.mk hg; have BK_ga := Aside0.mk hbox; have q_ := Aside0.mk (below_step HB.out hb); have HGE_ga := Aside0.mk (show w.heap.size ≤ ga by have := HB.out.size; omega); clear HB; have HB := q_; clear q_; have HLT_ga := Aside0.mk (blk_lt hbox); clear hg hbox hb)
  | ((with_reducible refine gate_dst (N := 2) rfl ?_); refine box_event ?hg2 (N := 2) ?hd2 (cs := #[.int .i64 0, .string (⟨#[]⟩ : ByteArray), .int .i64 0, .slice none 0 0, .int .i64 0, .string (⟨#[]⟩ : ByteArray), .int .i64 0, .slice none 0 0, .string (⟨#[]⟩ : ByteArray)]) (t := 48) ?hr2 ?_; (case hd2 => rfl); (case hg2 => rfl); (case hr2 => first | (go_simp; done) | (go_simp; rfl)); intro gr hg w2 hbox hb; have HG_gr := Aside0.mk hg; have q_ := Aside0.mk (blk_below BK_ga.out hb); clear BK_ga; have BK_ga := q_; clear q_; have BK_gr := Aside0.mk hbox; have q_ := Aside0.mk (below_step HB.out hb); have HGE_gr := Aside0.mk (show w.heap.size ≤ gr by have := HB.out.size; omega); clear HB; have HB := q_; clear q_; have HN_ga_gr := Aside0.mk (show ga ≠ gr by have := blk_lt hbox; intro e_; subst e_; have h1_ := HG_gr.out; have h2_ := HLT_ga.out; omega); have HLT_gr := Aside0.mk (blk_lt hbox); have q_ := Aside0.mk (Nat.lt_of_lt_of_le HLT_ga.out hb.size); clear HLT_ga; have HLT_ga := q_; clear q_; clear hg hbox hb)
  | ((with_reducible refine gate_dst (N := 3) rfl ?_); refine box_event ?hg3 (N := 3) ?hd3 (cs := #[.int .i64 0, .string (⟨#[]⟩ : ByteArray), .int .i64 0, .slice none 0 0, .int .i64 0, .string (⟨#[]⟩ : ByteArray), .int .i64 0, .slice none 0 0, .string (⟨#[]⟩ : ByteArray)]) (t := 48) ?hr3 ?_; (case hd3 => rfl); (case hg3 => rfl); (case hr3 => first | (go_simp; done) | (go_simp; rfl)); intro go hg w3 hbox hb; have HG_go := Aside0.mk hg; have q_ := Aside0.mk (blk_below BK_ga.out hb); clear BK_ga; have BK_ga := q_; clear q_; have q_ := Aside0.mk (blk_below BK_gr.out hb); clear BK_gr; have BK_gr := q_; clear q_; have BK_go := Aside0.mk hbox; have q_ := Aside0.mk (below_step HB.out hb); have HGE_go := Aside0.mk (show w.heap.size ≤ go by have := HB.out.size; omega); clear HB; have HB := q_; clear q_; have HN_ga_go := Aside0.mk (show ga ≠ go by have := blk_lt hbox; intro e_; subst e_; have h1_ := HG_go.out; have h2_ := HLT_ga.out; omega); have HN_gr_go := Aside0.mk (show gr ≠ go by have := blk_lt hbox; intro e_; subst e_; have h1_ := HG_go.out; have h2_ := HLT_gr.out; omega); have HLT_go := Aside0.mk (blk_lt hbox); have q_ := Aside0.mk (Nat.lt_of_lt_of_le HLT_ga.out hb.size); clear HLT_ga; have HLT_ga := q_; clear q_; have q_ := Aside0.mk (Nat.lt_of_lt_of_le HLT_gr.out hb.size); clear HLT_gr; have HLT_gr := q_; clear q_; have hp_ga_0 : w3.cell? ⟨ga, 0, none⟩ = some (.int .i64 h.f0) := (blk_cell BK_ga.out 0).trans rfl; have fp_ga_0 := blk_frozen BK_ga.out 0; have hp_ga_1 : w3.cell? ⟨ga, 1, none⟩ = some (.string h.f1) := (blk_cell BK_ga.out 1).trans rfl; have fp_ga_1 := blk_frozen BK_ga.out 1; have hp_ga_2 : w3.cell? ⟨ga, 2, none⟩ = some (.int .i64 h.f2) := (blk_cell BK_ga.out 2).trans rfl; have fp_ga_2 := blk_frozen BK_ga.out 2; have hp_ga_3 : w3.cell? ⟨ga, 3, none⟩ = some (.slice A h.f3.length c) := (blk_cell BK_ga.out 3).trans rfl; have fp_ga_3 := blk_frozen BK_ga.out 3; have hp_ga_4 : w3.cell? ⟨ga, 4, none⟩ = some (.int .i64 b.f0) := (blk_cell BK_ga.out 4).trans rfl; have fp_ga_4 := blk_frozen BK_ga.out 4; have hp_ga_5 : w3.cell? ⟨ga, 5, none⟩ = some (.string b.f1) := (blk_cell BK_ga.out 5).trans rfl; have fp_ga_5 := blk_frozen BK_ga.out 5; have hp_ga_6 : w3.cell? ⟨ga, 6, none⟩ = some (.int .i64 b.f2) := (blk_cell BK_ga.out 6).trans rfl; have fp_ga_6 := blk_frozen BK_ga.out 6; have hp_ga_7 : w3.cell? ⟨ga, 7, none⟩ = some (.slice B b.f3.length d) := (blk_cell BK_ga.out 7).trans rfl; have fp_ga_7 := blk_frozen BK_ga.out 7; have hp_ga_8 : w3.cell? ⟨ga, 8, none⟩ = some (.string s) := (blk_cell BK_ga.out 8).trans rfl; have fp_ga_8 := blk_frozen BK_ga.out 8; have hn1 := HN_ga_go.out; have hn2 := Ne.symm HN_ga_go.out; have hn3 := HN_gr_go.out; have hn4 := Ne.symm HN_gr_go.out; clear hg hbox hb)
  | ((with_reducible refine gate_callee (f := 12) rfl ?_); refine goesL_ (some 6) rfl rfl Tryd.func12 (by kernel_rfl) rfl #[.agg #[.int .i64 h.f0, .string h.f1, .int .i64 h.f2, .slice A h.f3.length c]] rfl (by (try simp only [List.map_toArray, List.map_cons, List.map_nil]); first | done | rfl) ?_; refine (IH1.out A c w3 (Kd.C_below HC1.out HB.out) HL1.out).mono ?_; rintro e w4 ⟨v1, rfl, ho0, hb⟩; refine ⟨_, rfl, ?_⟩; obtain ⟨A1, c1, rfl⟩ := Kd.S_slice ho0; have HS1 := Aside0.mk (Kd.S_mono (ok' := fun k_ => w3.heap.size ≤ k_ ∧ k_ < w4.heap.size) (Kd.S_bound ho0) (fun k_ hk_ => ⟨hk_.2.1, hk_.2.2.1⟩)); have HX3 := Aside0.mk HB.out.size; have HLO := Aside0.mk HLT_go.out; have HLR := Aside0.mk HLT_gr.out; have HLE := Aside0.mk hb.size; have q_ := Aside0.mk (blk_below BK_ga.out hb); clear BK_ga; have BK_ga := q_; clear q_; have q_ := Aside0.mk (blk_below BK_gr.out hb); clear BK_gr; have BK_gr := q_; clear q_; have q_ := Aside0.mk (blk_below BK_go.out hb); clear BK_go; have BK_go := q_; clear q_; have q_ := Aside0.mk (below_step HB.out hb); clear HB; have HB := q_; clear q_; clear ho0 hb; have hq_ga_0 : w4.cell? ⟨ga, 0, none⟩ = some (.int .i64 h.f0) := (blk_cell BK_ga.out 0).trans rfl; have fq_ga_0 := blk_frozen BK_ga.out 0; have hq_ga_1 : w4.cell? ⟨ga, 1, none⟩ = some (.string h.f1) := (blk_cell BK_ga.out 1).trans rfl; have fq_ga_1 := blk_frozen BK_ga.out 1; have hq_ga_2 : w4.cell? ⟨ga, 2, none⟩ = some (.int .i64 h.f2) := (blk_cell BK_ga.out 2).trans rfl; have fq_ga_2 := blk_frozen BK_ga.out 2; have hq_ga_3 : w4.cell? ⟨ga, 3, none⟩ = some (.slice A h.f3.length c) := (blk_cell BK_ga.out 3).trans rfl; have fq_ga_3 := blk_frozen BK_ga.out 3; have hq_ga_4 : w4.cell? ⟨ga, 4, none⟩ = some (.int .i64 b.f0) := (blk_cell BK_ga.out 4).trans rfl; have fq_ga_4 := blk_frozen BK_ga.out 4; have hq_ga_5 : w4.cell? ⟨ga, 5, none⟩ = some (.string b.f1) := (blk_cell BK_ga.out 5).trans rfl; have fq_ga_5 := blk_frozen BK_ga.out 5; have hq_ga_6 : w4.cell? ⟨ga, 6, none⟩ = some (.int .i64 b.f2) := (blk_cell BK_ga.out 6).trans rfl; have fq_ga_6 := blk_frozen BK_ga.out 6; have hq_ga_7 : w4.cell? ⟨ga, 7, none⟩ = some (.slice B b.f3.length d) := (blk_cell BK_ga.out 7).trans rfl; have fq_ga_7 := blk_frozen BK_ga.out 7; have hq_ga_8 : w4.cell? ⟨ga, 8, none⟩ = some (.string s) := (blk_cell BK_ga.out 8).trans rfl; have fq_ga_8 := blk_frozen BK_ga.out 8; have hr_go_0 : w4.cell? ⟨go, 0, none⟩ = some (.int .i64 0) := (blk_cell BK_go.out 0).trans rfl; have fr_go_0 := blk_frozen BK_go.out 0; have hr_go_1 : w4.cell? ⟨go, 1, none⟩ = some (.string (⟨#[]⟩ : ByteArray)) := (blk_cell BK_go.out 1).trans rfl; have fr_go_1 := blk_frozen BK_go.out 1; have hr_go_2 : w4.cell? ⟨go, 2, none⟩ = some (.int .i64 0) := (blk_cell BK_go.out 2).trans rfl; have fr_go_2 := blk_frozen BK_go.out 2; have hr_go_3 : w4.cell? ⟨go, 3, none⟩ = some (.slice none 0 0) := (blk_cell BK_go.out 3).trans rfl; have fr_go_3 := blk_frozen BK_go.out 3; have hr_go_4 : w4.cell? ⟨go, 4, none⟩ = some (.int .i64 0) := (blk_cell BK_go.out 4).trans rfl; have fr_go_4 := blk_frozen BK_go.out 4; have hr_go_5 : w4.cell? ⟨go, 5, none⟩ = some (.string (⟨#[]⟩ : ByteArray)) := (blk_cell BK_go.out 5).trans rfl; have fr_go_5 := blk_frozen BK_go.out 5; have hr_go_6 : w4.cell? ⟨go, 6, none⟩ = some (.int .i64 0) := (blk_cell BK_go.out 6).trans rfl; have fr_go_6 := blk_frozen BK_go.out 6; have hr_go_7 : w4.cell? ⟨go, 7, none⟩ = some (.slice none 0 0) := (blk_cell BK_go.out 7).trans rfl; have fr_go_7 := blk_frozen BK_go.out 7; have hr_go_8 : w4.cell? ⟨go, 8, none⟩ = some (.string (⟨#[]⟩ : ByteArray)) := (blk_cell BK_go.out 8).trans rfl; have fr_go_8 := blk_frozen BK_go.out 8)
  | ((with_reducible refine gate_callee (f := 12) rfl ?_); refine goesL_ (some 10) rfl rfl Tryd.func12 (by kernel_rfl) rfl #[.agg #[.int .i64 b.f0, .string b.f1, .int .i64 b.f2, .slice B b.f3.length d]] rfl (by (try simp only [List.map_toArray, List.map_cons, List.map_nil]); first | done | rfl) ?_; have HX := Aside0.mk (show Below w.heap.size w ((((w4.setCell ⟨go, 0, none⟩ (.int .i64 h.f0)).setCell ⟨go, 1, none⟩ (.string h.f1)).setCell ⟨go, 2, none⟩ (.int .i64 h.f2)).setCell ⟨go, 3, none⟩ (.slice A1 (tos29 h.f3).length c1)) from (below_set (below_set (below_set (below_set HB.out HGE_go.out) HGE_go.out) HGE_go.out) HGE_go.out)); refine (IH2.out B d ((((w4.setCell ⟨go, 0, none⟩ (.int .i64 h.f0)).setCell ⟨go, 1, none⟩ (.string h.f1)).setCell ⟨go, 2, none⟩ (.int .i64 h.f2)).setCell ⟨go, 3, none⟩ (.slice A1 (tos29 h.f3).length c1)) (Kd.C_below HC2.out HX.out) HL2.out).mono ?_; rintro e w5 ⟨v2, rfl, ho0, hb⟩; refine ⟨_, rfl, ?_⟩; obtain ⟨A2, c2, rfl⟩ := Kd.S_slice ho0; have b1_ : ((((w4.setCell ⟨go, 0, none⟩ (.int .i64 h.f0)).setCell ⟨go, 1, none⟩ (.string h.f1)).setCell ⟨go, 2, none⟩ (.int .i64 h.f2)).setCell ⟨go, 3, none⟩ (.slice A1 (tos29 h.f3).length c1)).heap[go]? = some (.cells #[.int .i64 h.f0, .string h.f1, .int .i64 h.f2, .slice A1 (tos29 h.f3).length c1, .int .i64 0, .string (⟨#[]⟩ : ByteArray), .int .i64 0, .slice none 0 0, .string (⟨#[]⟩ : ByteArray)] 48 (0, 0)) := (by refine blk_put (cs := #[.int .i64 h.f0, .string h.f1, .int .i64 h.f2, .slice none 0 0, .int .i64 0, .string (⟨#[]⟩ : ByteArray), .int .i64 0, .slice none 0 0, .string (⟨#[]⟩ : ByteArray)]) ?_ 3 _ rfl; refine blk_put (cs := #[.int .i64 h.f0, .string h.f1, .int .i64 0, .slice none 0 0, .int .i64 0, .string (⟨#[]⟩ : ByteArray), .int .i64 0, .slice none 0 0, .string (⟨#[]⟩ : ByteArray)]) ?_ 2 _ rfl; refine blk_put (cs := #[.int .i64 h.f0, .string (⟨#[]⟩ : ByteArray), .int .i64 0, .slice none 0 0, .int .i64 0, .string (⟨#[]⟩ : ByteArray), .int .i64 0, .slice none 0 0, .string (⟨#[]⟩ : ByteArray)]) ?_ 1 _ rfl; refine blk_put (cs := #[.int .i64 0, .string (⟨#[]⟩ : ByteArray), .int .i64 0, .slice none 0 0, .int .i64 0, .string (⟨#[]⟩ : ByteArray), .int .i64 0, .slice none 0 0, .string (⟨#[]⟩ : ByteArray)]) ?_ 0 _ rfl; exact BK_go.out); have b2_ : ((((w4.setCell ⟨go, 0, none⟩ (.int .i64 h.f0)).setCell ⟨go, 1, none⟩ (.string h.f1)).setCell ⟨go, 2, none⟩ (.int .i64 h.f2)).setCell ⟨go, 3, none⟩ (.slice A1 (tos29 h.f3).length c1)).heap[gr]? = some (.cells #[.int .i64 0, .string (⟨#[]⟩ : ByteArray), .int .i64 0, .slice none 0 0, .int .i64 0, .string (⟨#[]⟩ : ByteArray), .int .i64 0, .slice none 0 0, .string (⟨#[]⟩ : ByteArray)] 48 (0, 0)) := blk_far (blk_far (blk_far (blk_far BK_gr.out HN_gr_go.out _) HN_gr_go.out _) HN_gr_go.out _) HN_gr_go.out _; have b3_ : ((((w4.setCell ⟨go, 0, none⟩ (.int .i64 h.f0)).setCell ⟨go, 1, none⟩ (.string h.f1)).setCell ⟨go, 2, none⟩ (.int .i64 h.f2)).setCell ⟨go, 3, none⟩ (.slice A1 (tos29 h.f3).length c1)).heap[ga]? = some (.cells #[.int .i64 h.f0, .string h.f1, .int .i64 h.f2, .slice A h.f3.length c, .int .i64 b.f0, .string b.f1, .int .i64 b.f2, .slice B b.f3.length d, .string s] 60 (0, 0)) := blk_far (blk_far (blk_far (blk_far BK_ga.out HN_ga_go.out _) HN_ga_go.out _) HN_ga_go.out _) HN_ga_go.out _; have q_ := Aside0.mk (blk_below b1_ hb); clear BK_go; have BK_go := q_; clear q_; have q_ := Aside0.mk (blk_below b2_ hb); clear BK_gr; have BK_gr := q_; clear q_; have q_ := Aside0.mk (blk_below b3_ hb); clear BK_ga; have BK_ga := q_; clear q_; have hne_ : ∀ k_, w3.heap.size ≤ k_ ∧ k_ < w4.heap.size → k_ ≠ go := fun k_ hk_ e_ => (by have := HLO.out; omega); have HXS := Aside0.mk (show ((((w4.setCell ⟨go, 0, none⟩ (.int .i64 h.f0)).setCell ⟨go, 1, none⟩ (.string h.f1)).setCell ⟨go, 2, none⟩ (.int .i64 h.f2)).setCell ⟨go, 3, none⟩ (.slice A1 (tos29 h.f3).length c1)).heap.size = w4.heap.size by simp [World.setCell]); have q_ := Aside0.mk (Kd.S_mono (ok' := fun k_ => w3.heap.size ≤ k_ ∧ k_ < w4.heap.size) (Kd.S_below (Kd.S_far (p := ⟨go, 3, none⟩) (Kd.S_far (p := ⟨go, 2, none⟩) (Kd.S_far (p := ⟨go, 1, none⟩) (Kd.S_far (p := ⟨go, 0, none⟩) HS1.out hne_ _) hne_ _) hne_ _) hne_ _) hb) (fun k_ hk_ => hk_)); clear HS1; have HS1 := q_; clear q_; have HS2 := Aside0.mk (Kd.S_mono (ok' := fun k_ => w4.heap.size ≤ k_) (Kd.S_bound ho0) (fun k_ hk_ => by rw [← HXS.out]; exact hk_.2.1)); have HB5 := Aside0.mk (below_step HX.out hb); clear ho0 hb b1_ b2_ b3_ hne_; have hu_ga_0 : w5.cell? ⟨ga, 0, none⟩ = some (.int .i64 h.f0) := (blk_cell BK_ga.out 0).trans rfl; have fu_ga_0 := blk_frozen BK_ga.out 0; have hu_ga_1 : w5.cell? ⟨ga, 1, none⟩ = some (.string h.f1) := (blk_cell BK_ga.out 1).trans rfl; have fu_ga_1 := blk_frozen BK_ga.out 1; have hu_ga_2 : w5.cell? ⟨ga, 2, none⟩ = some (.int .i64 h.f2) := (blk_cell BK_ga.out 2).trans rfl; have fu_ga_2 := blk_frozen BK_ga.out 2; have hu_ga_3 : w5.cell? ⟨ga, 3, none⟩ = some (.slice A h.f3.length c) := (blk_cell BK_ga.out 3).trans rfl; have fu_ga_3 := blk_frozen BK_ga.out 3; have hu_ga_4 : w5.cell? ⟨ga, 4, none⟩ = some (.int .i64 b.f0) := (blk_cell BK_ga.out 4).trans rfl; have fu_ga_4 := blk_frozen BK_ga.out 4; have hu_ga_5 : w5.cell? ⟨ga, 5, none⟩ = some (.string b.f1) := (blk_cell BK_ga.out 5).trans rfl; have fu_ga_5 := blk_frozen BK_ga.out 5; have hu_ga_6 : w5.cell? ⟨ga, 6, none⟩ = some (.int .i64 b.f2) := (blk_cell BK_ga.out 6).trans rfl; have fu_ga_6 := blk_frozen BK_ga.out 6; have hu_ga_7 : w5.cell? ⟨ga, 7, none⟩ = some (.slice B b.f3.length d) := (blk_cell BK_ga.out 7).trans rfl; have fu_ga_7 := blk_frozen BK_ga.out 7; have hu_ga_8 : w5.cell? ⟨ga, 8, none⟩ = some (.string s) := (blk_cell BK_ga.out 8).trans rfl; have fu_ga_8 := blk_frozen BK_ga.out 8; have hx_go_0 : w5.cell? ⟨go, 0, none⟩ = some (.int .i64 h.f0) := (blk_cell BK_go.out 0).trans rfl; have fx_go_0 := blk_frozen BK_go.out 0; have hx_go_1 : w5.cell? ⟨go, 1, none⟩ = some (.string h.f1) := (blk_cell BK_go.out 1).trans rfl; have fx_go_1 := blk_frozen BK_go.out 1; have hx_go_2 : w5.cell? ⟨go, 2, none⟩ = some (.int .i64 h.f2) := (blk_cell BK_go.out 2).trans rfl; have fx_go_2 := blk_frozen BK_go.out 2; have hx_go_3 : w5.cell? ⟨go, 3, none⟩ = some (.slice A1 (tos29 h.f3).length c1) := (blk_cell BK_go.out 3).trans rfl; have fx_go_3 := blk_frozen BK_go.out 3; have hx_go_4 : w5.cell? ⟨go, 4, none⟩ = some (.int .i64 0) := (blk_cell BK_go.out 4).trans rfl; have fx_go_4 := blk_frozen BK_go.out 4; have hx_go_5 : w5.cell? ⟨go, 5, none⟩ = some (.string (⟨#[]⟩ : ByteArray)) := (blk_cell BK_go.out 5).trans rfl; have fx_go_5 := blk_frozen BK_go.out 5; have hx_go_6 : w5.cell? ⟨go, 6, none⟩ = some (.int .i64 0) := (blk_cell BK_go.out 6).trans rfl; have fx_go_6 := blk_frozen BK_go.out 6; have hx_go_7 : w5.cell? ⟨go, 7, none⟩ = some (.slice none 0 0) := (blk_cell BK_go.out 7).trans rfl; have fx_go_7 := blk_frozen BK_go.out 7; have hx_go_8 : w5.cell? ⟨go, 8, none⟩ = some (.string (⟨#[]⟩ : ByteArray)) := (blk_cell BK_go.out 8).trans rfl; have fx_go_8 := blk_frozen BK_go.out 8; have hy_gr_0 : w5.cell? ⟨gr, 0, none⟩ = some (.int .i64 0) := (blk_cell BK_gr.out 0).trans rfl; have fy_gr_0 := blk_frozen BK_gr.out 0; have hy_gr_1 : w5.cell? ⟨gr, 1, none⟩ = some (.string (⟨#[]⟩ : ByteArray)) := (blk_cell BK_gr.out 1).trans rfl; have fy_gr_1 := blk_frozen BK_gr.out 1; have hy_gr_2 : w5.cell? ⟨gr, 2, none⟩ = some (.int .i64 0) := (blk_cell BK_gr.out 2).trans rfl; have fy_gr_2 := blk_frozen BK_gr.out 2; have hy_gr_3 : w5.cell? ⟨gr, 3, none⟩ = some (.slice none 0 0) := (blk_cell BK_gr.out 3).trans rfl; have fy_gr_3 := blk_frozen BK_gr.out 3; have hy_gr_4 : w5.cell? ⟨gr, 4, none⟩ = some (.int .i64 0) := (blk_cell BK_gr.out 4).trans rfl; have fy_gr_4 := blk_frozen BK_gr.out 4; have hy_gr_5 : w5.cell? ⟨gr, 5, none⟩ = some (.string (⟨#[]⟩ : ByteArray)) := (blk_cell BK_gr.out 5).trans rfl; have fy_gr_5 := blk_frozen BK_gr.out 5; have hy_gr_6 : w5.cell? ⟨gr, 6, none⟩ = some (.int .i64 0) := (blk_cell BK_gr.out 6).trans rfl; have fy_gr_6 := blk_frozen BK_gr.out 6; have hy_gr_7 : w5.cell? ⟨gr, 7, none⟩ = some (.slice none 0 0) := (blk_cell BK_gr.out 7).trans rfl; have fy_gr_7 := blk_frozen BK_gr.out 7; have hy_gr_8 : w5.cell? ⟨gr, 8, none⟩ = some (.string (⟨#[]⟩ : ByteArray)) := (blk_cell BK_gr.out 8).trans rfl; have fy_gr_8 := blk_frozen BK_gr.out 8))
 refine bodyPost_ret (results_cell_row rfl _ _ gr 48 #[.int .i64 h.f0,.string h.f1,.int .i64 h.f2,.slice A1 (tos29 h.f3).length c1,.int .i64 b.f0,.string b.f1,.int .i64 b.f2,.slice A2 (tos29 b.f3).length c2,.string s] (0,0) _ rfl (by refine blk_put (cs:=#[.int .i64 h.f0,.string h.f1,.int .i64 h.f2,.slice A1 (tos29 h.f3).length c1,.int .i64 b.f0,.string b.f1,.int .i64 b.f2,.slice A2 (tos29 b.f3).length c2,.string (⟨#[]⟩ : ByteArray)]) ?_ 8 _ rfl;refine blk_put (cs:=#[.int .i64 h.f0,.string h.f1,.int .i64 h.f2,.slice A1 (tos29 h.f3).length c1,.int .i64 b.f0,.string b.f1,.int .i64 b.f2,.slice none 0 0,.string (⟨#[]⟩ : ByteArray)]) ?_ 7 _ rfl;refine blk_put (cs:=#[.int .i64 h.f0,.string h.f1,.int .i64 h.f2,.slice A1 (tos29 h.f3).length c1,.int .i64 b.f0,.string b.f1,.int .i64 0,.slice none 0 0,.string (⟨#[]⟩ : ByteArray)]) ?_ 6 _ rfl;refine blk_put (cs:=#[.int .i64 h.f0,.string h.f1,.int .i64 h.f2,.slice A1 (tos29 h.f3).length c1,.int .i64 b.f0,.string (⟨#[]⟩ : ByteArray),.int .i64 0,.slice none 0 0,.string (⟨#[]⟩ : ByteArray)]) ?_ 5 _ rfl;refine blk_put (cs:=#[.int .i64 h.f0,.string h.f1,.int .i64 h.f2,.slice A1 (tos29 h.f3).length c1,.int .i64 0,.string (⟨#[]⟩ : ByteArray),.int .i64 0,.slice none 0 0,.string (⟨#[]⟩ : ByteArray)]) ?_ 4 _ rfl;refine blk_put (cs:=#[.int .i64 h.f0,.string h.f1,.int .i64 h.f2,.slice none 0 0,.int .i64 0,.string (⟨#[]⟩ : ByteArray),.int .i64 0,.slice none 0 0,.string (⟨#[]⟩ : ByteArray)]) ?_ 3 _ rfl;refine blk_put (cs:=#[.int .i64 h.f0,.string h.f1,.int .i64 0,.slice none 0 0,.int .i64 0,.string (⟨#[]⟩ : ByteArray),.int .i64 0,.slice none 0 0,.string (⟨#[]⟩ : ByteArray)]) ?_ 2 _ rfl;refine blk_put (cs:=#[.int .i64 h.f0,.string (⟨#[]⟩ : ByteArray),.int .i64 0,.slice none 0 0,.int .i64 0,.string (⟨#[]⟩ : ByteArray),.int .i64 0,.slice none 0 0,.string (⟨#[]⟩ : ByteArray)]) ?_ 1 _ rfl;refine blk_put (cs:=#[.int .i64 0,.string (⟨#[]⟩ : ByteArray),.int .i64 0,.slice none 0 0,.int .i64 0,.string (⟨#[]⟩ : ByteArray),.int .i64 0,.slice none 0 0,.string (⟨#[]⟩ : ByteArray)]) ?_ 0 _ rfl;exact (blk_far (blk_far (blk_far (blk_far (blk_far BK_gr.out HN_gr_go.out _) HN_gr_go.out _) HN_gr_go.out _) HN_gr_go.out _) HN_gr_go.out _)) Tryd.underlying48 rfl (by kernel_rfl)) rfl ?_
 have hne1 : ∀ k_,w3.heap.size ≤ k_ ∧ k_ < w4.heap.size → k_ ≠ go:=fun k_ hk_ e_ => by have:=HLO.out;omega
 have hne2 : ∀ k_,w3.heap.size ≤ k_ ∧ k_ < w4.heap.size → k_ ≠ gr:=fun k_ hk_ e_ => by have:=HLR.out;omega
 have hne3 : ∀ k_,w4.heap.size ≤ k_ → k_ ≠ go:=fun k_ hk_ e_ => by have:=HLO.out;have:=HLE.out;omega
 have hne4 : ∀ k_,w4.heap.size ≤ k_ → k_ ≠ gr:=fun k_ hk_ e_ => by have:=HLR.out;have:=HLE.out;omega
 refine ⟨_,_,w4.heap.size,rfl,?_,?_,(below_set (below_set (below_set (below_set (below_set (below_set (below_set (below_set (below_set (below_set (below_set (below_set (below_set (below_set HB5.out HGE_go.out) HGE_go.out) HGE_go.out) HGE_go.out) HGE_go.out) HGE_gr.out) HGE_gr.out) HGE_gr.out) HGE_gr.out) HGE_gr.out) HGE_gr.out) HGE_gr.out) HGE_gr.out) HGE_gr.out)⟩
 ·exact Kd.S_mono (Kd.S_lower (Kd.S_far (p:=⟨gr,8,none⟩) (Kd.S_far (p:=⟨gr,7,none⟩) (Kd.S_far (p:=⟨gr,6,none⟩) (Kd.S_far (p:=⟨gr,5,none⟩) (Kd.S_far (p:=⟨gr,4,none⟩) (Kd.S_far (p:=⟨gr,3,none⟩) (Kd.S_far (p:=⟨gr,2,none⟩) (Kd.S_far (p:=⟨gr,1,none⟩) (Kd.S_far (p:=⟨gr,0,none⟩) (Kd.S_far (p:=⟨go,8,none⟩) (Kd.S_far (p:=⟨go,7,none⟩) (Kd.S_far (p:=⟨go,6,none⟩) (Kd.S_far (p:=⟨go,5,none⟩) (Kd.S_far (p:=⟨go,4,none⟩) HS1.out hne1 _) hne1 _) hne1 _) hne1 _) hne1 _) hne2 _) hne2 _) hne2 _) hne2 _) hne2 _) hne2 _) hne2 _) hne2 _) hne2 _) HX3.out) (fun _ hk_ => hk_.2)
 ·exact Kd.S_lower (Kd.S_far (p:=⟨gr,8,none⟩) (Kd.S_far (p:=⟨gr,7,none⟩) (Kd.S_far (p:=⟨gr,6,none⟩) (Kd.S_far (p:=⟨gr,5,none⟩) (Kd.S_far (p:=⟨gr,4,none⟩) (Kd.S_far (p:=⟨gr,3,none⟩) (Kd.S_far (p:=⟨gr,2,none⟩) (Kd.S_far (p:=⟨gr,1,none⟩) (Kd.S_far (p:=⟨gr,0,none⟩) (Kd.S_far (p:=⟨go,8,none⟩) (Kd.S_far (p:=⟨go,7,none⟩) (Kd.S_far (p:=⟨go,6,none⟩) (Kd.S_far (p:=⟨go,5,none⟩) (Kd.S_far (p:=⟨go,4,none⟩) HS2.out hne3 _) hne3 _) hne3 _) hne3 _) hne3 _) hne4 _) hne4 _) hne4 _) hne4 _) hne4 _) hne4 _) hne4 _) hne4 _) hne4 _) HX.out.size
end
/-! #### laws.toClauseS: the copy, with rows apart -/
def to59 (x : S60) : S48:=⟨to29 x.f0,to29 x.f1,x.f2⟩
section
set_option linter.unusedSectionVars false
variable [fk_laws_szTerm] [fk_laws_eqTerm] [fk_spec_l34Term] [fk_strconv_Itoa]
set_option maxHeartbeats 8000000 in
set_option maxRecDepth 100000 in
theorem toCs_calls (xs : List S60) (hlen : xs.length ≤ 1048576) (ih : ∀ x ∈ xs,ToT x.f0 ∧ ToT x.f1) (A : Option Addr) (c : Nat) (w : World) (hC : Kd.C k60 w A xs.length xs) (hc : xs.length ≤ c) :
  Calls Tryd.prog 49 #[.slice A xs.length c] w fun e w' => ∃ v,e = .returned v ∧ Kd.S kD59 48 w' w.heap.size (fun _ => True) v (xs.map to59) ∧ Below w.heap.size w w':=by
 have IH:=Aside0.mk ih
 have HC:=Aside0.mk hC
 have HCC:=Aside0.mk hc
 have HL:=Aside0.mk hlen
 have HB:=Aside0.mk (Below.refl w.heap.size w)
 clear hC hc ih hlen
 go_enter Tryd.func49,Tryd.ntmps49
 go_wp2_with (first
  | ((with_reducible refine gate_dst (N := 7) rfl ?_); refine Kd.S_make kD59 _ 48 rfl (N := 7) rfl 39 _ _ rfl (xs.length : Int) rfl rfl Tryd.underlying39 (.agg #[(.int .i64 0), (.string ⟨#[]⟩), (.int .i64 0), (.slice none 0 0), (.int .i64 0), (.string ⟨#[]⟩), (.int .i64 0), (.slice none 0 0), (.string ⟨#[]⟩)]) 128 info48 rfl (by decide) (by decide) z48 (ok := fun _ => True) (okp := fun _ => True) (kD59_mkM _ _ _ (fun _ => True) z48 (Kd.S_nil _ _ _ _ _) (Kd.S_nil _ _ _ _ _)) (fun _ hk => hk) trivial (by omega) (by have := HL.out; rw [Int.toNat_natCast]; omega) (Below.refl _ _) (Nat.le_refl _) ?_; intro v1 w6 hS hb6 hg_ hnew; clear hg_ hnew; obtain ⟨A1, c1, rfl⟩ := Kd.S_slice hS; have HS := Aside0.mk hS; have HB6 := Aside0.mk hb6; clear hS hb6))
 rw [Int.toNat_natCast,List.length_replicate] at HS
 go_loopg [4] xs.length (fun m v4 w' => ∃ i : Nat,v4 = .int .i64 i ∧ Aside0 (m + i = xs.length) ∧ Aside0 (Kd.S kD59 48 w' w.heap.size (fun _ => True) (.slice A1 xs.length c1) ((xs.take i).map to59 ++ List.replicate (xs.length - i) z48)) ∧ Aside0 (Below w.heap.size w w'))
 case atStart => exact ⟨0,rfl,⟨by omega⟩,⟨by simpa using Kd.S_lower HS.out HB.out.size⟩,⟨below_step HB.out HB6.out⟩⟩
 case round =>
  clear HS HB6 HB
  obtain ⟨i,rfl,hi,HA,HB⟩:=hrel
  by_cases hlt : (i : Int) < (xs.length : Int)
  ·have c3b0 : decide ((i : Int) < (xs.length : Int)) = true:=decide_eq_true hlt
   have hlt' : i < xs.length:=by omega
   have c3b1 : decide (i < xs.length) = true:=decide_eq_true hlt'
   have hl1 : ((xs.take i).map to59).length = i:=by rw [List.length_map,List.length_take];omega
   have hlen : ((xs.take i).map to59 ++ List.replicate (xs.length - i) z48).length = xs.length:=by rw [List.length_append,hl1,List.length_replicate];omega
   obtain ⟨g,hA,hgl⟩ : ∃ g,A1 = some ⟨g,0,none⟩ ∧ g < wr.heap.size:=by
    obtain ⟨g,cap,e,_,hg,_⟩:=Kd.S_form HA.out (by rw [hlen];omega)
    injection e with e1
    exact ⟨g,e1,hg⟩
   subst hA
   obtain ⟨ad,A3,c3,A7,c7,e3,hx0,hx1,hx2,hx3,hx4,hx5,hx6,hx7,hx8,hl3,hi3,hl7,hi7⟩:=at_T60 HC.out (i : Int) (by omega) hlt
   cases e3
   rw [show rd_T60 xs (i : Int) = xs[i] by unfold rd_T60;simp [List.getD,hlt']] at hx0 hx1 hx2 hx3 hx4 hx5 hx6 hx7 hx8 hl3 hi3 hl7 hi7
   simp only [Int.toNat_natCast] at hx0 hx1 hx2 hx3 hx4 hx5 hx6 hx7 hx8
   replace hx0:=(HB.out.cell (World.block_lt_of_cell? w _ hx0)).trans hx0
   replace hx1:=(HB.out.cell (World.block_lt_of_cell? w _ hx1)).trans hx1
   replace hx2:=(HB.out.cell (World.block_lt_of_cell? w _ hx2)).trans hx2
   replace hx3:=(HB.out.cell (World.block_lt_of_cell? w _ hx3)).trans hx3
   replace hx4:=(HB.out.cell (World.block_lt_of_cell? w _ hx4)).trans hx4
   replace hx5:=(HB.out.cell (World.block_lt_of_cell? w _ hx5)).trans hx5
   replace hx6:=(HB.out.cell (World.block_lt_of_cell? w _ hx6)).trans hx6
   replace hx7:=(HB.out.cell (World.block_lt_of_cell? w _ hx7)).trans hx7
   replace hx8:=(HB.out.cell (World.block_lt_of_cell? w _ hx8)).trans hx8
   have HI7:=Aside0.mk (Kd.C_below hi7 HB.out)
   have HL7:=Aside0.mk hl7
   clear hi7 hl7
   have HI3:=Aside0.mk (Kd.C_below hi3 HB.out)
   have HL3:=Aside0.mk hl3
   have HGL:=Aside0.mk hgl
   have HLEN:=Aside0.mk hlen
   have HL1:=Aside0.mk hl1
   clear hi3 hl3 hgl hlen hl1
   have p1 : (0 : Int) ≤ (i : Int):=by omega
   go_wp2_with (first
    | ((with_reducible refine gate_callee (f := 36) rfl ?_); refine goesL_ (some 20) rfl rfl Tryd.func36 (by kernel_rfl) rfl #[.agg #[.int .i64 xs[i].f0.f0, .string xs[i].f0.f1, .int .i64 xs[i].f0.f2, .slice A3 xs[i].f0.f3.length c3, .int .i64 xs[i].f1.f0, .string xs[i].f1.f1, .int .i64 xs[i].f1.f2, .slice A7 xs[i].f1.f3.length c7, .string xs[i].f2]] rfl (by (try simp only [List.map_toArray, List.map_cons, List.map_nil]); first | done | rfl) ?_; refine (toClause_calls xs[i].f0 xs[i].f1 xs[i].f2 (IH.out xs[i] (List.getElem_mem hlt')).1 (IH.out xs[i] (List.getElem_mem hlt')).2 A3 c3 A7 c7 _ HI3.out HL3.out HI7.out HL7.out).mono ?_; rintro e w2 ⟨v3_, v7_, M, rfl, ho3, ho7, hb⟩; refine ⟨_, rfl, ?_⟩; obtain ⟨A4, c4, rfl⟩ := Kd.S_slice ho3; obtain ⟨A8, c8, rfl⟩ := Kd.S_slice ho7; have HO := Aside0.mk (Kd.S_mono (ok' := fun k_ => k_ < wr.heap.size) (Kd.S_old HA.out hb) (fun k_ hk_ => hk_.2)); have HN := Aside0.mk (Kd.S_lower (Kd.S_mono (ok' := fun k_ => wr.heap.size ≤ k_ ∧ k_ < M) (Kd.S_bound ho3) (fun k_ hk_ => ⟨hk_.2.1, hk_.1⟩)) HB.out.size); have HN7 := Aside0.mk (Kd.S_lower (Kd.S_mono (ok' := fun k_ => wr.heap.size ≤ k_ ∧ ¬ k_ < M) (Kd.S_bound ho7) (fun k_ hk_ => ⟨hk_.2.1, Nat.not_lt_of_le hk_.1⟩)) HB.out.size); have HB' := Aside0.mk (below_step HB.out hb); have HE := Kd.S_elem HO.out z48 (i : Int) (by omega) (by omega); obtain ⟨oki_, ce_, hcl_, hM_, hcc_, hfr_, _, _⟩ := HE; obtain ⟨_, ve_, ve7_, rfl, _⟩ := kD59_openM hM_; rw [Int.toNat_natCast] at hcc_ hfr_; have hy0 := hcc_ 0 _ rfl; have hy1 := hcc_ 1 _ rfl; have hy2 := hcc_ 2 _ rfl; have hy3 := hcc_ 3 _ rfl; have hy4 := hcc_ 4 _ rfl; have hy5 := hcc_ 5 _ rfl; have hy6 := hcc_ 6 _ rfl; have hy7 := hcc_ 7 _ rfl; have hy8 := hcc_ 8 _ rfl;  have hf0 := hfr_ 0; have hf1 := hfr_ 1; have hf2 := hfr_ 2; have hf3 := hfr_ 3; have hf4 := hfr_ 4; have hf5 := hfr_ 5; have hf6 := hfr_ 6; have hf7 := hfr_ 7; have hf8 := hfr_ 8;  simp only [show kD59.sz = 9 from rfl, Nat.add_zero] at hy0 hy1 hy2 hy3 hy4 hy5 hy6 hy7 hy8 hf0 hf1 hf2 hf3 hf4 hf5 hf6 hf7 hf8; clear hcc_ hfr_ hM_ hcl_ hb ho3 ho7)
    | ((with_reducible refine gate_store (t := 48) (p := 21) rfl ?_); refine store_event (t := 48) (p := 21) (v := ?vo1) (w1 := w2.setCells g (i * 9) [.int .i64 xs[i].f0.f0, .string xs[i].f0.f1, .int .i64 xs[i].f0.f2, .slice A4 (tos29 xs[i].f0.f3).length c4, .int .i64 xs[i].f1.f0, .string xs[i].f1.f1, .int .i64 xs[i].f1.f2, .slice A8 (tos29 xs[i].f1.f3).length c8, .string xs[i].f2]) ?hg ?ho ?hn ?hr ?_; (case ho => rfl); (case hg => rfl); (case hn => rfl); (case hr => first | (go_simp; done) | (go_simp; rfl)); intro w4 hw4))
   have hx : (⟨⟨xs[i].f0.f0,xs[i].f0.f1,xs[i].f0.f2,tos29 xs[i].f0.f3⟩,⟨xs[i].f1.f0,xs[i].f1.f1,xs[i].f1.f2,tos29 xs[i].f1.f3⟩,xs[i].f2⟩ : S48) = to59 xs[i]:=by unfold to59;rw [to29_eq,to29_eq]
   obtain ⟨hS1,hg1⟩:=S_store59 (M:=M) i HO.out hlt' (⟨⟨xs[i].f0.f0,xs[i].f0.f1,xs[i].f0.f2,tos29 xs[i].f0.f3⟩,⟨xs[i].f1.f0,xs[i].f1.f1,xs[i].f1.f2,tos29 xs[i].f1.f3⟩,xs[i].f2⟩ : S48) (.slice A4 (tos29 xs[i].f0.f3).length c4) (.slice A8 (tos29 xs[i].f1.f3).length c8) HN.out HN7.out HGL.out
   have hq : ((xs.take i).map to59 ++ List.replicate (xs.length - i) z48).set i (⟨⟨xs[i].f0.f0,xs[i].f0.f1,xs[i].f0.f2,tos29 xs[i].f0.f3⟩,⟨xs[i].f1.f0,xs[i].f1.f1,xs[i].f1.f2,tos29 xs[i].f1.f3⟩,xs[i].f2⟩ : S48) = (xs.take (i + 1)).map to59 ++ List.replicate (xs.length - (i + 1)) z48:=by
    rw [hx,List.set_append_right _ _ (by have:=HL1.out;omega),HL1.out,Nat.sub_self,show xs.length - i = (xs.length - (i + 1)) + 1 by omega,List.replicate_succ,List.set_cons_zero,List.take_succ_eq_append_getElem hlt',List.map_append,List.append_assoc]
    rfl
   rw [hq] at hS1
   have hgb : w.heap.size ≤ g:=Kd.S_base HO.out g (by simp [Value.ownBlock])
   go_roundg (xs.length - (i + 1))
   case measure => have:=hi.out;omega
   case rel => exact ⟨i + 1,by rw [next_i i _ hlt' HL.out],⟨by have:=hi.out;omega⟩,⟨hS1⟩,⟨pw_below_grown HB'.out (some g) HB'.out.size hg1 (fun k_ e_ => by injection e_ with e_;omega)⟩⟩
  ·have c3b0 : decide ((i : Int) < (xs.length : Int)) = false:=decide_eq_false hlt
   have c3b1 : decide (i < xs.length) = false:=decide_eq_false (by omega)
   go_wp2
   go_ret
   have he : xs.length ≤ i:=by omega
   have hS:=HA.out
   rw [List.take_of_length_le he,show xs.length - i = 0 by omega,List.replicate_zero,List.append_nil] at hS
   exact ⟨_,rfl,hS,HB.out⟩
end
end Go.Proofs.YtojedbogbodkiaaDoor.KCs
