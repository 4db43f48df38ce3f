/- Of this claim's own making;what nothing names is struck (fewall.py). -/
import Derived.Test.YtojedbogbodkiaaDoorKGrx8
import Derived.Test.YtojedbogbodkiaaDoorGrB
import Derived.Test.YtojedbogbodkiaaDoorKS
set_option linter.unusedVariables false
set_option linter.unusedSimpArgs false
namespace Go.Proofs.YtojedbogbodkiaaDoor.KGr
open Go.RowKit Go.Proofs.YtojedbogbodkiaaDoorW.PrintWords Go.Proofs.YtojedbogbodkiaaDoorW.PrintLast Go.Proofs.YtojedbogbodkiaaDoorW.PrintMore
def COMMA : ByteArray:=⟨#[44]⟩
def SEMI : ByteArray:=⟨#[59]⟩
def NOT : ByteArray:=⟨#[92,43]⟩
def DO : ByteArray:=⟨#[100,111]⟩
def EQ1 : ByteArray:=⟨#[61]⟩
def twoT (s : ByteArray) (a b : S29) : S29:=⟨4,s,0,[a,b]⟩
def varT (n : Int) : S29:=⟨1,⟨#[]⟩,n,[]⟩
def nxt (n : Int) : Int:=wrap64 (n + 1)
def newV (n : Int) : Int:=wrap64 (wrap64 (n + 1) - 1)
def hdB (t : S29) : Bool:=!((pv t).toList == []) && !(ctl.any fun y => (pv t).toList == y)
def simB (t : S29) : Bool:=hdB t && decide (t.f3.length ≤ 3)
def kid (t : S29) (i : Nat) : S29:=t.f3.getD i z29
def gbody : Nat → S29 → Int → Int → Int → Bool → S29 × Int × Bool
 | 0,_,_,_,n,b => (z29,n,b)
 | k + 1,t,x,y,n,b =>
  if isB COMMA 2 t = true then (twoT COMMA (gbody k (kid t 0) x (newV n) (nxt n) b).1 (gbody k (kid t 1) (newV n) y (gbody k (kid t 0) x (newV n) (nxt n) b).2.1 (gbody k (kid t 0) x (newV n) (nxt n) b).2.2).1,(gbody k (kid t 1) (newV n) y (gbody k (kid t 0) x (newV n) (nxt n) b).2.1 (gbody k (kid t 0) x (newV n) (nxt n) b).2.2).2)
  else if isB SEMI 2 t = true then (twoT SEMI (gbody k (kid t 0) x y n b).1 (gbody k (kid t 1) x y (gbody k (kid t 0) x y n b).2.1 (gbody k (kid t 0) x y n b).2.2).1,(gbody k (kid t 1) x y (gbody k (kid t 0) x y n b).2.1 (gbody k (kid t 0) x y n b).2.2).2)
  else if isB NOT 1 t = true then (twoT COMMA ⟨4,NOT,0,[(gbody k (kid t 0) x (newV n) (nxt n) b).1]⟩ (twoT EQ1 (varT x) (varT y)),(gbody k (kid t 0) x (newV n) (nxt n) b).2)
  else if isB DO 1 t = true then (twoT COMMA (kid t 0) (twoT EQ1 (varT x) (varT y)),n,b)
  else if (rowP (k + 1) t (varT y)).2 = true then (twoT EQ1 (varT x) (rowP (k + 1) t (varT y)).1,n,b)
  else if simB t = true then (⟨4,t.f1,0,t.f3 ++ [varT x,varT y]⟩,n,b)
  else (z29,n,true)
theorem hts29_append (a b : List S29) : hts29 (a ++ b) = max (hts29 a) (hts29 b):=by
 induction a with
 | nil => rw [List.nil_append,hts29];omega
 | cons t ts ih => rw [List.cons_append,hts29,hts29,ih];omega
theorem nms29_append {a b : List S29} (h1 : nms29 a) (h2 : nms29 b) : nms29 (a ++ b):=by
 induction a with
 | nil => exact h2
 | cons t ts ih =>
  rw [List.cons_append,nms29]
  rw [nms29] at h1
  exact ⟨h1.1,ih h1.2⟩
theorem one_of_len {l : List S29} (h : l.length = 1) : ∃ x,l = [x]:=by
 match l,h with
 | [x],_ => exact ⟨x,rfl⟩
structure Fit (c h : Nat) (t : S29) : Prop where
 cn : cn29 t ≤ c
 ht : ht29 t ≤ h
 nm : nm29 t
theorem fit_var (n : Int) : Fit 1 1 (varT n):=⟨by rw [cn29_eq];exact Nat.le_refl _,by rw [ht29_eq];exact Nat.le_refl _,by rw [nm29_eq];exact ⟨Nat.zero_le 1048576,trivial⟩⟩
theorem fit_z : Fit 1 1 z29:=⟨by rw [cn29_eq];exact Nat.le_refl _,by rw [ht29_eq];exact Nat.le_refl _,by rw [nm29_eq];exact ⟨Nat.zero_le 1048576,trivial⟩⟩
theorem fit_two {s : ByteArray} {a b : S29} {c1 h1 c2 h2 : Nat} (hs : s.size ≤ 1048576) (f1 : Fit c1 h1 a) (f2 : Fit c2 h2 b) : Fit (c1 + c2 + 1) (max h1 h2 + 1) (twoT s a b):=by
 refine ⟨?_,?_,?_⟩
 ·rw [cn29_eq]
  show cns29 [a,b] + 1 ≤ _
  rw [cns29,cns29,cns29]
  have:=f1.cn
  have:=f2.cn
  omega
 ·rw [ht29_eq]
  show hts29 [a,b] + 1 ≤ _
  rw [hts29,hts29,hts29]
  have:=f1.ht
  have:=f2.ht
  omega
 ·rw [nm29_eq]
  refine ⟨hs,?_⟩
  show nms29 [a,b]
  rw [nms29,nms29,nms29]
  exact ⟨f1.nm,f2.nm,trivial⟩
theorem fit_one {s : ByteArray} {a : S29} {c1 h1 : Nat} (hs : s.size ≤ 1048576) (f1 : Fit c1 h1 a) : Fit (c1 + 1) (h1 + 1) ⟨4,s,0,[a]⟩:=by
 refine ⟨?_,?_,?_⟩
 ·rw [cn29_eq]
  show cns29 [a] + 1 ≤ _
  rw [cns29,cns29]
  have:=f1.cn
  omega
 ·rw [ht29_eq]
  show hts29 [a] + 1 ≤ _
  rw [hts29,hts29]
  have:=f1.ht
  omega
 ·rw [nm29_eq]
  refine ⟨hs,?_⟩
  show nms29 [a]
  rw [nms29,nms29]
  exact ⟨f1.nm,trivial⟩
theorem Fit.le {c h c' h' : Nat} {t : S29} (f : Fit c h t) (h1 : c ≤ c') (h2 : h ≤ h') : Fit c' h' t:=⟨Nat.le_trans f.cn h1,Nat.le_trans f.ht h2,f.nm⟩
theorem fit_self {t : S29} (h : nm29 t) : Fit (cn29 t) (ht29 t) t:=⟨Nat.le_refl _,Nat.le_refl _,h⟩
theorem kids2 {s : ByteArray} {t : S29} (h : isB s 2 t = true) (hn : nm29 t) : ∃ a b,t.f3 = [a,b] ∧ kid t 0 = a ∧ kid t 1 = b ∧ cn29 t = cn29 a + cn29 b + 1 ∧ ht29 t = max (ht29 a) (ht29 b) + 1 ∧ nm29 a ∧ nm29 b:=by
 obtain ⟨a,b,e⟩:=two_of_len (l:=t.f3) (by have:=(isB_kind h).2;omega)
 have h2:=((nm29_eq t).1 hn).2
 rw [e,nms29,nms29] at h2
 refine ⟨a,b,e,by rw [kid,e];rfl,by rw [kid,e];rfl,?_,?_,h2.1,h2.2.1⟩
 ·rw [cn29_eq,e,cns29,cns29,cns29];omega
 ·rw [ht29_eq,e,hts29,hts29,hts29];omega
theorem kids1 {s : ByteArray} {t : S29} (h : isB s 1 t = true) (hn : nm29 t) : ∃ a,t.f3 = [a] ∧ kid t 0 = a ∧ cn29 t = cn29 a + 1 ∧ ht29 t = ht29 a + 1 ∧ nm29 a:=by
 obtain ⟨a,e⟩:=one_of_len (l:=t.f3) (by have:=(isB_kind h).2;omega)
 have h2:=((nm29_eq t).1 hn).2
 rw [e,nms29] at h2
 refine ⟨a,e,by rw [kid,e];rfl,?_,?_,h2.1⟩
 ·rw [cn29_eq,e,cns29,cns29]
 ·rw [ht29_eq,e,hts29,hts29];omega
theorem fit_row : ∀ (m : Nat) (t e : S29),nm29 t → nm29 e → Fit (cn29 t + cn29 e) (ht29 t + ht29 e) (rowP m t e).1:=by
 intro m
 induction m with
 | zero => intro t e h1 h2;exact fit_z.le (by have:=cn29_eq t;omega) (by have:=ht29_eq t;omega)
 | succ m ih =>
  intro t e h1 h2
  rw [rowP]
  split
  ·exact (fit_self h2).le (by omega) (by omega)
  ·split
   ·rename_i h3
    obtain ⟨a,b,e1,k0,k1,cn,ht,na,nb⟩:=kids2 h3 h1
    rw [show t.f3.getD 0 z29 = a from k0,show t.f3.getD 1 z29 = b from k1]
    exact (fit_two (by decide) (fit_self na) (ih b e nb h2)).le (by omega) (by omega)
   ·exact fit_z.le (by have:=cn29_eq t;omega) (by have:=ht29_eq t;omega)
theorem fit_body : ∀ (k : Nat) (t : S29) (x y n : Int) (b : Bool),nm29 t → Fit (8 * cn29 t) (2 * ht29 t + 2) (gbody k t x y n b).1:=by
 intro k
 induction k with
 | zero => intro t x y n b h;exact fit_z.le (by have:=cn29_eq t;omega) (by omega)
 | succ k ih =>
  intro t x y n b h
  have c1:=cn29_eq t
  have h1:=ht29_eq t
  rw [gbody]
  split
  ·rename_i h3
   obtain ⟨p,q,e1,k0,k1,cn,ht,na,nb⟩:=kids2 h3 h
   rw [k0,k1]
   exact (fit_two (by decide) (ih p _ _ _ _ na) (ih q _ _ _ _ nb)).le (by omega) (by omega)
  ·split
   ·rename_i h3
    obtain ⟨p,q,e1,k0,k1,cn,ht,na,nb⟩:=kids2 h3 h
    rw [k0,k1]
    exact (fit_two (by decide) (ih p _ _ _ _ na) (ih q _ _ _ _ nb)).le (by omega) (by omega)
   ·split
    ·rename_i h3
     obtain ⟨p,e1,k0,cn,ht,na⟩:=kids1 h3 h
     rw [k0]
     exact (fit_two (by decide) (fit_one (by decide) (ih p _ _ _ _ na)) (fit_two (by decide) (fit_var x) (fit_var y))).le (by omega) (by omega)
    ·split
     ·rename_i h3
      obtain ⟨p,e1,k0,cn,ht,na⟩:=kids1 h3 h
      rw [k0]
      exact (fit_two (by decide) (fit_self na) (fit_two (by decide) (fit_var x) (fit_var y))).le (by omega) (by omega)
     ·split
      ·have f:=fit_row (k + 1) t (varT y) h (fit_var y).nm
       have a1:=(fit_var y).cn
       have a2:=(fit_var y).ht
       exact (fit_two (by decide) (fit_var x) f).le (by omega) (by omega)
      ·split
       ·refine ⟨?_,?_,?_⟩
        ·rw [cn29_eq]
         show cns29 (t.f3 ++ [varT x,varT y]) + 1 ≤ _
         rw [cns29_append,cns29,cns29,cns29]
         have a1:=(fit_var y).cn
         have a2:=(fit_var x).cn
         omega
        ·rw [ht29_eq]
         show hts29 (t.f3 ++ [varT x,varT y]) + 1 ≤ _
         rw [hts29_append,hts29,hts29,hts29]
         have a1:=(fit_var y).ht
         have a2:=(fit_var x).ht
         omega
        ·have h5:=(nm29_eq t).1 h
         rw [nm29_eq]
         refine ⟨h5.1,nms29_append h5.2 ?_⟩
         rw [nms29,nms29,nms29]
         exact ⟨(fit_var x).nm,(fit_var y).nm,trivial⟩
       ·exact fit_z.le (by omega) (by omega)
section
set_option linter.unusedSectionVars false
variable [fk_laws_szTerm] [fk_laws_eqTerm] [fk_spec_l34Term] [fk_strconv_Itoa]
set_option maxHeartbeats 8000000 in
set_option maxRecDepth 100000 in
theorem impl_var (n : Int) (w : World) : Calls Tryd.prog 101 #[.int .i64 n] w fun e w' => e = .returned (.agg #[.int .i64 1,.string (⟨#[]⟩ : ByteArray),.int .i64 n,.slice none 0 0]) ∧ Below w.heap.size w w':=by
 go_enter Tryd.func101,Tryd.ntmps101
 go_wp2
 refine bodyPost_ret (results_cell_row rfl _ _ w.heap.size 29 #[.int .i64 1,.string (⟨#[]⟩ : ByteArray),.int .i64 n,.slice none 0 0] (0,0) _ rfl (blk_new w _) Tryd.underlying29 rfl (by kernel_rfl)) rfl ?_
 exact ⟨rfl,below_alloc (Below.refl _ _) _⟩
set_option maxHeartbeats 16000000 in
set_option maxRecDepth 100000 in
theorem impl_fresh (w u : World) (g : Nat) (n : Int) (b : Bool) (old : Below w.heap.size w u) (hg : w.heap.size ≤ g) (hb : u.heap[g]? = some (.cells #[.int .i64 n,.bool b] 92 (0,0))) :
  Calls Tryd.prog 77 #[.pointer (some ⟨g,0,none⟩)] u fun e u' => e = .returned (.agg #[.int .i64 1,.string (⟨#[]⟩ : ByteArray),.int .i64 (newV n),.slice none 0 0]) ∧ u'.heap[g]? = some (.cells #[.int .i64 (nxt n),.bool b] 92 (0,0)) ∧ Below w.heap.size u u' ∧ Kept u u' (fun k => k = g):=by
 have HR:=asd (run_fun (a:=As.box g 92 #[.int .i64 n,.bool b]) (ok:=fun k => k = g) old (fun k hk => hk ▸ hg) ⟨rfl,hb⟩)
 clear old hg hb
 go_enter Tryd.func77,Tryd.ntmps77
 go_wp2_with (first
  | ((with_reducible refine gate_dst (N:=2) rfl ?_);refine nb HR 2 (cs:=#[.int .i64 0,.string (⟨#[]⟩ : ByteArray),.int .i64 0,.slice none 0 0]) (t:=29) rfl rfl (by first | (go_simp;done) | (go_simp;rfl)) ?_;clear HR;intro gr w1 HR;obtain ⟨c1g0,c1g1⟩:=HR.out.c2 1 rfl;obtain ⟨f1g0,f1g1⟩:=HR.out.f2 1 rfl)
  | ((with_reducible refine gate_store (t:=3) (p:=9) rfl ?_);refine st1 HR 1 rfl 0 (.int .i64 (wrap64 (n + 1))) rfl rfl rfl (by first | (go_simp;done) | (go_simp;rfl)) (cs':=#[.int .i64 (wrap64 (n + 1)),.bool b]) rfl ?_;clear HR;intro w2 HR;clear c1g0 c1g1 f1g0 f1g1;obtain ⟨c2g0,c2g1⟩:=HR.out.c2 1 rfl)
  | (go_at_call 101;(with_reducible refine (impl_var (wrap64 (wrap64 (n + 1) - 1)) w2).mono ?_);rintro e w3 ⟨rfl,hb⟩;replace HR:=asd (HR.out.step hb);clear hb;clear c2g0 c2g1;obtain ⟨c3gr0,c3gr1,c3gr2,c3gr3⟩:=HR.out.c4 0 rfl;obtain ⟨f3gr0,f3gr1,f3gr2,f3gr3⟩:=HR.out.f4 0 rfl)
  | ((with_reducible refine gate_store (t:=29) (p:=2) rfl ?_);refine stA HR 0 rfl [.int .i64 1,.string (⟨#[]⟩ : ByteArray),.int .i64 (wrap64 (wrap64 (n + 1) - 1)),.slice none 0 0] rfl rfl rfl rfl (by first | (go_simp;done) | (go_simp;rfl)) ?_;clear HR;intro w4 HR;clear c3gr0 c3gr1 c3gr2 c3gr3 f3gr0 f3gr1 f3gr2 f3gr3))
 refine bodyPost_ret (results_cell_row rfl _ _ gr 29 #[.int .i64 1,.string (⟨#[]⟩ : ByteArray),.int .i64 (wrap64 (wrap64 (n + 1) - 1)),.slice none 0 0] (0,0) _ rfl (HR.out.has 0 rfl).2 Tryd.underlying29 rfl (by kernel_rfl)) rfl ?_
 exact ⟨rfl,(HR.out.has 1 rfl).2,HR.out.below,HR.out.kept⟩
set_option maxHeartbeats 8000000 in
set_option maxRecDepth 100000 in
theorem spec_var (n : Int) (w : World) : Calls Tryd.prog 113 #[.int .i64 n] w fun e w' => e = .returned (.agg #[.int .i64 1,.string (⟨#[]⟩ : ByteArray),.int .i64 n,.slice none 0 0]) ∧ Below w.heap.size w w':=by
 go_enter Tryd.func113,Tryd.ntmps113
 go_wp2
 refine bodyPost_ret (results_cell_row rfl _ _ w.heap.size 29 #[.int .i64 1,.string (⟨#[]⟩ : ByteArray),.int .i64 n,.slice none 0 0] (0,0) _ rfl (blk_new w _) Tryd.underlying29 rfl (by kernel_rfl)) rfl ?_
 exact ⟨rfl,below_alloc (Below.refl _ _) _⟩
set_option maxHeartbeats 16000000 in
set_option maxRecDepth 100000 in
theorem spec_fresh (w u : World) (g : Nat) (n : Int) (b : Bool) (old : Below w.heap.size w u) (hg : w.heap.size ≤ g) (hb : u.heap[g]? = some (.cells #[.int .i64 n,.bool b] 102 (0,0))) :
  Calls Tryd.prog 96 #[.pointer (some ⟨g,0,none⟩)] u fun e u' => e = .returned (.agg #[.int .i64 1,.string (⟨#[]⟩ : ByteArray),.int .i64 (newV n),.slice none 0 0]) ∧ u'.heap[g]? = some (.cells #[.int .i64 (nxt n),.bool b] 102 (0,0)) ∧ Below w.heap.size u u' ∧ Kept u u' (fun k => k = g):=by
 have HR:=asd (run_fun (a:=As.box g 102 #[.int .i64 n,.bool b]) (ok:=fun k => k = g) old (fun k hk => hk ▸ hg) ⟨rfl,hb⟩)
 clear old hg hb
 go_enter Tryd.func96,Tryd.ntmps96
 go_wp2_with (first
  | ((with_reducible refine gate_dst (N:=2) rfl ?_);refine nb HR 2 (cs:=#[.int .i64 0,.string (⟨#[]⟩ : ByteArray),.int .i64 0,.slice none 0 0]) (t:=29) rfl rfl (by first | (go_simp;done) | (go_simp;rfl)) ?_;clear HR;intro gr w1 HR;obtain ⟨c1g0,c1g1⟩:=HR.out.c2 1 rfl;obtain ⟨f1g0,f1g1⟩:=HR.out.f2 1 rfl)
  | ((with_reducible refine gate_store (t:=3) (p:=10) rfl ?_);refine st1 HR 1 rfl 0 (.int .i64 (wrap64 (n + 1))) rfl rfl rfl (by first | (go_simp;done) | (go_simp;rfl)) (cs':=#[.int .i64 (wrap64 (n + 1)),.bool b]) rfl ?_;clear HR;intro w2 HR;clear c1g0 c1g1 f1g0 f1g1;obtain ⟨c2g0,c2g1⟩:=HR.out.c2 1 rfl)
  | (go_at_call 113;(with_reducible refine (spec_var (wrap64 (wrap64 (n + 1) - 1)) w2).mono ?_);rintro e w3 ⟨rfl,hb⟩;replace HR:=asd (HR.out.step hb);clear hb;clear c2g0 c2g1;obtain ⟨c3gr0,c3gr1,c3gr2,c3gr3⟩:=HR.out.c4 0 rfl;obtain ⟨f3gr0,f3gr1,f3gr2,f3gr3⟩:=HR.out.f4 0 rfl)
  | ((with_reducible refine gate_store (t:=29) (p:=2) rfl ?_);refine stA HR 0 rfl [.int .i64 1,.string (⟨#[]⟩ : ByteArray),.int .i64 (wrap64 (wrap64 (n + 1) - 1)),.slice none 0 0] rfl rfl rfl rfl (by first | (go_simp;done) | (go_simp;rfl)) ?_;clear HR;intro w4 HR;clear c3gr0 c3gr1 c3gr2 c3gr3 f3gr0 f3gr1 f3gr2 f3gr3))
 refine bodyPost_ret (results_cell_row rfl _ _ gr 29 #[.int .i64 1,.string (⟨#[]⟩ : ByteArray),.int .i64 (wrap64 (wrap64 (n + 1) - 1)),.slice none 0 0] (0,0) _ rfl (HR.out.has 0 rfl).2 Tryd.underlying29 rfl (by kernel_rfl)) rfl ?_
 exact ⟨rfl,(HR.out.has 1 rfl).2,HR.out.below,HR.out.kept⟩
end
theorem Run.oldc {w u W : World} {ok : Nat → Prop} {os : List As} (h : Run w u ok os W) {a : Addr} {v : Value} (hc : u.cell? a = some v) (hn : ¬ ok a.block) : W.cell? a = some v :=
 (World.cell?_of_block (w:=u) (h.kept.2 a.block (World.block_lt_of_cell? u a hc) hn)).trans hc
theorem term_C {W : World} {A : Option Addr} {n c : Nat} {xs : List S29} (h : TermRow W (.slice A n c,xs)) : n = xs.length ∧ n ≤ c ∧ Kd.C k29 W A n xs:=by
 obtain ⟨A',c',e,h1,h2⟩:=h
 injection e with e1 e2 e3
 subst e1
 subst e3
 have e4 : n = xs.length:=e2
 subst e4
 exact ⟨rfl,h1,h2⟩
theorem Run.poolC {w u W : World} {ok : Nat → Prop} {os : List As} {P : Nat → Prop} {l : List (Value × List S29)} (h : Run w u ok os W) (hP : ∀ k,P k → ¬ ok k) (i : Nat) (hi : os[i]? = some (As.pool u P l)) {A : Option Addr} {n c : Nat} {xs : List S29} (hm : (.slice A n c,xs) ∈ l) : Kd.C k29 W A n xs:=(term_C (h.pooled hP i hi _ hm)).2.2
def D4 (W : World) (ad : Addr) (a b c d : Value) : Prop:=W.cell? ad = some a ∧ W.cell? ⟨ad.block,ad.off + 1,none⟩ = some b ∧ W.cell? ⟨ad.block,ad.off + 2,none⟩ = some c ∧ W.cell? ⟨ad.block,ad.off + 3,none⟩ = some d
def E4 (W : World) (ad : Addr) (a b c d : Value) : Prop:=W.cell? ⟨ad.block,ad.off + 4,none⟩ = some a ∧ W.cell? ⟨ad.block,ad.off + 5,none⟩ = some b ∧ W.cell? ⟨ad.block,ad.off + 6,none⟩ = some c ∧ W.cell? ⟨ad.block,ad.off + 7,none⟩ = some d
theorem Run.d4 {w u W : World} {ok : Nat → Prop} {os : List As} (h : Run w u ok os W) {ad : Addr} {a b c d : Value} (x : D4 u ad a b c d) (hn : ¬ ok ad.block) : D4 W ad a b c d:=⟨h.oldc x.1 hn,h.oldc x.2.1 hn,h.oldc x.2.2.1 hn,h.oldc x.2.2.2 hn⟩
theorem Run.e4 {w u W : World} {ok : Nat → Prop} {os : List As} (h : Run w u ok os W) {ad : Addr} {a b c d : Value} (x : E4 u ad a b c d) (hn : ¬ ok ad.block) : E4 W ad a b c d:=⟨h.oldc x.1 hn,h.oldc x.2.1 hn,h.oldc x.2.2.1 hn,h.oldc x.2.2.2 hn⟩
theorem kid2 {u : World} {P : Nat → Prop} {ad : Addr} {c : Nat} {x y : S29} (h : FootRow u P (.slice (some ad) 2 c,[x,y])) :
  ∃ A3 c3 A7 c7,P ad.block ∧ D4 u ad (.int .i64 x.f0) (.string x.f1) (.int .i64 x.f2) (.slice A3 x.f3.length c3) ∧ E4 u ad (.int .i64 y.f0) (.string y.f1) (.int .i64 y.f2) (.slice A7 y.f3.length c7) ∧
   FootRow u P (.slice A3 x.f3.length c3,x.f3) ∧ FootRow u P (.slice A7 y.f3.length c7,y.f3):=by
 obtain ⟨ad1,A3,c3,e1,qx,hx0,hx1,hx2,hx3,hfx⟩:=foot_kid (ts:=[x,y]) h 0 x rfl
 obtain ⟨ad2,A7,c7,e2,qy,hy0,hy1,hy2,hy3,hfy⟩:=foot_kid (ts:=[x,y]) h 1 y rfl
 injection e1 with e1
 injection e2 with e2
 subst e1
 subst e2
 rw [show ad.add (0 * 4) = ad from ad_zero ad] at hx0 hx1 hx2 hx3
 rw [show ad.add (1 * 4) = ⟨ad.block,ad.off + 4,none⟩ from ad_four ad] at hy0 hy1 hy2 hy3
 exact ⟨A3,c3,A7,c7,qx,⟨hx0,hx1,hx2,hx3⟩,⟨hy0,hy1,hy2,hy3⟩,hfx,hfy⟩
theorem kid1 {u : World} {P : Nat → Prop} {ad : Addr} {c : Nat} {x : S29} (h : FootRow u P (.slice (some ad) 1 c,[x])) :
  ∃ A3 c3,P ad.block ∧ D4 u ad (.int .i64 x.f0) (.string x.f1) (.int .i64 x.f2) (.slice A3 x.f3.length c3) ∧ FootRow u P (.slice A3 x.f3.length c3,x.f3):=by
 obtain ⟨ad1,A3,c3,e1,qx,hx0,hx1,hx2,hx3,hfx⟩:=foot_kid (ts:=[x]) h 0 x rfl
 injection e1 with e1
 subst e1
 rw [show ad.add (0 * 4) = ad from ad_zero ad] at hx0 hx1 hx2 hx3
 exact ⟨A3,c3,qx,⟨hx0,hx1,hx2,hx3⟩,hfx⟩
theorem lit1_ok {l : List (Value × List S29)} {a : S29} {va : Value} (ha : (va,a.f3) ∈ l) : ∀ m x,[a][m]? = some x → ∃ v,(v,x.f3) ∈ l ∧ ∀ q u,[Value.int .i64 x.f0,.string x.f1,.int .i64 x.f2,v][q]? = some u → (#[Value.int .i64 a.f0,.string a.f1,.int .i64 a.f2,va] : Array Value)[m * 4 + q]? = some u:=by
 intro m x hx
 match m with
 | 0 =>
  obtain rfl : a = x:=by simpa using hx
  refine ⟨va,ha,fun q u hq => ?_⟩
  match q with
  | 0 => simpa using hq
  | 1 => simpa using hq
  | 2 => simpa using hq
  | 3 => simpa using hq
  | q + 4 => simp at hq
 | m + 1 => simp at hx
def BPost (TT : Nat) (w u : World) (g : Nat) (P : Nat → Prop) (r : S29) (n : Int) (b : Bool) (e : Ending) (u' : World) : Prop:=∃ A c,e = .returned (.agg #[.int .i64 r.f0,.string r.f1,.int .i64 r.f2,.slice A r.f3.length c]) ∧ FootRow u' (fun k => P k ∨ u.heap.size ≤ k) (.slice A r.f3.length c,r.f3) ∧ u'.heap[g]? = some (.cells #[.int .i64 n,.bool b] TT (0,0)) ∧ Below w.heap.size u u' ∧ Kept u u' (fun k => k = g)
def Tb (w : World) : Prop := Lib.TabBelow Tryd.prog w.heap.size w "internal/strconv.uint64pow10" .u64 Lib.pow10Tab
def BodyOk (F TT : Nat) (t : S29) (x y n : Int) (b : Bool) (r : S29) (n' : Int) (b' : Bool) : Prop:=∀ (w u : World) (g : Nat) (P : Nat → Prop) (A : Option Addr) (c : Nat),Tb w → Below w.heap.size w u → w.heap.size ≤ g → ¬ P g → u.heap[g]? = some (.cells #[.int .i64 n,.bool b] TT (0,0)) → FootRow u P (.slice A t.f3.length c,t.f3) →
 Calls Tryd.prog F #[.pointer (some ⟨g,0,none⟩),.agg #[.int .i64 t.f0,.string t.f1,.int .i64 t.f2,.slice A t.f3.length c],.agg #[.int .i64 1,.string (⟨#[]⟩ : ByteArray),.int .i64 x,.slice none 0 0],.agg #[.int .i64 1,.string (⟨#[]⟩ : ByteArray),.int .i64 y,.slice none 0 0]] u fun e u' => BPost TT w u g P r n' b' e u'
theorem BodyOk.go {F TT : Nat} {t : S29} {x y n : Int} {b : Bool} {r : S29} {n' : Int} {b' : Bool} (h : BodyOk F TT t x y n b r n' b') (w u : World) (g : Nat) (P : Nat → Prop) (A : Option Addr) (c : Nat) (h0 : Tb w) (h1 : Below w.heap.size w u) (h2 : w.heap.size ≤ g) (h3 : ¬ P g) (h4 : u.heap[g]? = some (.cells #[.int .i64 n,.bool b] TT (0,0))) (h5 : FootRow u P (.slice A t.f3.length c,t.f3)) :
 Calls Tryd.prog F #[.pointer (some ⟨g,0,none⟩),.agg #[.int .i64 t.f0,.string t.f1,.int .i64 t.f2,.slice A t.f3.length c],.agg #[.int .i64 1,.string (⟨#[]⟩ : ByteArray),.int .i64 x,.slice none 0 0],.agg #[.int .i64 1,.string (⟨#[]⟩ : ByteArray),.int .i64 y,.slice none 0 0]] u fun e u' => BPost TT w u g P r n' b' e u':=h w u g P A c h0 h1 h2 h3 h4 h5
def RowC (F : Nat) (sl : Value) (tv : Value) (ks : List S29) (ev : Value) (r : S29) (b : Bool) : Prop:=∀ (W : World) (Q : Nat → Prop),FootRow W Q (sl,ks) → Calls Tryd.prog F #[tv,ev] W fun en W' => ∃ A c,en = .returned (.tuple #[.agg #[.int .i64 r.f0,.string r.f1,.int .i64 r.f2,.slice A r.f3.length c],.bool b]) ∧ FootRow W' (fun k => Q k ∨ W.heap.size ≤ k) (.slice A r.f3.length c,r.f3) ∧ Below W.heap.size W W'
theorem RowC.go {F : Nat} {sl tv ev : Value} {ks : List S29} {r : S29} {b : Bool} (h : RowC F sl tv ks ev r b) (W : World) (Q : Nat → Prop) (hf : FootRow W Q (sl,ks)) : Calls Tryd.prog F #[tv,ev] W fun en W' => ∃ A c,en = .returned (.tuple #[.agg #[.int .i64 r.f0,.string r.f1,.int .i64 r.f2,.slice A r.f3.length c],.bool b]) ∧ FootRow W' (fun k => Q k ∨ W.heap.size ≤ k) (.slice A r.f3.length c,r.f3) ∧ Below W.heap.size W W':=h W Q hf
def IsC (F : Nat) (A : Option Addr) (n : Nat) (ks : List S29) (tv : Value) (s : ByteArray) (m : Int) (b : Bool) : Prop:=∀ (W : World),Kd.C k29 W A n ks → Calls Tryd.prog F #[tv,.string s,.int .i64 m] W fun e W' => e = .returned (.bool b) ∧ Below W.heap.size W W'
theorem IsC.go {F : Nat} {A : Option Addr} {n : Nat} {ks : List S29} {tv : Value} {s : ByteArray} {m : Int} {b : Bool} (h : IsC F A n ks tv s m b) (W : World) (hc : Kd.C k29 W A n ks) : Calls Tryd.prog F #[tv,.string s,.int .i64 m] W fun e W' => e = .returned (.bool b) ∧ Below W.heap.size W W':=h W hc
def fkP (u : World) (P : Nat → Prop) (x : S29) (cs : List Value) : Prop:=∃ A c,cs = [.int .i64 x.f0,.string x.f1,.int .i64 x.f2,.slice A x.f3.length c] ∧ FootRow u P (.slice A x.f3.length c,x.f3)
def fk (u : World) (P : Nat → Prop) : Kd S29 where
 sz:=4
 E:=[]
 K:=fun _ x c => fkP u P x c
 M:=fun _ _ _ x c => fkP u P x c
 K_len:=by
  rintro w x cs ⟨A,c,rfl,_⟩
  rfl
 K_one:=by
  rintro w x cs ⟨A,c,rfl,_⟩ u hu
  simp only [List.mem_cons,List.not_mem_nil,or_false] at hu
  rcases hu with rfl|rfl|rfl|rfl <;> rfl
 K_below:=fun _ h => h
 K_of_M:=fun h => h
 M_mono:=fun _ h => h
 M_bound:=fun h => h
 M_move:=fun _ h => h
 M_lower:=fun _ h => h
theorem foot_fk {u W : World} {P : Nat → Prop} {A : Option Addr} {c : Nat} {ts : List S29} (h : FootRow u P (.slice A ts.length c,ts)) (hW : ∀ k,P k → k < u.heap.size → W.heap[k]? = u.heap[k]?) : (fk u P).C W A ts.length ts:=by
 obtain ⟨hl,hF⟩:=foot_F h
 have hC:=Kd.F_now hF
 refine ⟨rfl,hC.2.1,fun hn => ?_⟩
 obtain ⟨ad,e,_⟩:=hC.2.2 hn
 refine ⟨ad,e,fun j p hp => ?_⟩
 have hj : j < ts.length:=(List.getElem?_eq_some_iff.1 hp).1
 obtain ⟨ad2,cs,e2,hcl,hK,hc0,hq⟩:=Kd.F_get hF z29 (j : Int) (by omega) (by omega)
 have ee : ad2 = ad:=by
  rw [e] at e2
  injection e2 with e2
  exact e2.symm
 subst ee
 have hx2 : ts.getD (j : Int).toNat z29 = p:=by rw [Int.toNat_natCast,List.getD_eq_getElem?_getD,hp];rfl
 rw [hx2] at hK
 have hb : P ad2.block:=hq (by decide)
 obtain ⟨A3,c3,rfl,l3,g3⟩:=k29_openF hK
 refine ⟨_,rfl,⟨A3,c3,rfl,F_foot l3 g3⟩,fun i v hv => ?_⟩
 have h1 : u.cell? (ad2.add (j * 4 + i)) = some v:=hc0 i v hv
 have h2 : (ad2.add (j * 4 + i)).block = ad2.block:=by unfold Addr.add;split <;> rfl
 have h3:=World.block_lt_of_cell? u _ h1
 exact (World.cell?_of_block (w:=u) (hW _ (h2 ▸ hb) h3)).trans h1
theorem fk_row {b : Nat} {u W : World} {P ok : Nat → Prop} {v : Value} {xs : List S29} (h : (As.rrow (fk u P) 29 v xs).M b W ok) (hP : ∀ k,P k → k < u.heap.size → W.heap[k]? = u.heap[k]?) (hu : u.heap.size ≤ W.heap.size) {Q : Nat → Prop} (h1 : ∀ k,P k → Q k) (h2 : ∀ k,ok k → Q k) : FootRow W Q (v,xs):=by
 intro W' hW
 obtain ⟨A,c,rfl⟩:=Kd.R_slice h
 have h3 : (fk u P).R 29 W' b ok (.slice A xs.length c) xs:=Kd.R_step h (fun k hk hl => hW k (h2 k hk) hl)
 obtain ⟨_,h4,h5⟩:=Kd.R_reads' h3
 refine ⟨A,c,rfl,h4,?_⟩
 refine ReadsRow.imp_ (R:=fkP u P) (R':=k29.K W') h5 (Below.refl _ _) ?_
 rintro x cs ⟨A',c',rfl,hf⟩
 obtain ⟨A2,c2,e,q1,q2⟩:=hf W' (fun k hk hl => (hW k (h1 k hk) (Nat.lt_of_lt_of_le hl hu)).trans (hP k hk hl))
 injection e with e1 e2 e3
 subst e1
 subst e3
 exact k29_mk W' x q1 q2
def leafR (x : S29) (cs : List Value) : Prop:=x.f3 = [] ∧ cs = [.int .i64 x.f0,.string x.f1,.int .i64 x.f2,.slice none 0 0]
theorem leaf_fk {u : World} {P : Nat → Prop} {x : S29} {cs : List Value} (h : leafR x cs) : fkP u P x cs:=by
 obtain ⟨a,b,c,d⟩:=x
 obtain ⟨rfl,rfl⟩:=h
 exact ⟨none,0,rfl,foot_nil _ _⟩
theorem leaf_k29 {W : World} {b : Nat} {ok : Nat → Prop} {x : S29} {cs : List Value} (h : leafR x cs) : k29.M W b ok x cs:=by
 obtain ⟨a,n,c,d⟩:=x
 obtain ⟨rfl,rfl⟩:=h
 exact kD29_M (kD29_leaf W b ok a n c)
theorem lit_leaf {W : World} {g t : Nat} {x y : Int} (hb : W.heap[g]? = some (.cells #[.int .i64 1,.string (⟨#[]⟩ : ByteArray),.int .i64 x,.slice none 0 0,.int .i64 1,.string (⟨#[]⟩ : ByteArray),.int .i64 y,.slice none 0 0] t (0,0))) : ReadsRow leafR 4 W (some ⟨g,0,none⟩) 2 [varT x,varT y] :=
 ⟨rfl,by decide,fun _ => ⟨_,rfl,fun j z hz => by
  match j with
  | 0 =>
   obtain rfl : varT x = z:=by simpa using hz
   refine ⟨_,rfl,⟨rfl,rfl⟩,fun i v hv => ?_⟩
   rw [Go.Proofs.YtojedbogbodkiaaDoorW.PrintWords.add_plain]
   refine (blk_cell hb _).trans ?_
   match i with
   | 0 => simpa [varT] using hv
   | 1 => simpa [varT] using hv
   | 2 => simpa [varT] using hv
   | 3 => simpa [varT] using hv
   | i + 4 => simp at hv
  | 1 =>
   obtain rfl : varT y = z:=by simpa using hz
   refine ⟨_,rfl,⟨rfl,rfl⟩,fun i v hv => ?_⟩
   rw [Go.Proofs.YtojedbogbodkiaaDoorW.PrintWords.add_plain]
   refine (blk_cell hb _).trans ?_
   match i with
   | 0 => simpa [varT] using hv
   | 1 => simpa [varT] using hv
   | 2 => simpa [varT] using hv
   | 3 => simpa [varT] using hv
   | i + 4 => simp at hv
  | j + 2 => simp at hz⟩⟩
theorem Run.rowsStep {w u W : World} {ok : Nat → Prop} {os : List As} {P : Program} {ops : Array Oper} {o : Oper} {a : Act} {Q : Exit → Act → World → Prop} {Kc : Act → World → Prop} {α : Type} (h : Run w u ok os W) (i : Nat) (d : Kd α) {Rr : α → List Value → Prop} {e : Nat} {v : Value} {xs ys : List α} {A : Option Addr} {m c : Nat} (hi : os[i]? = some (As.rrow d e v xs)) (hw : Region.wanted o (yielded ops a.tmps) = true) (s x : Operand) (t : TypeId) (z : Value) (bytes : Nat)
  (ho : o.op = .call { callee:=.builtin .append,args:=#[s,x],argTypes:=#[t,t] }) (ht : P.underlying t = some (.slice e)) (hinfo : (P.info? e).map (fun i => (i.zero,i.size,i.bytes)) = some (some z,d.sz,bytes)) (hz : z.cells.size = d.sz) (hs0 : 0 < d.sz) (hb0 : 0 < bytes)
  (hs : a.eval s = v) (hx : a.eval x = .slice A m c) (HR : ReadsRow Rr d.sz W A m ys) (hKM : ∀ x cs,Rr x cs → d.M W w.heap.size (fun _ => False) x cs) (hl : (xs.length + m) * bytes ≤ 140737488355328)
  (K : ∀ v1 w1,Run w u ok (os.set i (As.rrow d e v1 (xs ++ ys))) w1 → Kc (a.put o.dst v1) w1) : if Region.wanted o (yielded ops a.tmps) = true then Oper.wp P o a W Kc Q else Kc (a.put o.dst undef) W:=by
 obtain ⟨oki,g1,hlo,hput⟩:=h.all i hi
 have hv : ∀ k,v.ownBlock = some k → oki k:=fun k hk => g1.1 k hk
 refine Kd.R_append_rows_step d (w0:=W) w.heap.size hw s x t e z bytes ho ht hinfo hz hs0 hb0 v xs ys A m c (fun k => oki k ∨ W.heap.size ≤ k) (fun _ => False) hs hx (Kd.R_mono g1 (fun k hk => .inl hk)) HR hKM (fun _ h => h.elim) (fun k hk => .inr hk) (Below.refl _ _) h.ww hl ?_
 intro v1 w1 hS hB hg _
 exact K v1 w1 (hput w1 (As.rrow d e v1 (xs ++ ys)) hB ⟨hg.size,fun k hk hn => hg.block k hk (fun e_ => hn (hv k e_.symm))⟩ hS)
theorem Run.rowsEvent {w u W : World} {ok : Nat → Prop} {os : List As} {P : Program} {ops : Array Oper} {rest : List Oper} {o : Oper} {a : Act} {Q : Exit → Act → World → Prop} {α : Type} (h : Run w u ok os W) (i : Nat) (d : Kd α) {Rr : α → List Value → Prop} {e : Nat} {v : Value} {xs ys : List α} {A : Option Addr} {m c : Nat} (hi : os[i]? = some (As.rrow d e v xs)) (hgd : o.guard = none) (s x : Operand) (t : TypeId) (z : Value) (bytes : Nat)
  (ho : o.op = .call { callee:=.builtin .append,args:=#[s,x],argTypes:=#[t,t] }) (ht : P.underlying t = some (.slice e)) (hinfo : (P.info? e).map (fun i => (i.zero,i.size,i.bytes)) = some (some z,d.sz,bytes)) (hz : z.cells.size = d.sz) (hs0 : 0 < d.sz) (hb0 : 0 < bytes)
  (hs : a.eval s = v) (hx : a.eval x = .slice A m c) (HR : ReadsRow Rr d.sz W A m ys) (hKM : ∀ x cs,Rr x cs → d.M W w.heap.size (fun _ => False) x cs) (hl : (xs.length + m) * bytes ≤ 140737488355328)
  (K : ∀ v1 w1,Run w u ok (os.set i (As.rrow d e v1 (xs ++ ys))) w1 → wpList P ops Q rest (a.put o.dst v1) w1) : wpList P ops Q (o :: rest) a W:=by
 obtain ⟨oki,g1,hlo,hput⟩:=h.all i hi
 have hv : ∀ k,v.ownBlock = some k → oki k:=fun k hk => g1.1 k hk
 refine Kd.R_append_rows d (w0:=W) w.heap.size hgd s x t e z bytes ho ht hinfo hz hs0 hb0 v xs ys A m c (fun k => oki k ∨ W.heap.size ≤ k) (fun _ => False) hs hx (Kd.R_mono g1 (fun k hk => .inl hk)) HR hKM (fun _ h => h.elim) (fun k hk => .inr hk) (Below.refl _ _) h.ww hl ?_
 intro v1 w1 hS hB hg _
 exact K v1 w1 (hput w1 (As.rrow d e v1 (xs ++ ys)) hB ⟨hg.size,fun k hk hn => hg.block k hk (fun e_ => hn (hv k e_.symm))⟩ hS)
theorem Run.own {w u W : World} {ok : Nat → Prop} {os : List As} {a : As} (h : Run w u ok os W) (i : Nat) (hi : os[i]? = some a) (j : Nat) {g t : Nat} {cs : Array Value} (hj : os[j]? = some (As.box g t cs)) (hij : i ≠ j) (hg : ∀ k,ok k → k = g) : a.M w.heap.size W (fun k => u.heap.size ≤ k):=by
 obtain ⟨f,hf⟩:=h.sep
 refine a.mono (fun k hk => ?_) (hf i a hi)
 rcases hk.2 with h2|h2
 ·exact absurd (hk.1.symm.trans ((hg k h2) ▸ (hf j _ hj).1.1)) hij
 ·exact h2
end Go.Proofs.YtojedbogbodkiaaDoor.KGr
