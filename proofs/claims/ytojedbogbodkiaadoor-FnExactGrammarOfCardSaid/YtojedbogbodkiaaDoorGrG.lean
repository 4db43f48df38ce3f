/- Of this claim's own making;what nothing names is struck (fewall.py). -/
import Derived.Test.YtojedbogbodkiaaDoorKGrx8
import Derived.Test.YtojedbogbodkiaaDoorGrD
import Derived.Test.YtojedbogbodkiaaDoorGrE
import Derived.Test.YtojedbogbodkiaaDoorGrF
import Derived.Test.YtojedbogbodkiaaDoorKS
set_option linter.unusedVariables false
set_option linter.unusedSimpArgs false
namespace Go.Proofs.YtojedbogbodkiaaDoor.KGr
open Go.RowKit Go.Proofs.YtojedbogbodkiaaDoorW.PrintWords Go.Proofs.YtojedbogbodkiaaDoorW.PrintLast Go.Proofs.YtojedbogbodkiaaDoorW.PrintMore
def PredC : Prop:=∀ (t : S29) (A : Option Addr) (c : Nat) (W : World),t.f1.size ≤ 1048576 → t.f3.length ≤ 1048576 → Tb W → Kd.C k29 W A t.f3.length t.f3 → t.f3.length ≤ c → Calls Tryd.prog 13 #[.agg #[.int .i64 t.f0,.string t.f1,.int .i64 t.f2,.slice A t.f3.length c]] W fun e W' => e = .returned (.string (pv t)) ∧ Below W.heap.size W W'
def CtlC : Prop:=∀ (s : ByteArray) (W : World),Calls Tryd.prog 80 #[.string s] W fun e W' => e = .returned (.bool (ctl.any fun y => s.toList == y)) ∧ Below W.heap.size W W'
def SimC : Prop:=∀ (t : S29) (A : Option Addr) (c : Nat) (W : World),t.f1.size ≤ 1048576 → t.f3.length ≤ 1048576 → Kd.C k29 W A t.f3.length t.f3 → t.f3.length ≤ c → Calls Tryd.prog 94 #[.agg #[.int .i64 t.f0,.string t.f1,.int .i64 t.f2,.slice A t.f3.length c]] W fun e W' => e = .returned (.bool (simB t)) ∧ Below W.heap.size W W'
def ntP (t : S29) (x y n : Int) (b : Bool) : S29 × Int × Bool:=if simB t = true then (⟨4,t.f1,0,t.f3 ++ [varT x,varT y]⟩,n,b) else (z29,n,true)
theorem pv_ne {t : S29} (h : t.f0 = 2 ∨ t.f0 = 4) : (pv t).toList ≠ []:=by
 unfold pv
 rw [if_pos h,ByteArray.toList_eq]
 intro e
 have h2 : (t.f1 ++ (⟨#[47]⟩ : ByteArray) ++ dtx t.f3.length).size = 0:=by
  show (t.f1 ++ (⟨#[47]⟩ : ByteArray) ++ dtx t.f3.length).data.size = 0
  rw [← Array.length_toList,e]
  rfl
 rw [ByteArray.size_append,ByteArray.size_append] at h2
 have h3 : (⟨#[47]⟩ : ByteArray).size = 1:=rfl
 omega
theorem sim_kind {t : S29} (h : t.f0 = 2 ∨ t.f0 = 4) (hl : t.f3.length ≤ 3) : simB t = !(ctl.any fun y => (pv t).toList == y):=by
 unfold simB hdB
 rw [beq_eq_false_iff_ne.2 (pv_ne h),decide_eq_true hl]
 simp
theorem sim_other {t : S29} (h2 : t.f0 ≠ 2) (h4 : t.f0 ≠ 4) : simB t = false:=by
 unfold simB hdB pv
 rw [if_neg (fun h => h.elim h2 h4)]
 simp
theorem sim_long {t : S29} (h : ¬ t.f3.length ≤ 3) : simB t = false:=by
 unfold simB
 rw [decide_eq_false h,Bool.and_false]
section
set_option linter.unusedSectionVars false
variable [fk_laws_szTerm] [fk_laws_eqTerm] [fk_spec_l34Term] [fk_strconv_Itoa]
theorem nt_all (hp : PredC) (hct : CtlC) (hcp : ∀ x : S29,cn29 x ≤ 1048577 → CpT x) (t : S29) (hn : nm29 t) (hc : cn29 t ≤ 1048577) (x y n : Int) (b : Bool) : BodyOk 78 92 t x y n b (ntP t x y n b).1 (ntP t x y n b).2.1 (ntP t x y n b).2.2:=by
 intro w u g P A c tb old hg hP hb ht
 have hs:=((nm29_eq t).1 hn).1
 have hcc:=hc
 rw [cn29_eq] at hcc
 have hl : t.f3.length ≤ 1048576:=by have:=cns29_len t.f3;omega
 have hcap:=(term_C (ht u (fun _ _ _ => rfl))).2.1
 by_cases h2 : t.f0 = 2
 ·by_cases h3 : t.f3.length ≤ 3
  ·have e:=sim_kind (.inl h2) h3
   unfold ntP
   rw [e]
   obtain ⟨a0,a1,a2,ks⟩:=t
   obtain rfl : a0 = 2:=h2
   have p1 : ∀ W,Below w.heap.size w W → Kd.C k29 W A ks.length ks → Calls Tryd.prog 13 #[.agg #[.int .i64 2,.string a1,.int .i64 a2,.slice A ks.length c]] W fun e W' => e = .returned (.string (pv ⟨2,a1,a2,ks⟩)) ∧ Below W.heap.size W W':=fun W hB hC => hp ⟨2,a1,a2,ks⟩ A c W hs hl (tab_at tb hB) hC hcap
   rcases Bool.eq_false_or_eq_true (ctl.any fun y => (pv (⟨2,a1,a2,ks⟩ : S29)).toList == y) with hq|hq
   ·rw [hq]
    exact nt_ctl2 a1 a2 ks x y n b _ w u g P A c old hg hP hb ht h3 p1 (fun W => by have:=hct (pv ⟨2,a1,a2,ks⟩) W;rw [hq] at this;exact this)
   ·rw [hq]
    exact nt_ok2 a1 a2 ks x y n b _ w u g P A c old hg hP hb ht h3 p1 (fun W => by have:=hct (pv ⟨2,a1,a2,ks⟩) W;rw [hq] at this;exact this) (fun W hC => cts_calls ks hl (fun z hz => hcp z (by have:=cns29_mem hz;have e2 : cns29 (⟨2,a1,a2,ks⟩ : S29).f3 = cns29 ks:=rfl;omega)) A c W hC)
  ·unfold ntP
   rw [sim_long h3]
   obtain ⟨a0,a1,a2,ks⟩:=t
   obtain rfl : a0 = 2:=h2
   exact nt_len2 a1 a2 ks x y n b ⟨#[]⟩ w u g P A c old hg hP hb ht h3
 ·by_cases h4 : t.f0 = 4
  ·by_cases h3 : t.f3.length ≤ 3
   ·have e:=sim_kind (.inr h4) h3
    unfold ntP
    rw [e]
    obtain ⟨a0,a1,a2,ks⟩:=t
    obtain rfl : a0 = 4:=h4
    have p1 : ∀ W,Below w.heap.size w W → Kd.C k29 W A ks.length ks → Calls Tryd.prog 13 #[.agg #[.int .i64 4,.string a1,.int .i64 a2,.slice A ks.length c]] W fun e W' => e = .returned (.string (pv ⟨4,a1,a2,ks⟩)) ∧ Below W.heap.size W W':=fun W hB hC => hp ⟨4,a1,a2,ks⟩ A c W hs hl (tab_at tb hB) hC hcap
    rcases Bool.eq_false_or_eq_true (ctl.any fun y => (pv (⟨4,a1,a2,ks⟩ : S29)).toList == y) with hq|hq
    ·rw [hq]
     exact nt_ctl4 a1 a2 ks x y n b _ w u g P A c old hg hP hb ht h3 p1 (fun W => by have:=hct (pv ⟨4,a1,a2,ks⟩) W;rw [hq] at this;exact this)
    ·rw [hq]
     exact nt_ok4 a1 a2 ks x y n b _ w u g P A c old hg hP hb ht h3 p1 (fun W => by have:=hct (pv ⟨4,a1,a2,ks⟩) W;rw [hq] at this;exact this) (fun W hC => cts_calls ks hl (fun z hz => hcp z (by have:=cns29_mem hz;have e2 : cns29 (⟨4,a1,a2,ks⟩ : S29).f3 = cns29 ks:=rfl;omega)) A c W hC)
   ·unfold ntP
    rw [sim_long h3]
    obtain ⟨a0,a1,a2,ks⟩:=t
    obtain rfl : a0 = 4:=h4
    exact nt_len4 a1 a2 ks x y n b ⟨#[]⟩ w u g P A c old hg hP hb ht h3
  ·unfold ntP
   rw [sim_other h2 h4]
   exact nt_kind t x y n b ⟨#[]⟩ w u g P A c old hg hP hb ht h2 h4
end
section
set_option linter.unusedSectionVars false
variable [fk_laws_szTerm] [fk_laws_eqTerm] [fk_spec_l34Term] [fk_strconv_Itoa]
set_option maxHeartbeats 4000000 in
theorem impl_body_all (hp : PredC) (hct : CtlC) (hcp : ∀ x : S29,cn29 x ≤ 1048577 → CpT x) : ∀ (k : Nat) (t : S29),ht29 t ≤ k → nm29 t → cn29 t ≤ 1048577 → ∀ (x y n : Int) (b : Bool),BodyOk 79 92 t x y n b (gbody k t x y n b).1 (gbody k t x y n b).2.1 (gbody k t x y n b).2.2:=by
 intro k
 induction k with
 | zero =>
  intro t h
  rw [ht29_eq] at h
  omega
 | succ k ih =>
  intro t h hn hc x y n b w u g P A c tb old hg hP hb ht
  have hcap:=(term_C (ht u (fun _ _ _ => rfl))).2.1
  have hC0:=(term_C (ht u (fun _ _ _ => rfl))).2.2
  have his : ∀ (s : ByteArray) (m : Int) (bb : Bool),isB s m t = bb → ∀ W,Kd.C k29 W A t.f3.length t.f3 → Calls Tryd.prog 61 #[.agg #[.int .i64 t.f0,.string t.f1,.int .i64 t.f2,.slice A t.f3.length c],.string s,.int .i64 m] W fun e W' => e = .returned (.bool bb) ∧ Below W.heap.size W W' :=
   fun s m bb e W hC => impl_isStruct.calls t.f0 t.f1 t.f2 A c t.f3 s m bb W hC hcap (by rw [is_i,e])
  have hrow : ∀ (W : World) (Q : Nat → Prop),FootRow W Q (.slice A t.f3.length c,t.f3) → Calls Tryd.prog 103 #[.agg #[.int .i64 t.f0,.string t.f1,.int .i64 t.f2,.slice A t.f3.length c],.agg #[.int .i64 1,.string (⟨#[]⟩ : ByteArray),.int .i64 y,.slice none 0 0]] W fun en W' => ∃ A c,en = .returned (.tuple #[.agg #[.int .i64 (rowP (k + 1) t (varT y)).1.f0,.string (rowP (k + 1) t (varT y)).1.f1,.int .i64 (rowP (k + 1) t (varT y)).1.f2,.slice A (rowP (k + 1) t (varT y)).1.f3.length c],.bool (rowP (k + 1) t (varT y)).2]) ∧ FootRow W' (fun k => Q k ∨ W.heap.size ≤ k) (.slice A (rowP (k + 1) t (varT y)).1.f3.length c,(rowP (k + 1) t (varT y)).1.f3) ∧ Below W.heap.size W W' :=
   fun W Q hf => impl_row (k + 1) t h (varT y) W Q A c none 0 hf (foot_nil _ _)
  have hs:=((nm29_eq t).1 hn).1
  have hl : t.f3.length ≤ 1048576:=by
   have:=cns29_len t.f3
   rw [cn29_eq] at hc
   omega
  by_cases h1 : isB COMMA 2 t = true
  ·rw [gbody,if_pos h1]
   obtain ⟨p,q,e1,k0,k1,cn,ht',na,nb⟩:=kids2 h1 hn
   rw [k0,k1]
   have i1:=ih p (by omega) na (by omega)
   have i2:=ih q (by omega) nb (by omega)
   have g1:=his _ _ _ h1
   obtain ⟨a0,a1,a2,l⟩:=t
   obtain rfl : l = [p,q]:=e1
   obtain ⟨ad,rfl,_⟩:=hC0.2.2 (show 0 < 2 by decide)
   exact impl_b_and a0 a1 a2 p q x y n b _ _ _ _ _ _ _ _ w u g P ad c tb old hg hP hb ht hrow g1 (i1 _ _ _ _) (i2 _ _ _ _)
  have h1' : isB COMMA 2 t = false:=by simpa using h1
  by_cases h2 : isB SEMI 2 t = true
  ·rw [gbody,if_neg h1,if_pos h2]
   obtain ⟨p,q,e1,k0,k1,cn,ht',na,nb⟩:=kids2 h2 hn
   rw [k0,k1]
   have i1:=ih p (by omega) na (by omega)
   have i2:=ih q (by omega) nb (by omega)
   have g1:=his _ _ _ h1'
   have g2:=his _ _ _ h2
   obtain ⟨a0,a1,a2,l⟩:=t
   obtain rfl : l = [p,q]:=e1
   obtain ⟨ad,rfl,_⟩:=hC0.2.2 (show 0 < 2 by decide)
   exact impl_b_or a0 a1 a2 p q x y n b _ _ _ _ _ _ _ _ w u g P ad c tb old hg hP hb ht hrow g1 g2 (i1 _ _ _ _) (i2 _ _ _ _)
  have h2' : isB SEMI 2 t = false:=by simpa using h2
  by_cases h3 : isB NOT 1 t = true
  ·rw [gbody,if_neg h1,if_neg h2,if_pos h3]
   obtain ⟨p,e1,k0,cn,ht',na⟩:=kids1 h3 hn
   rw [k0]
   have i1:=ih p (by omega) na (by omega)
   have g1:=his _ _ _ h1'
   have g2:=his _ _ _ h2'
   have g3:=his _ _ _ h3
   obtain ⟨a0,a1,a2,l⟩:=t
   obtain rfl : l = [p]:=e1
   obtain ⟨ad,rfl,_⟩:=hC0.2.2 (show 0 < 1 by decide)
   exact impl_b_not a0 a1 a2 p x y n b _ _ _ _ _ w u g P ad c tb old hg hP hb ht hrow g1 g2 g3 (i1 _ _ _ _)
  have h3' : isB NOT 1 t = false:=by simpa using h3
  by_cases h4 : isB DO 1 t = true
  ·rw [gbody,if_neg h1,if_neg h2,if_neg h3,if_pos h4]
   obtain ⟨p,e1,k0,cn,ht',na⟩:=kids1 h4 hn
   rw [k0]
   have g1:=his _ _ _ h1'
   have g2:=his _ _ _ h2'
   have g3:=his _ _ _ h3'
   have g4:=his _ _ _ h4
   obtain ⟨a0,a1,a2,l⟩:=t
   obtain rfl : l = [p]:=e1
   obtain ⟨ad,rfl,_⟩:=hC0.2.2 (show 0 < 1 by decide)
   exact impl_b_do a0 a1 a2 p x y n b _ _ w u g P ad c tb old hg hP hb ht hrow g1 g2 g3 g4
  have h4' : isB DO 1 t = false:=by simpa using h4
  have g1:=his _ _ _ h1'
  have g2:=his _ _ _ h2'
  have g3:=his _ _ _ h3'
  have g4:=his _ _ _ h4'
  by_cases h5 : (rowP (k + 1) t (varT y)).2 = true
  ·rw [gbody,if_neg h1,if_neg h2,if_neg h3,if_neg h4,if_pos h5]
   rw [h5] at hrow
   exact impl_b_row t x y n b _ w u g P A c tb old hg hP hb ht hrow g1 g2 g3 g4
  have h5' : (rowP (k + 1) t (varT y)).2 = false:=by simpa using h5
  rw [h5'] at hrow
  have e6 : gbody (k + 1) t x y n b = ntP t x y n b:=by
   rw [gbody,if_neg h1,if_neg h2,if_neg h3,if_neg h4,if_neg h5]
   rfl
  rw [e6]
  exact impl_b_non t x y n b _ _ _ _ w u g P A c tb old hg hP hb ht hrow g1 g2 g3 g4 (nt_all hp hct hcp t hn hc x y n b)
set_option maxHeartbeats 4000000 in
theorem spec_body_all (hsm : SimC) : ∀ (k : Nat) (t : S29),ht29 t ≤ k → nm29 t → cn29 t ≤ 1048577 → ∀ (x y n : Int) (b : Bool),BodyOk 99 102 t x y n b (gbody k t x y n b).1 (gbody k t x y n b).2.1 (gbody k t x y n b).2.2:=by
 intro k
 induction k with
 | zero =>
  intro t h
  rw [ht29_eq] at h
  omega
 | succ k ih =>
  intro t h hn hc x y n b w u g P A c tb old hg hP hb ht
  have hcap:=(term_C (ht u (fun _ _ _ => rfl))).2.1
  have hC0:=(term_C (ht u (fun _ _ _ => rfl))).2.2
  have his : ∀ (s : ByteArray) (m : Int) (bb : Bool),isB s m t = bb → ∀ W,Kd.C k29 W A t.f3.length t.f3 → Calls Tryd.prog 90 #[.agg #[.int .i64 t.f0,.string t.f1,.int .i64 t.f2,.slice A t.f3.length c],.string s,.int .i64 m] W fun e W' => e = .returned (.bool bb) ∧ Below W.heap.size W W' :=
   fun s m bb e W hC => spec_l03Is.calls t.f0 t.f1 t.f2 A c t.f3 s m bb W hC hcap (by rw [is_s,e])
  have hrow : ∀ (W : World) (Q : Nat → Prop),FootRow W Q (.slice A t.f3.length c,t.f3) → Calls Tryd.prog 114 #[.agg #[.int .i64 t.f0,.string t.f1,.int .i64 t.f2,.slice A t.f3.length c],.agg #[.int .i64 1,.string (⟨#[]⟩ : ByteArray),.int .i64 y,.slice none 0 0]] W fun en W' => ∃ A c,en = .returned (.tuple #[.agg #[.int .i64 (rowP (k + 1) t (varT y)).1.f0,.string (rowP (k + 1) t (varT y)).1.f1,.int .i64 (rowP (k + 1) t (varT y)).1.f2,.slice A (rowP (k + 1) t (varT y)).1.f3.length c],.bool (rowP (k + 1) t (varT y)).2]) ∧ FootRow W' (fun k => Q k ∨ W.heap.size ≤ k) (.slice A (rowP (k + 1) t (varT y)).1.f3.length c,(rowP (k + 1) t (varT y)).1.f3) ∧ Below W.heap.size W W' :=
   fun W Q hf => spec_row (k + 1) t h (varT y) W Q A c none 0 hf (foot_nil _ _)
  have hs:=((nm29_eq t).1 hn).1
  have hl : t.f3.length ≤ 1048576:=by
   have:=cns29_len t.f3
   rw [cn29_eq] at hc
   omega
  by_cases h1 : isB COMMA 2 t = true
  ·rw [gbody,if_pos h1]
   obtain ⟨p,q,e1,k0,k1,cn,ht',na,nb⟩:=kids2 h1 hn
   rw [k0,k1]
   have i1:=ih p (by omega) na (by omega)
   have i2:=ih q (by omega) nb (by omega)
   have g1:=his _ _ _ h1
   obtain ⟨a0,a1,a2,l⟩:=t
   obtain rfl : l = [p,q]:=e1
   obtain ⟨ad,rfl,_⟩:=hC0.2.2 (show 0 < 2 by decide)
   exact spec_b_and a0 a1 a2 p q x y n b _ _ _ _ _ _ _ _ w u g P ad c tb old hg hP hb ht hrow g1 (i1 _ _ _ _) (i2 _ _ _ _)
  have h1' : isB COMMA 2 t = false:=by simpa using h1
  by_cases h2 : isB SEMI 2 t = true
  ·rw [gbody,if_neg h1,if_pos h2]
   obtain ⟨p,q,e1,k0,k1,cn,ht',na,nb⟩:=kids2 h2 hn
   rw [k0,k1]
   have i1:=ih p (by omega) na (by omega)
   have i2:=ih q (by omega) nb (by omega)
   have g1:=his _ _ _ h1'
   have g2:=his _ _ _ h2
   obtain ⟨a0,a1,a2,l⟩:=t
   obtain rfl : l = [p,q]:=e1
   obtain ⟨ad,rfl,_⟩:=hC0.2.2 (show 0 < 2 by decide)
   exact spec_b_or a0 a1 a2 p q x y n b _ _ _ _ _ _ _ _ w u g P ad c tb old hg hP hb ht hrow g1 g2 (i1 _ _ _ _) (i2 _ _ _ _)
  have h2' : isB SEMI 2 t = false:=by simpa using h2
  by_cases h3 : isB NOT 1 t = true
  ·rw [gbody,if_neg h1,if_neg h2,if_pos h3]
   obtain ⟨p,e1,k0,cn,ht',na⟩:=kids1 h3 hn
   rw [k0]
   have i1:=ih p (by omega) na (by omega)
   have g1:=his _ _ _ h1'
   have g2:=his _ _ _ h2'
   have g3:=his _ _ _ h3
   obtain ⟨a0,a1,a2,l⟩:=t
   obtain rfl : l = [p]:=e1
   obtain ⟨ad,rfl,_⟩:=hC0.2.2 (show 0 < 1 by decide)
   exact spec_b_not a0 a1 a2 p x y n b _ _ _ _ _ w u g P ad c tb old hg hP hb ht hrow g1 g2 g3 (i1 _ _ _ _)
  have h3' : isB NOT 1 t = false:=by simpa using h3
  by_cases h4 : isB DO 1 t = true
  ·rw [gbody,if_neg h1,if_neg h2,if_neg h3,if_pos h4]
   obtain ⟨p,e1,k0,cn,ht',na⟩:=kids1 h4 hn
   rw [k0]
   have g1:=his _ _ _ h1'
   have g2:=his _ _ _ h2'
   have g3:=his _ _ _ h3'
   have g4:=his _ _ _ h4
   obtain ⟨a0,a1,a2,l⟩:=t
   obtain rfl : l = [p]:=e1
   obtain ⟨ad,rfl,_⟩:=hC0.2.2 (show 0 < 1 by decide)
   exact spec_b_do a0 a1 a2 p x y n b _ _ w u g P ad c tb old hg hP hb ht hrow g1 g2 g3 g4
  have h4' : isB DO 1 t = false:=by simpa using h4
  have g1:=his _ _ _ h1'
  have g2:=his _ _ _ h2'
  have g3:=his _ _ _ h3'
  have g4:=his _ _ _ h4'
  by_cases h5 : (rowP (k + 1) t (varT y)).2 = true
  ·rw [gbody,if_neg h1,if_neg h2,if_neg h3,if_neg h4,if_pos h5]
   rw [h5] at hrow
   exact spec_b_row t x y n b _ w u g P A c tb old hg hP hb ht hrow g1 g2 g3 g4
  have h5' : (rowP (k + 1) t (varT y)).2 = false:=by simpa using h5
  rw [h5'] at hrow
  by_cases h6 : simB t = true
  ·rw [gbody,if_neg h1,if_neg h2,if_neg h3,if_neg h4,if_neg h5,if_pos h6]
   refine spec_b_non t x y n b _ _ w u g P A c tb old hg hP hb ht hrow g1 g2 g3 g4 (fun W hC => ?_) (fun W Q hf => with_calls t x y hl A c W Q hf)
   have:=hsm t A c W hs hl hC hcap
   rw [h6] at this
   exact this
  ·rw [gbody,if_neg h1,if_neg h2,if_neg h3,if_neg h4,if_neg h5,if_neg h6]
   refine spec_b_bad t x y n b _ w u g P A c tb old hg hP hb ht hrow g1 g2 g3 g4 (fun W hC => ?_)
   have:=hsm t A c W hs hl hC hcap
   rw [show simB t = false by simpa using h6] at this
   exact this
end
mutual
def vsT : S29 → List Int → List Int
 | ⟨a,_,b,ks⟩,l => vsS ks (if a = 1 ∧ l.contains b = false then l ++ [b] else l)
def vsS : List S29 → List Int → List Int
 | [],l => l
 | t :: ts,l => vsS ts (vsT t l)
end
def hdV (t : S29) (l : List Int) : List Int:=if t.f0 = 1 ∧ l.contains t.f2 = false then l ++ [t.f2] else l
theorem vsT_eq (t : S29) (l : List Int) : vsT t l = vsS t.f3 (hdV t l):=by cases t;rw [vsT];rfl
theorem vsS_append : ∀ (ts us : List S29) (l : List Int),vsS (ts ++ us) l = vsS us (vsS ts l)
 | [],us,l => by rw [vsS,List.nil_append]
 | t :: ts,us,l => by rw [List.cons_append,vsS,vsS,vsS_append ts us]
theorem vsS_take (ts : List S29) (i : Nat) (h : i < ts.length) (l : List Int) : vsS (ts.take (i + 1)) l = vsT ts[i] (vsS (ts.take i) l):=by
 rw [List.take_succ_eq_append_getElem h,vsS_append,vsS,vsS]
theorem hdV_len (t : S29) (l : List Int) : (hdV t l).length ≤ l.length + 1:=by
 unfold hdV
 split
 ·rw [List.length_append];exact Nat.le_refl _
 ·omega
theorem vs_len (n : Nat) : (∀ t l,ht29 t ≤ n → (vsT t l).length ≤ l.length + cn29 t) ∧ ∀ ts l,hts29 ts ≤ n → (vsS ts l).length ≤ l.length + cns29 ts:=by
 induction n with
 | zero =>
  refine ⟨fun t l h => by rw [ht29_eq] at h;omega,fun ts l h => ?_⟩
  cases ts with
  | nil => rw [vsS];omega
  | cons t ts => rw [hts29] at h;have:=ht29_eq t;omega
 | succ n ih =>
  have h1 : ∀ t l,ht29 t ≤ n + 1 → (vsT t l).length ≤ l.length + cn29 t:=fun t l h => by
   rw [ht29_eq] at h
   have h2:=ih.2 t.f3 (hdV t l) (by omega)
   have h3:=hdV_len t l
   rw [vsT_eq,cn29_eq]
   omega
  refine ⟨h1,fun ts => ?_⟩
  induction ts with
  | nil => intro l _;rw [vsS];omega
  | cons t ts ih2 =>
   intro l h
   rw [hts29] at h
   have h2:=h1 t l (by omega)
   have h3:=ih2 (vsT t l) (by omega)
   rw [vsS,cns29]
   omega
theorem vsT_len (t : S29) (l : List Int) : (vsT t l).length ≤ l.length + cn29 t:=(vs_len (ht29 t)).1 t l (Nat.le_refl _)
theorem vsS_len (ts : List S29) (l : List Int) : (vsS ts l).length ≤ l.length + cns29 ts:=(vs_len (hts29 ts)).2 ts l (Nat.le_refl _)
theorem vi_wrap {i : Int} (h0 : -9223372036854775808 ≤ i) (h1 : i ≤ 9223372036854775807) : wrap64 i = i:=by unfold wrap64;omega
theorem rdi_at (xs : List Int) (i : Nat) (h : i < xs.length) : rd xs (i : Int) = xs[i]:=by unfold rd;simp [List.getD,h]
theorem readI {e : Nat} {w : World} {base : Nat} {ok : Nat → Prop} {A : Option Addr} {n c : Nat} {xs : List Int} (h : Kd.R (Kd.int .i64) e w base ok (.slice A n c) xs) : n ≤ c ∧ Kd.C (Kd.int .i64) w A n xs:=by
 obtain ⟨h1,h2,h3⟩:=Kd.R_reads' h
 rw [h1]
 exact ⟨by omega,h3⟩
theorem has_ok (xs : List Int) (v : Int) (hx : xs.length ≤ 4611686018427387000) : spec_l03Has.f (xs.length + 1) xs v = some (xs.contains v):=by
 have hl : ∀ (d k i : Nat),i ≤ xs.length → xs.length - i = d → d < k → spec_l03Has.l0 k xs v i = some ((xs.drop i).contains v):=by
  intro d
  induction d with
  | zero =>
   intro k i hi hd hk
   obtain ⟨k,rfl⟩ : ∃ m,k = m + 1:=⟨k - 1,by omega⟩
   simp only [spec_l03Has.l0]
   rw [if_neg (by omega),List.drop_eq_nil_of_le (by omega)];rfl
  | succ d ih =>
   intro k i hi hd hk
   obtain ⟨k,rfl⟩ : ∃ m,k = m + 1:=⟨k - 1,by omega⟩
   have hlt : i < xs.length:=by omega
   rw [List.drop_eq_getElem_cons hlt,List.contains_cons]
   simp only [spec_l03Has.l0]
   rw [if_pos (by omega),if_pos (by omega),rdi_at xs i hlt]
   by_cases h : xs[i] = v
   ·rw [if_pos h,show (v == xs[i]) = true from beq_iff_eq.2 h.symm,Bool.true_or]
   ·rw [if_neg h,show (v == xs[i]) = false from beq_eq_false_iff_ne.2 (fun e => h e.symm),Bool.false_or]
    rw [vi_wrap (by omega) (by omega)]
    exact ih k (i + 1) (by omega) (by omega) (by omega)
 unfold spec_l03Has.f
 have:=hl xs.length (xs.length + 1) 0 (by omega) rfl (by omega)
 rw [List.drop_zero] at this
 exact this
section
set_option linter.unusedSectionVars false
variable [fk_laws_szTerm] [fk_laws_eqTerm] [fk_spec_l34Term] [fk_strconv_Itoa]
def L03T (t : S29) : Prop:=∀ (l : List Int) (v : Value) (A : Option Addr) (c : Nat) (w u : World) (P : Nat → Prop),l.length + cn29 t ≤ 4194304 → Kd.C k29 w A t.f3.length t.f3 → t.f3.length ≤ c → Below w.heap.size w u → Kd.R (Kd.int .i64) 3 u w.heap.size P v l →
 Calls Tryd.prog 112 #[.agg #[.int .i64 t.f0,.string t.f1,.int .i64 t.f2,.slice A t.f3.length c],v] u fun e u' => ∃ v',e = .returned v' ∧ Kd.R (Kd.int .i64) 3 u' w.heap.size (fun k_ => P k_ ∨ u.heap.size ≤ k_) v' (vsT t l) ∧ Below w.heap.size w u' ∧ Kept u u' P
set_option maxHeartbeats 16000000 in
set_option maxRecDepth 100000 in
theorem l03v_step (t : S29) (ih : ∀ x ∈ t.f3,L03T x) : L03T t:=by
 intro l v A c w u P hln hC hc hB hR
 obtain ⟨A0,c0,rfl⟩:=Kd.R_slice hR
 have IH:=asd ih
 have HLN:=asd hln
 have HC:=asd hC
 have HCC:=asd hc
 have HB:=asd hB
 have HWU:=asd hB.size
 have HK:=asd (Kept.refl u P)
 have HR0:=asd (show Kd.R (Kd.int .i64) 3 u w.heap.size (fun k_ => P k_ ∨ u.heap.size ≤ k_) (.slice A0 l.length c0) (l) from Kd.R_mono hR (fun k_ hk_ => .inl hk_))
 have hcn:=cn29_eq t
 have hmx:=hC.2.1
 have HCN0:=has_ok l t.f2 (by omega)
 clear ih hln hC hc hB hR hcn
 by_cases c1 : t.f0 = 1
 ·have d1 : (t.f0 == 1) = true:=beq_iff_eq.2 c1
  have d2 : decide (t.f0 = 1) = true:=decide_eq_true c1
  cases c2 : l.contains t.f2 with
  | true =>
   rw [c2] at HCN0
   have HCN:=asd HCN0
   clear HCN0
   go_enter Tryd.func112,Tryd.ntmps112
   go_wp2_with (first
    | ((with_reducible refine gate_dst (N:=2) rfl ?_);refine box_event ?hg2 (N:=2) ?hd2 (cs:=#[.int .i64 t.f0,.string t.f1,.int .i64 t.f2,.slice A t.f3.length c]) (t:=29) ?hr2 ?_;(case hd2 => rfl);(case hg2 => rfl);(case hr2 => first | (go_simp;done) | (go_simp;rfl));intro ga hg w1 hbox hb;have HG_ga:=asd (show u.heap.size ≤ ga from Nat.le_of_eq hg.symm);have BK_ga:=asd hbox;have HLT_ga:=asd (blk_lt hbox);have HR:=asd (show Kd.R (Kd.int .i64) 3 w1 w.heap.size (fun k_ => (P k_ ∨ u.heap.size ≤ k_) ∧ k_ ≠ ga) (.slice A0 l.length c0) (l) from Kd.R_mono (Kd.R_below (Kd.R_bound HR0.out) hb) (fun k_ hk_ => ⟨hk_.1,fun e_ => by have:=hk_.2.2.1;omega⟩));clear HR0;have q_:=asd (below_step HB.out hb);clear HB;have HB:=q_;clear q_;have q_:=asd (Kept.below HK.out hb);clear HK;have HK:=q_;clear q_;have hc_ga_0 : w1.cell? ⟨ga,0,none⟩ = some (.int .i64 t.f0):=(blk_cell BK_ga.out 0).trans rfl;have hc_ga_1 : w1.cell? ⟨ga,1,none⟩ = some (.string t.f1):=(blk_cell BK_ga.out 1).trans rfl;have hc_ga_2 : w1.cell? ⟨ga,2,none⟩ = some (.int .i64 t.f2):=(blk_cell BK_ga.out 2).trans rfl;have hc_ga_3 : w1.cell? ⟨ga,3,none⟩ = some (.slice A t.f3.length c):=(blk_cell BK_ga.out 3).trans rfl;clear hg hbox hb)
    | (go_at_call 119;refine (spec_l03Has.calls (l.length + 1) A0 c0 l t.f2 true _ (readI HR.out).2 (readI HR.out).1 HCN.out).mono ?_;rintro e w2 ⟨rfl,hd⟩;have hb:=hd.below;have q_:=asd (blk_below BK_ga.out hb);clear BK_ga;have BK_ga:=q_;clear q_;replace HR:=asd (Kd.R_below HR.out hb);have q_:=asd (below_step HB.out hb);clear HB;have HB:=q_;clear q_;have q_:=asd (Kept.below HK.out hb);clear HK;have HK:=q_;clear q_;have q_:=asd (Nat.lt_of_lt_of_le HLT_ga.out hb.size);clear HLT_ga;have HLT_ga:=q_;clear q_;have he_ga_0 : w2.cell? ⟨ga,0,none⟩ = some (.int .i64 t.f0):=(blk_cell BK_ga.out 0).trans rfl;have he_ga_1 : w2.cell? ⟨ga,1,none⟩ = some (.string t.f1):=(blk_cell BK_ga.out 1).trans rfl;have he_ga_2 : w2.cell? ⟨ga,2,none⟩ = some (.int .i64 t.f2):=(blk_cell BK_ga.out 2).trans rfl;have he_ga_3 : w2.cell? ⟨ga,3,none⟩ = some (.slice A t.f3.length c):=(blk_cell BK_ga.out 3).trans rfl;clear hb hd))
   obtain ⟨l2,hl2⟩ : ∃ l2,l2 = l:=⟨_,rfl⟩
   have HL2:=asd (show l2 = hdV t l by rw [hl2];unfold hdV;rw [if_neg (fun z => by rw [c2] at z;exact absurd z.2 (by decide))])
   have HR1:=asd (show Kd.R (Kd.int .i64) 3 _ w.heap.size (fun k_ => (P k_ ∨ u.heap.size ≤ k_) ∧ k_ ≠ ga) _ (l2) from by rw [hl2];exact Kd.R_mono HR.out (fun k_ hk_ => hk_))
   clear HR hl2
   go_loopg [1,5] t.f3.length (fun m v0 vi u' => ∃ i : Nat,vi = .int .i64 i ∧ Aside0 (m + i = t.f3.length) ∧ Aside0 (Kd.R (Kd.int .i64) 3 u' w.heap.size (fun k_ => (P k_ ∨ u.heap.size ≤ k_) ∧ k_ ≠ ga) v0 (vsS (t.f3.take i) l2)) ∧ Aside0 (Below w.heap.size w u') ∧ Aside0 (Kept u u' P) ∧ Aside0 (u'.heap[ga]? = some (.cells #[.int .i64 t.f0,.string t.f1,.int .i64 t.f2,.slice A t.f3.length c] 29 (0,0))))
   case atStart => exact ⟨0,rfl,⟨by omega⟩,⟨by simpa [vsS] using HR1.out⟩,HB,HK,BK_ga⟩
   case round =>
    clear HR1 HB HK BK_ga
    obtain ⟨i,rfl,hi,HR0,HB,HK,BK_ga⟩:=hrel
    obtain ⟨A1,c1,hv1⟩:=Kd.R_slice HR0.out
    obtain ⟨n1,hn1⟩ : ∃ n1,n1 = (vsS (t.f3.take i) l2).length:=⟨_,rfl⟩
    rw [← hn1] at hv1
    subst hv1
    have HN1:=asd hn1
    clear hn1
    by_cases hlt : (i : Int) < (t.f3.length : Int)
    ·have c3b0 : decide ((i : Int) < (t.f3.length : Int)) = true:=decide_eq_true hlt
     have hlt' : i < t.f3.length:=by omega
     have c3b1 : decide (i < t.f3.length) = true:=decide_eq_true hlt'
     obtain ⟨ad,A3,c3,e1,hx0,hx1,hx2,hx3,hl3,hi3⟩:=at_T29 HC.out (i : Int) (by omega) hlt
     cases e1
     obtain ⟨x,hx⟩ : ∃ x,x = t.f3[i]:=⟨_,rfl⟩
     have hrd : rd_T29 t.f3 (i : Int) = x:=by rw [hx];exact rd29_at t.f3 i hlt'
     rw [hrd] at hx0 hx1 hx2 hx3 hl3 hi3
     have HX:=asd (show x ∈ t.f3 by rw [hx];exact List.getElem_mem hlt')
     have HXI:=asd hx
     have HNX:=asd (show vsS (t.f3.take (i + 1)) l2 = vsT x (vsS (t.f3.take i) l2) by rw [hx];exact vsS_take t.f3 i hlt' l2)
     have HCX:=asd hi3
     have HLX:=asd hl3
     clear hi3 hl3 hrd hx
     have HKU:=asd HK.out.1
     replace hx0:=(HB.out.cell (World.block_lt_of_cell? w _ hx0)).trans hx0
     replace hx1:=(HB.out.cell (World.block_lt_of_cell? w _ hx1)).trans hx1
     replace hx2:=(HB.out.cell (World.block_lt_of_cell? w _ hx2)).trans hx2
     replace hx3:=(HB.out.cell (World.block_lt_of_cell? w _ hx3)).trans hx3
     simp only [Int.toNat_natCast] at hx0 hx1 hx2 hx3
     have HBD:=asd (show (vsS (t.f3.take i) l2).length + cn29 x ≤ 4194304 by
      have h1_:=vsS_len (t.f3.take i) l2
      have h2_:=hdV_len t l
      have h3_:=HLN.out
      have h4_:=HL2.out
      have h5_:=cns29_append (t.f3.take i) (t.f3.drop i)
      rw [List.take_append_drop,List.drop_eq_getElem_cons hlt',cns29,← HXI.out] at h5_
      rw [← h4_] at h2_
      have h6_:=cn29_eq t
      omega)
     have HLT_ga:=asd (blk_lt BK_ga.out)
     have hc0 : wr.cell? ⟨ga,0,none⟩ = some (.int .i64 t.f0):=(blk_cell BK_ga.out 0).trans rfl
     have hc1 : wr.cell? ⟨ga,1,none⟩ = some (.string t.f1):=(blk_cell BK_ga.out 1).trans rfl
     have hc2 : wr.cell? ⟨ga,2,none⟩ = some (.int .i64 t.f2):=(blk_cell BK_ga.out 2).trans rfl
     have hc3 : wr.cell? ⟨ga,3,none⟩ = some (.slice (some ad) t.f3.length c):=(blk_cell BK_ga.out 3).trans rfl
     go_wp2_with (go_at_call 112;refine (IH.out x HX.out (vsS (t.f3.take i) l2) (.slice A1 n1 c1) A3 c3 w wr (fun k_ => (P k_ ∨ u.heap.size ≤ k_) ∧ k_ ≠ ga) HBD.out HCX.out HLX.out HB.out HR0.out).mono ?_;rintro e w8 ⟨v9,rfl,ho,hb,hk⟩;have BK8:=asd (blk_kept BK_ga.out hk (fun z => z.2 rfl)))
     go_roundg (t.f3.length - (i + 1))
     case measure => have:=hi.out;omega
     case rel => exact ⟨i + 1,by go_num,⟨by have:=hi.out;omega⟩,⟨by rw [HNX.out];exact Kd.R_mono ho (fun k_ hk_ => hk_.elim (fun z => z) (fun z => ⟨.inr (Nat.le_trans HKU.out z),fun e_ => by have:=HLT_ga.out;omega⟩))⟩,⟨hb⟩,⟨HK.out.then_ hk (fun k_ hk_ => hk_.1)⟩,BK8⟩
    ·have c3b0 : decide ((i : Int) < (t.f3.length : Int)) = false:=decide_eq_false hlt
     have c3b1 : decide (i < t.f3.length) = false:=decide_eq_false (by omega)
     have hc0 : wr.cell? ⟨ga,0,none⟩ = some (.int .i64 t.f0):=(blk_cell BK_ga.out 0).trans rfl
     have hc1 : wr.cell? ⟨ga,1,none⟩ = some (.string t.f1):=(blk_cell BK_ga.out 1).trans rfl
     have hc2 : wr.cell? ⟨ga,2,none⟩ = some (.int .i64 t.f2):=(blk_cell BK_ga.out 2).trans rfl
     have hc3 : wr.cell? ⟨ga,3,none⟩ = some (.slice A t.f3.length c):=(blk_cell BK_ga.out 3).trans rfl
     have hie : t.f3.take i = t.f3:=List.take_of_length_le (by omega)
     have HR2:=HR0.out
     rw [hie] at HR2
     have HRZ:=asd HR2
     clear HR2 hie
     go_wp2
     go_ret
     exact ⟨_,rfl,by rw [vsT_eq,← HL2.out];exact Kd.R_mono HRZ.out (fun k_ hk_ => hk_.1),HB.out,HK.out⟩
  | false =>
   rw [c2] at HCN0
   have HCN:=asd HCN0
   clear HCN0
   go_enter Tryd.func112,Tryd.ntmps112
   go_wp2_with (first
    | ((with_reducible refine gate_dst (N:=2) rfl ?_);refine box_event ?hg2 (N:=2) ?hd2 (cs:=#[.int .i64 t.f0,.string t.f1,.int .i64 t.f2,.slice A t.f3.length c]) (t:=29) ?hr2 ?_;(case hd2 => rfl);(case hg2 => rfl);(case hr2 => first | (go_simp;done) | (go_simp;rfl));intro ga hg w1 hbox hb;have HG_ga:=asd (show u.heap.size ≤ ga from Nat.le_of_eq hg.symm);have BK_ga:=asd hbox;have HLT_ga:=asd (blk_lt hbox);have HR:=asd (show Kd.R (Kd.int .i64) 3 w1 w.heap.size (fun k_ => (P k_ ∨ u.heap.size ≤ k_) ∧ k_ ≠ ga) (.slice A0 l.length c0) (l) from Kd.R_mono (Kd.R_below (Kd.R_bound HR0.out) hb) (fun k_ hk_ => ⟨hk_.1,fun e_ => by have:=hk_.2.2.1;omega⟩));clear HR0;have q_:=asd (below_step HB.out hb);clear HB;have HB:=q_;clear q_;have q_:=asd (Kept.below HK.out hb);clear HK;have HK:=q_;clear q_;have hc_ga_0 : w1.cell? ⟨ga,0,none⟩ = some (.int .i64 t.f0):=(blk_cell BK_ga.out 0).trans rfl;have hc_ga_1 : w1.cell? ⟨ga,1,none⟩ = some (.string t.f1):=(blk_cell BK_ga.out 1).trans rfl;have hc_ga_2 : w1.cell? ⟨ga,2,none⟩ = some (.int .i64 t.f2):=(blk_cell BK_ga.out 2).trans rfl;have hc_ga_3 : w1.cell? ⟨ga,3,none⟩ = some (.slice A t.f3.length c):=(blk_cell BK_ga.out 3).trans rfl;clear hg hbox hb)
    | (go_at_call 119;refine (spec_l03Has.calls (l.length + 1) A0 c0 l t.f2 false _ (readI HR.out).2 (readI HR.out).1 HCN.out).mono ?_;rintro e w2 ⟨rfl,hd⟩;have hb:=hd.below;have q_:=asd (blk_below BK_ga.out hb);clear BK_ga;have BK_ga:=q_;clear q_;replace HR:=asd (Kd.R_below HR.out hb);have q_:=asd (below_step HB.out hb);clear HB;have HB:=q_;clear q_;have q_:=asd (Kept.below HK.out hb);clear HK;have HK:=q_;clear q_;have q_:=asd (Nat.lt_of_lt_of_le HLT_ga.out hb.size);clear HLT_ga;have HLT_ga:=q_;clear q_;have he_ga_0 : w2.cell? ⟨ga,0,none⟩ = some (.int .i64 t.f0):=(blk_cell BK_ga.out 0).trans rfl;have he_ga_1 : w2.cell? ⟨ga,1,none⟩ = some (.string t.f1):=(blk_cell BK_ga.out 1).trans rfl;have he_ga_2 : w2.cell? ⟨ga,2,none⟩ = some (.int .i64 t.f2):=(blk_cell BK_ga.out 2).trans rfl;have he_ga_3 : w2.cell? ⟨ga,3,none⟩ = some (.slice A t.f3.length c):=(blk_cell BK_ga.out 3).trans rfl;clear hb hd)
    | ((with_reducible refine gate_builtin (b:=.append) (xs:=#[.tmp 16,.tmp 19]) rfl ?_);at_builtin;refine Kd.R_append (Kd.int .i64) (w0:=w) w.heap.size rfl (.tmp 16) (.tmp 19) 103 3 (.int .i64 0) 8 rfl Tryd.underlying103 info3 rfl (by decide) (by omega) (.slice A0 l.length c0) l t.f2 [.int .i64 t.f2] (fun k_ => (P k_ ∨ u.heap.size ≤ k_) ∧ k_ ≠ ga) (fun _ => False) rfl rfl ?aP (fun _ hk => hk.elim) ?aF ?aO ?aB ?aS ?aL ?_;(case aP => exact rfl);(case aB => exact HB.out);(case aF => exact (fun k_ hk_ => ⟨.inr (Nat.le_trans HK.out.1 hk_),fun e_ => by have:=HLT_ga.out;omega⟩));(case aO => exact HR.out);(case aS => exact (below_size HB.out));(case aL => have:=HLN.out;omega);intro v5 w3 ho hbl hg hat;have q_:=asd (blk_grown BK_ga.out hg (fun e_ => (HR.out.1 ga e_.symm).2 rfl));clear BK_ga;have BK_ga:=q_;clear q_;have q_:=asd (Kept.of_grown hg HK.out (fun k_ hk_ => (HR.out.1 k_ hk_).1));clear HK;have HK:=q_;clear q_;clear HB HR;have HB:=asd hbl;have HR:=asd ho;have hh_ga_0 : w3.cell? ⟨ga,0,none⟩ = some (.int .i64 t.f0):=(blk_cell BK_ga.out 0).trans rfl;have hh_ga_1 : w3.cell? ⟨ga,1,none⟩ = some (.string t.f1):=(blk_cell BK_ga.out 1).trans rfl;have hh_ga_2 : w3.cell? ⟨ga,2,none⟩ = some (.int .i64 t.f2):=(blk_cell BK_ga.out 2).trans rfl;have hh_ga_3 : w3.cell? ⟨ga,3,none⟩ = some (.slice A t.f3.length c):=(blk_cell BK_ga.out 3).trans rfl;clear ho hbl hg hat))
   obtain ⟨l2,hl2⟩ : ∃ l2,l2 = l ++ [t.f2]:=⟨_,rfl⟩
   have HL2:=asd (show l2 = hdV t l by rw [hl2];unfold hdV;rw [if_pos ⟨c1,c2⟩])
   have HR1:=asd (show Kd.R (Kd.int .i64) 3 _ w.heap.size (fun k_ => (P k_ ∨ u.heap.size ≤ k_) ∧ k_ ≠ ga) _ (l2) from by rw [hl2];exact Kd.R_mono HR.out (fun k_ hk_ => hk_))
   clear HR hl2
   go_loopg [1,5] t.f3.length (fun m v0 vi u' => ∃ i : Nat,vi = .int .i64 i ∧ Aside0 (m + i = t.f3.length) ∧ Aside0 (Kd.R (Kd.int .i64) 3 u' w.heap.size (fun k_ => (P k_ ∨ u.heap.size ≤ k_) ∧ k_ ≠ ga) v0 (vsS (t.f3.take i) l2)) ∧ Aside0 (Below w.heap.size w u') ∧ Aside0 (Kept u u' P) ∧ Aside0 (u'.heap[ga]? = some (.cells #[.int .i64 t.f0,.string t.f1,.int .i64 t.f2,.slice A t.f3.length c] 29 (0,0))))
   case atStart => exact ⟨0,rfl,⟨by omega⟩,⟨by simpa [vsS] using HR1.out⟩,HB,HK,BK_ga⟩
   case round =>
    clear HR1 HB HK BK_ga
    obtain ⟨i,rfl,hi,HR0,HB,HK,BK_ga⟩:=hrel
    obtain ⟨A1,c1,hv1⟩:=Kd.R_slice HR0.out
    obtain ⟨n1,hn1⟩ : ∃ n1,n1 = (vsS (t.f3.take i) l2).length:=⟨_,rfl⟩
    rw [← hn1] at hv1
    subst hv1
    have HN1:=asd hn1
    clear hn1
    by_cases hlt : (i : Int) < (t.f3.length : Int)
    ·have c3b0 : decide ((i : Int) < (t.f3.length : Int)) = true:=decide_eq_true hlt
     have hlt' : i < t.f3.length:=by omega
     have c3b1 : decide (i < t.f3.length) = true:=decide_eq_true hlt'
     obtain ⟨ad,A3,c3,e1,hx0,hx1,hx2,hx3,hl3,hi3⟩:=at_T29 HC.out (i : Int) (by omega) hlt
     cases e1
     obtain ⟨x,hx⟩ : ∃ x,x = t.f3[i]:=⟨_,rfl⟩
     have hrd : rd_T29 t.f3 (i : Int) = x:=by rw [hx];exact rd29_at t.f3 i hlt'
     rw [hrd] at hx0 hx1 hx2 hx3 hl3 hi3
     have HX:=asd (show x ∈ t.f3 by rw [hx];exact List.getElem_mem hlt')
     have HXI:=asd hx
     have HNX:=asd (show vsS (t.f3.take (i + 1)) l2 = vsT x (vsS (t.f3.take i) l2) by rw [hx];exact vsS_take t.f3 i hlt' l2)
     have HCX:=asd hi3
     have HLX:=asd hl3
     clear hi3 hl3 hrd hx
     have HKU:=asd HK.out.1
     replace hx0:=(HB.out.cell (World.block_lt_of_cell? w _ hx0)).trans hx0
     replace hx1:=(HB.out.cell (World.block_lt_of_cell? w _ hx1)).trans hx1
     replace hx2:=(HB.out.cell (World.block_lt_of_cell? w _ hx2)).trans hx2
     replace hx3:=(HB.out.cell (World.block_lt_of_cell? w _ hx3)).trans hx3
     simp only [Int.toNat_natCast] at hx0 hx1 hx2 hx3
     have HBD:=asd (show (vsS (t.f3.take i) l2).length + cn29 x ≤ 4194304 by
      have h1_:=vsS_len (t.f3.take i) l2
      have h2_:=hdV_len t l
      have h3_:=HLN.out
      have h4_:=HL2.out
      have h5_:=cns29_append (t.f3.take i) (t.f3.drop i)
      rw [List.take_append_drop,List.drop_eq_getElem_cons hlt',cns29,← HXI.out] at h5_
      rw [← h4_] at h2_
      have h6_:=cn29_eq t
      omega)
     have HLT_ga:=asd (blk_lt BK_ga.out)
     have hc0 : wr.cell? ⟨ga,0,none⟩ = some (.int .i64 t.f0):=(blk_cell BK_ga.out 0).trans rfl
     have hc1 : wr.cell? ⟨ga,1,none⟩ = some (.string t.f1):=(blk_cell BK_ga.out 1).trans rfl
     have hc2 : wr.cell? ⟨ga,2,none⟩ = some (.int .i64 t.f2):=(blk_cell BK_ga.out 2).trans rfl
     have hc3 : wr.cell? ⟨ga,3,none⟩ = some (.slice (some ad) t.f3.length c):=(blk_cell BK_ga.out 3).trans rfl
     go_wp2_with (go_at_call 112;refine (IH.out x HX.out (vsS (t.f3.take i) l2) (.slice A1 n1 c1) A3 c3 w wr (fun k_ => (P k_ ∨ u.heap.size ≤ k_) ∧ k_ ≠ ga) HBD.out HCX.out HLX.out HB.out HR0.out).mono ?_;rintro e w8 ⟨v9,rfl,ho,hb,hk⟩;have BK8:=asd (blk_kept BK_ga.out hk (fun z => z.2 rfl)))
     go_roundg (t.f3.length - (i + 1))
     case measure => have:=hi.out;omega
     case rel => exact ⟨i + 1,by go_num,⟨by have:=hi.out;omega⟩,⟨by rw [HNX.out];exact Kd.R_mono ho (fun k_ hk_ => hk_.elim (fun z => z) (fun z => ⟨.inr (Nat.le_trans HKU.out z),fun e_ => by have:=HLT_ga.out;omega⟩))⟩,⟨hb⟩,⟨HK.out.then_ hk (fun k_ hk_ => hk_.1)⟩,BK8⟩
    ·have c3b0 : decide ((i : Int) < (t.f3.length : Int)) = false:=decide_eq_false hlt
     have c3b1 : decide (i < t.f3.length) = false:=decide_eq_false (by omega)
     have hc0 : wr.cell? ⟨ga,0,none⟩ = some (.int .i64 t.f0):=(blk_cell BK_ga.out 0).trans rfl
     have hc1 : wr.cell? ⟨ga,1,none⟩ = some (.string t.f1):=(blk_cell BK_ga.out 1).trans rfl
     have hc2 : wr.cell? ⟨ga,2,none⟩ = some (.int .i64 t.f2):=(blk_cell BK_ga.out 2).trans rfl
     have hc3 : wr.cell? ⟨ga,3,none⟩ = some (.slice A t.f3.length c):=(blk_cell BK_ga.out 3).trans rfl
     have hie : t.f3.take i = t.f3:=List.take_of_length_le (by omega)
     have HR2:=HR0.out
     rw [hie] at HR2
     have HRZ:=asd HR2
     clear HR2 hie
     go_wp2
     go_ret
     exact ⟨_,rfl,by rw [vsT_eq,← HL2.out];exact Kd.R_mono HRZ.out (fun k_ hk_ => hk_.1),HB.out,HK.out⟩
 ·have d1 : (t.f0 == 1) = false:=beq_eq_false_iff_ne.2 c1
  have d2 : decide (t.f0 = 1) = false:=decide_eq_false c1
  clear HCN0
  go_enter Tryd.func112,Tryd.ntmps112
  go_wp2_with (((with_reducible refine gate_dst (N:=2) rfl ?_);refine box_event ?hg2 (N:=2) ?hd2 (cs:=#[.int .i64 t.f0,.string t.f1,.int .i64 t.f2,.slice A t.f3.length c]) (t:=29) ?hr2 ?_;(case hd2 => rfl);(case hg2 => rfl);(case hr2 => first|(go_simp;done)|(go_simp;rfl));intro ga hg w1 hbox hb;have HG_ga:=asd (show u.heap.size ≤ ga from Nat.le_of_eq hg.symm);have BK_ga:=asd hbox;have HLT_ga:=asd (blk_lt hbox);have HR:=asd (show Kd.R (Kd.int .i64) 3 w1 w.heap.size (fun k_ => (P k_ ∨ u.heap.size ≤ k_) ∧ k_ ≠ ga) (.slice A0 l.length c0) (l) from Kd.R_mono (Kd.R_below (Kd.R_bound HR0.out) hb) (fun k_ hk_ => ⟨hk_.1,fun e_ => by have:=hk_.2.2.1;omega⟩));clear HR0;have q_:=asd (below_step HB.out hb);clear HB;have HB:=q_;clear q_;have q_:=asd (Kept.below HK.out hb);clear HK;have HK:=q_;clear q_;have hc_ga_0 : w1.cell? ⟨ga,0,none⟩ = some (.int .i64 t.f0):=(blk_cell BK_ga.out 0).trans rfl;have hc_ga_1 : w1.cell? ⟨ga,1,none⟩ = some (.string t.f1):=(blk_cell BK_ga.out 1).trans rfl;have hc_ga_2 : w1.cell? ⟨ga,2,none⟩ = some (.int .i64 t.f2):=(blk_cell BK_ga.out 2).trans rfl;have hc_ga_3 : w1.cell? ⟨ga,3,none⟩ = some (.slice A t.f3.length c):=(blk_cell BK_ga.out 3).trans rfl;clear hg hbox hb))
  obtain ⟨l2,hl2⟩ : ∃ l2,l2 = l:=⟨_,rfl⟩
  have HL2:=asd (show l2 = hdV t l by rw [hl2];unfold hdV;rw [if_neg (fun z => by exact c1 z.1)])
  have HR1:=asd (show Kd.R (Kd.int .i64) 3 _ w.heap.size (fun k_ => (P k_ ∨ u.heap.size ≤ k_) ∧ k_ ≠ ga) _ (l2) from by rw [hl2];exact Kd.R_mono HR.out (fun k_ hk_ => hk_))
  clear HR hl2
  go_loopg [1,5] t.f3.length (fun m v0 vi u' => ∃ i : Nat,vi = .int .i64 i ∧ Aside0 (m + i = t.f3.length) ∧ Aside0 (Kd.R (Kd.int .i64) 3 u' w.heap.size (fun k_ => (P k_ ∨ u.heap.size ≤ k_) ∧ k_ ≠ ga) v0 (vsS (t.f3.take i) l2)) ∧ Aside0 (Below w.heap.size w u') ∧ Aside0 (Kept u u' P) ∧ Aside0 (u'.heap[ga]? = some (.cells #[.int .i64 t.f0,.string t.f1,.int .i64 t.f2,.slice A t.f3.length c] 29 (0,0))))
  case atStart => exact ⟨0,rfl,⟨by omega⟩,⟨by simpa [vsS] using HR1.out⟩,HB,HK,BK_ga⟩
  case round =>
   clear HR1 HB HK BK_ga
   obtain ⟨i,rfl,hi,HR0,HB,HK,BK_ga⟩:=hrel
   obtain ⟨A1,c1,hv1⟩:=Kd.R_slice HR0.out
   obtain ⟨n1,hn1⟩ : ∃ n1,n1 = (vsS (t.f3.take i) l2).length:=⟨_,rfl⟩
   rw [← hn1] at hv1
   subst hv1
   have HN1:=asd hn1
   clear hn1
   by_cases hlt : (i : Int) < (t.f3.length : Int)
   ·have c3b0 : decide ((i : Int) < (t.f3.length : Int)) = true:=decide_eq_true hlt
    have hlt' : i < t.f3.length:=by omega
    have c3b1 : decide (i < t.f3.length) = true:=decide_eq_true hlt'
    obtain ⟨ad,A3,c3,e1,hx0,hx1,hx2,hx3,hl3,hi3⟩:=at_T29 HC.out (i : Int) (by omega) hlt
    cases e1
    obtain ⟨x,hx⟩ : ∃ x,x = t.f3[i]:=⟨_,rfl⟩
    have hrd : rd_T29 t.f3 (i : Int) = x:=by rw [hx];exact rd29_at t.f3 i hlt'
    rw [hrd] at hx0 hx1 hx2 hx3 hl3 hi3
    have HX:=asd (show x ∈ t.f3 by rw [hx];exact List.getElem_mem hlt')
    have HXI:=asd hx
    have HNX:=asd (show vsS (t.f3.take (i + 1)) l2 = vsT x (vsS (t.f3.take i) l2) by rw [hx];exact vsS_take t.f3 i hlt' l2)
    have HCX:=asd hi3
    have HLX:=asd hl3
    clear hi3 hl3 hrd hx
    have HKU:=asd HK.out.1
    replace hx0:=(HB.out.cell (World.block_lt_of_cell? w _ hx0)).trans hx0
    replace hx1:=(HB.out.cell (World.block_lt_of_cell? w _ hx1)).trans hx1
    replace hx2:=(HB.out.cell (World.block_lt_of_cell? w _ hx2)).trans hx2
    replace hx3:=(HB.out.cell (World.block_lt_of_cell? w _ hx3)).trans hx3
    simp only [Int.toNat_natCast] at hx0 hx1 hx2 hx3
    have HBD:=asd (show (vsS (t.f3.take i) l2).length + cn29 x ≤ 4194304 by
     have h1_:=vsS_len (t.f3.take i) l2
     have h2_:=hdV_len t l
     have h3_:=HLN.out
     have h4_:=HL2.out
     have h5_:=cns29_append (t.f3.take i) (t.f3.drop i)
     rw [List.take_append_drop,List.drop_eq_getElem_cons hlt',cns29,← HXI.out] at h5_
     rw [← h4_] at h2_
     have h6_:=cn29_eq t
     omega)
    have HLT_ga:=asd (blk_lt BK_ga.out)
    have hc0 : wr.cell? ⟨ga,0,none⟩ = some (.int .i64 t.f0):=(blk_cell BK_ga.out 0).trans rfl
    have hc1 : wr.cell? ⟨ga,1,none⟩ = some (.string t.f1):=(blk_cell BK_ga.out 1).trans rfl
    have hc2 : wr.cell? ⟨ga,2,none⟩ = some (.int .i64 t.f2):=(blk_cell BK_ga.out 2).trans rfl
    have hc3 : wr.cell? ⟨ga,3,none⟩ = some (.slice (some ad) t.f3.length c):=(blk_cell BK_ga.out 3).trans rfl
    go_wp2_with (go_at_call 112;refine (IH.out x HX.out (vsS (t.f3.take i) l2) (.slice A1 n1 c1) A3 c3 w wr (fun k_ => (P k_ ∨ u.heap.size ≤ k_) ∧ k_ ≠ ga) HBD.out HCX.out HLX.out HB.out HR0.out).mono ?_;rintro e w8 ⟨v9,rfl,ho,hb,hk⟩;have BK8:=asd (blk_kept BK_ga.out hk (fun z => z.2 rfl)))
    go_roundg (t.f3.length - (i + 1))
    case measure => have:=hi.out;omega
    case rel => exact ⟨i + 1,by go_num,⟨by have:=hi.out;omega⟩,⟨by rw [HNX.out];exact Kd.R_mono ho (fun k_ hk_ => hk_.elim (fun z => z) (fun z => ⟨.inr (Nat.le_trans HKU.out z),fun e_ => by have:=HLT_ga.out;omega⟩))⟩,⟨hb⟩,⟨HK.out.then_ hk (fun k_ hk_ => hk_.1)⟩,BK8⟩
   ·have c3b0 : decide ((i : Int) < (t.f3.length : Int)) = false:=decide_eq_false hlt
    have c3b1 : decide (i < t.f3.length) = false:=decide_eq_false (by omega)
    have hc0 : wr.cell? ⟨ga,0,none⟩ = some (.int .i64 t.f0):=(blk_cell BK_ga.out 0).trans rfl
    have hc1 : wr.cell? ⟨ga,1,none⟩ = some (.string t.f1):=(blk_cell BK_ga.out 1).trans rfl
    have hc2 : wr.cell? ⟨ga,2,none⟩ = some (.int .i64 t.f2):=(blk_cell BK_ga.out 2).trans rfl
    have hc3 : wr.cell? ⟨ga,3,none⟩ = some (.slice A t.f3.length c):=(blk_cell BK_ga.out 3).trans rfl
    have hie : t.f3.take i = t.f3:=List.take_of_length_le (by omega)
    have HR2:=HR0.out
    rw [hie] at HR2
    have HRZ:=asd HR2
    clear HR2 hie
    go_wp2
    go_ret
    exact ⟨_,rfl,by rw [vsT_eq,← HL2.out];exact Kd.R_mono HRZ.out (fun k_ hk_ => hk_.1),HB.out,HK.out⟩
theorem l03v_all (n : Nat) : ∀ t,ht29 t ≤ n → L03T t:=by
 induction n with
 | zero => intro t h;rw [ht29_eq] at h;omega
 | succ n ih => intro t h;rw [ht29_eq] at h;exact l03v_step t (fun x hx => ih x (by have:=hts29_mem hx;omega))
set_option maxHeartbeats 8000000 in
set_option maxRecDepth 100000 in
theorem svarsof_calls (t : S29) (A : Option Addr) (c : Nat) (w : World) (hcn : cn29 t ≤ 4194304) (hC : Kd.C k29 w A t.f3.length t.f3) (hc : t.f3.length ≤ c) :
  Calls Tryd.prog 95 #[.agg #[.int .i64 t.f0,.string t.f1,.int .i64 t.f2,.slice A t.f3.length c]] w fun e w' => ∃ v,e = .returned v ∧ Kd.R (Kd.int .i64) 3 w' w.heap.size (fun _ => True) v (vsT t []) ∧ Below w.heap.size w w':=by
 have IH:=asd (l03v_all (ht29 t) t (Nat.le_refl _))
 have HBD:=asd (show ([] : List Int).length + cn29 t ≤ 4194304 by simpa using hcn)
 have HC:=asd hC
 have HCC:=asd hc
 have HB:=asd (Below.refl w.heap.size w)
 clear hcn hC hc
 go_enter Tryd.func95,Tryd.ntmps95
 go_wp2_with (first
  | ((with_reducible refine gate_dst (N:=1) rfl ?_);refine box_event ?hg1 (N:=1) ?hd1 (cs:=#[.int .i64 t.f0,.string t.f1,.int .i64 t.f2,.slice A t.f3.length c]) (t:=29) ?hr1 ?_;(case hd1 => rfl);(case hg1 => rfl);(case hr1 => first | (go_simp;done) | (go_simp;rfl));intro ga hg w1 hbox hb;have HG_ga:=asd hg;have BK_ga:=asd hbox;have q_:=asd (below_step HB.out hb);have HGE_ga:=asd (show w.heap.size ≤ ga by have:=HB.out.size;omega);clear HB;have HB:=q_;clear q_;have HLT_ga:=asd (blk_lt hbox);have hc_ga_0 : w1.cell? ⟨ga,0,none⟩ = some (.int .i64 t.f0):=(blk_cell BK_ga.out 0).trans rfl;have hc_ga_1 : w1.cell? ⟨ga,1,none⟩ = some (.string t.f1):=(blk_cell BK_ga.out 1).trans rfl;have hc_ga_2 : w1.cell? ⟨ga,2,none⟩ = some (.int .i64 t.f2):=(blk_cell BK_ga.out 2).trans rfl;have hc_ga_3 : w1.cell? ⟨ga,3,none⟩ = some (.slice A t.f3.length c):=(blk_cell BK_ga.out 3).trans rfl;clear hg hbox hb)
  | ((with_reducible refine gate_dst (N:=4) rfl ?_);refine Kd.R_lit (Kd.int .i64) _ 3 ?hg (N:=4) ?hd (xs:=([] : List Int)) (inner:=[]) (ok:=fun _ => True) (okp:=fun _ => True) ?hr ?hp (fun _ hk => hk) trivial (Below.refl _ _) (Nat.le_refl _) (by simp) ?_;(case hd => rfl);(case hg => rfl);(case hr => first | (go_simp;done) | (go_simp;rfl));(case hp => exact (Reps.none _ _));intro v2 w2 ho hb hg_ hnew_;clear hg_ hnew_;have HR:=asd (Kd.R_lower ho HB.out.size);have q_:=asd (below_step HB.out hb);clear HB;have HB:=q_;clear q_ ho hb)
  | (go_at_call 112;refine (IH.out [] v2 A c w _ (fun _ => True) HBD.out HC.out HCC.out HB.out HR.out).mono ?_;rintro e w4 ⟨v4,rfl,ho,hb,_⟩))
 go_ret
 exact ⟨_,rfl,Kd.R_mono ho (fun _ _ => trivial),hb⟩
end
theorem C_keep : ∀ (m : Nat) (ts : List S29),hts29 ts ≤ m → ∀ (w W : World) (A : Option Addr) (n : Nat),(∀ k,k < w.heap.size → W.heap[k]? = w.heap[k]?) → Kd.C k29 w A n ts → Kd.C k29 W A n ts:=by
 intro m
 induction m with
 | zero =>
  intro ts h w W A n hW ⟨h1,h2,h3⟩
  refine ⟨h1,h2,fun hn => ?_⟩
  obtain ⟨ad,e,hc⟩:=h3 hn
  refine ⟨ad,e,fun j x hx => ?_⟩
  have h4:=hts29_mem (List.mem_of_getElem? hx)
  have h5:=ht29_eq x
  omega
 | succ m ih =>
  intro ts h w W A n hW ⟨h1,h2,h3⟩
  refine ⟨h1,h2,fun hn => ?_⟩
  obtain ⟨ad,e,hc⟩:=h3 hn
  refine ⟨ad,e,fun j x hx => ?_⟩
  have h4:=hts29_mem (List.mem_of_getElem? hx)
  have h5:=ht29_eq x
  obtain ⟨c',q1,q2,q3⟩:=hc j x hx
  obtain ⟨A3,c3,rfl,l3,g3⟩:=k29_open q2
  refine ⟨_,q1,k29_mk W x l3 (ih x.f3 (by omega) w W A3 _ hW g3),fun i u hu => ?_⟩
  have hq:=q3 i u hu
  exact (World.cell?_of_block (w:=w) (hW _ (World.block_lt_of_cell? w _ hq))).trans hq
theorem foot_C {w : World} {A : Option Addr} {c : Nat} {ts : List S29} (hC : Kd.C k29 w A ts.length ts) (hl : ts.length ≤ c) : FootRow w (fun _ => True) (.slice A ts.length c,ts) :=
 fun W hW => ⟨A,c,rfl,hl,C_keep _ ts (Nat.le_refl _) w W A _ (fun k hk => hW k trivial hk) hC⟩
theorem Run.footC {w u W : World} {ok : Nat → Prop} {os : List As} {P : Nat → Prop} {l : List (Value × List S29)} (h : Run w u ok os W) (hP : ∀ k,P k → ¬ ok k) (i : Nat) (hi : os[i]? = some (As.pool u P l)) {p : Value × List S29} (hm : p ∈ l) : FootRow W (fun _ => True) p:=by
 obtain ⟨Q,h1,_⟩:=h.ask0 hP i hi
 exact fun W' hW => h1 p hm W' (fun k _ hk => hW k trivial hk)
theorem lit1 {W : World} {g t : Nat} {x : S29} {A : Option Addr} {c : Nat} (hb : W.heap[g]? = some (.cells #[.int .i64 x.f0,.string x.f1,.int .i64 x.f2,.slice A x.f3.length c] t (0,0))) (hl : x.f3.length ≤ c) (hC : Kd.C k29 W A x.f3.length x.f3) : Kd.C k29 W (some ⟨g,0,none⟩) 1 [x] :=
 ⟨rfl,by decide,fun _ => ⟨_,rfl,fun j y hj => by
  match j with
  | 0 =>
   obtain rfl : x = y:=by simpa using hj
   refine ⟨_,rfl,k29_mk W x hl hC,fun i u hu => ?_⟩
   rw [Go.Proofs.YtojedbogbodkiaaDoorW.PrintWords.add_plain,Nat.zero_mul,Nat.zero_add]
   refine (blk_cell hb _).trans ?_
   match i with
   | 0 => simpa using hu
   | 1 => simpa using hu
   | 2 => simpa using hu
   | 3 => simpa using hu
   | i + 4 => simp at hu
  | j + 1 => simp at hj⟩⟩
theorem int_at {b : Nat} {W : World} {ok : Nat → Prop} {A : Option Addr} {c : Nat} {l : List Int} (h : (As.rrow (Kd.int .i64) 3 (.slice A l.length c) l).M b W ok) (i : Nat) (hi : i < l.length) : ∃ ad,A = some ad ∧ W.cell? (ad.add i) = some (.int .i64 l[i]):=by
 obtain ⟨_,_,h3⟩:=Kd.R_reads' h
 obtain ⟨ad,e,hc⟩:=h3.2.2 (by omega)
 obtain ⟨cs,q1,q2,q3⟩:=hc i l[i] (List.getElem?_eq_getElem hi)
 obtain rfl : cs = [.int .i64 l[i]]:=q2
 refine ⟨ad,e,?_⟩
 have:=q3 0 _ rfl
 rwa [show i * (Kd.int .i64).sz + 0 = i from Nat.mul_one i] at this
theorem int_at' {b : Nat} {W : World} {ok : Nat → Prop} {ad : Addr} {c : Nat} {l : List Int} {v : Int} (h : (As.rrow (Kd.int .i64) 3 (.slice (some ad) l.length c) l).M b W ok) (i : Nat) (hi : i < l.length) (hv : v = l[i]) : W.cell? (ad.add i) = some (.int .i64 v):=by
 obtain ⟨ad2,e,h2⟩:=int_at h i hi
 injection e with e
 subst e
 rw [hv]
 exact h2
def fmP (l : List Int) : Int:=l.foldl (fun m v => if m ≤ v then wrap64 (v + 1) else m) 0
theorem fmP_take (l : List Int) (i : Nat) (h : i < l.length) : fmP (l.take (i + 1)) = if fmP (l.take i) ≤ l[i] then wrap64 (l[i] + 1) else fmP (l.take i):=by
 unfold fmP
 rw [List.take_succ_eq_append_getElem h,List.foldl_append]
 rfl
def NECK : ByteArray:=⟨#[58,45]⟩
def ARROW : ByteArray:=⟨#[45,45,62]⟩
end Go.Proofs.YtojedbogbodkiaaDoor.KGr
