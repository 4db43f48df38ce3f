/- Of this claim's own making;what nothing names is struck (fewall.py). -/
import Derived.Test.YtojedbogbodkiaaDoorKGrx8
import Derived.Test.YtojedbogbodkiaaDoorGrH
import Derived.Test.YtojedbogbodkiaaDoorGrI
import Derived.Test.YtojedbogbodkiaaDoorKS
set_option linter.unusedVariables false
set_option linter.unusedSimpArgs false
namespace Go.Proofs.YtojedbogbodkiaaDoor.KGr
open Go.RowKit Go.Proofs.YtojedbogbodkiaaDoorW.PrintWords Go.Proofs.YtojedbogbodkiaaDoorW.PrintLast Go.Proofs.YtojedbogbodkiaaDoorW.PrintMore
theorem spec_head (t : S29) (h1 : t.f1.size ≤ 1048576) (h2 : t.f3.length ≤ 1048576) : Ev (fun k => spec_l08Head.f k t.f0 t.f1 t.f2 t.f3) (hdB t):=by
 unfold spec_l08Head.f hdB
 refine Ev.bind (spec_pred t h1 h2) ?_
 by_cases c : (pv t).toList = []
 ·rw [c]
  exact Ev.pos rfl (Ev.now _)
 ·rw [show ((pv t).toList == []) = false from beq_eq_false_iff_ne.2 c]
  refine Ev.neg c ?_
  have hc : Ev (fun k => spec_Control.f k (pv t)) (ctl.any fun y => (pv t).toList == y):=Ev.step (f:=fun _ => some (ctl.any fun y => (pv t).toList == y)) (fun k => spec_control (k + 1) (pv t) (by omega)) (Ev.now _)
  exact Ev.bind hc (Ev.now _)
theorem sim_ev (t : S29) (h1 : t.f1.size ≤ 1048576) (h2 : t.f3.length ≤ 1048576) : Ev (fun k => spec_l09Simple.f k t.f0 t.f1 t.f2 t.f3) (simB t):=by
 unfold spec_l09Simple.f simB
 refine Ev.bind (spec_head t h1 h2) ?_
 cases hdB t with
 | false => exact Ev.congr (fun k => if_neg (by decide)) (Ev.now _)
 | true =>
  refine Ev.congr (fun k => if_pos rfl) ?_
  rw [Bool.true_and,show decide (t.f3.length ≤ 3) = decide ((t.f3.length : Int) ≤ 3) from by by_cases h : t.f3.length ≤ 3 <;> simp [h] <;> omega]
  exact Ev.now _
theorem ok_i {t : S29} (h1 : cn29 t ≤ 1048577) (h2 : nm29 t) : ∃ k,impl_TermOk.f k t.f0 t.f1 t.f2 t.f3 = some (okB t):=Ev.rounds (impl_ok_ev t h1 h2)
theorem ok_s {t : S29} (h1 : cn29 t ≤ 1048577) (h2 : nm29 t) : ∃ k,spec_TermOk.f k t.f0 t.f1 t.f2 t.f3 = some (okB t):=Ev.rounds (spec_ok_ev t h1 h2)
theorem Fit.sz {c h : Nat} {t : S29} (f : Fit c h t) (hc : c ≤ 1048577) : t.f1.size ≤ 1048576 ∧ t.f3.length ≤ 1048576:=by
 have h1:=((nm29_eq t).1 f.nm).1
 have h2:=f.cn
 rw [cn29_eq] at h2
 have h3:=cns29_len t.f3
 exact ⟨h1,by omega⟩
theorem hd_head {p : S29} {n : Int} (h : simB p = true) : hdB (headP p n).1 = !(ctl.any fun y => (pv (headP p n).1).toList == y):=by
 unfold hdB
 have e : (headP p n).1.f0 = 4:=by
  unfold headP ntP
  rw [if_pos h]
 rw [beq_eq_false_iff_ne.2 (pv_ne (.inr e))]
 simp
theorem gram_long {t : S29} (h1 : okB t = true) (h2 : isB ARROW 2 t = true) (bc : Bool) (hb : simB (kid t 0) = true → hdB (headP (kid t 0) (numP t)).1 = !bc) :
  gramP t = (if (!(tailP (kid t 1) (numP t) (headP (kid t 0) (numP t))).2.2 && (okB (twoT NECK (headP (kid t 0) (numP t)).1 (tailP (kid t 1) (numP t) (headP (kid t 0) (numP t))).1) && !bc)) = true then twoT NECK (headP (kid t 0) (numP t)).1 (tailP (kid t 1) (numP t) (headP (kid t 0) (numP t))).1 else z29,
   !(tailP (kid t 1) (numP t) (headP (kid t 0) (numP t))).2.2 && (okB (twoT NECK (headP (kid t 0) (numP t)).1 (tailP (kid t 1) (numP t) (headP (kid t 0) (numP t))).1) && !bc)):=by
 unfold gramP
 by_cases h : simB (kid t 0) = true
 ·rw [h1,h2,h,if_pos (by decide)]
  unfold outP
  rw [hb h]
 ·have h' : simB (kid t 0) = false:=by simpa using h
  rw [h1,h2,h',if_neg (by decide)]
  have e:=gram_not h1 h2 h'
  have e2 : (tailP (kid t 1) (numP t) (headP (kid t 0) (numP t))).2.2 = true:=by
   have e3 : headP (kid t 0) (numP t) = (z29,nxt (nxt (numP t)),true):=by
    unfold headP ntP
    rw [if_neg (by rw [h'];decide)]
   rw [e3]
   exact gbody_bad _ _ _ _ _
  rw [e2]
  rfl
set_option maxHeartbeats 4000000 in
theorem impl_gram_all (n : Nat) (t : S29) (A : Option Addr) (c : Nat) (w : World) (tb : Tb w) (hC : Kd.C k29 w A t.f3.length t.f3) (hc : t.f3.length ≤ c) (hcn : cn29 t ≤ 1048577) (hnm : nm29 t) :
  Calls Tryd.prog 40 #[.agg #[.int .i64 t.f0,.string t.f1,.int .i64 t.f2,.slice A t.f3.length c]] w fun e w' => GImp (gramP t).1 (gramP t).2 w e w':=by
 letI:=i_sz n
 letI:=i_eq n
 letI:=i_34 n
 letI:=i_it
 have hp : PredC:=fun t A c W h1 h2 tb hC hc => impl_PredOf.calls 0 t.f0 t.f1 t.f2 A c t.f3 _ W tb hC hc (impl_pred t h1 h2 0)
 have hct : CtlC:=fun s W => impl_Control.calls 30 s _ W (impl_control 30 s (by omega))
 have hcp : ∀ x : S29,cn29 x ≤ 1048577 → CpT x:=fun x h => cp_all x (rn_all (ht29 x) x (Nat.le_refl _) (by have:=cn29_eq x;omega))
 obtain ⟨k1,hk1⟩:=ok_i hcn hnm
 by_cases h0 : okB t = true
 ·rw [h0] at hk1
  by_cases h1 : isB ARROW 2 t = true
  ·have hs:=fit_out h0 h1 hnm (numP t)
   have e:=gram_long h0 h1 _ (fun h => hd_head h)
   obtain ⟨p,q,e1,k0,k1',cn,ht,na,nb⟩:=kids2 h1 hnm
   have his:=is_i ARROW 2 t
   rw [h1] at his
   have hup:=num_up h0
   have hcn2:=ok_cn h0
   obtain ⟨ku,hku⟩:=Ev.rounds (up_ev (ht29 t) [t] (by rw [hts29,hts29];omega) (by rw [cns29,cns29];omega) (by rw [vrs29,vrs29];exact ⟨ok_vr h0,trivial⟩))
   rw [hup] at hku
   rw [k0,k1'] at e hs
   have ho1 : Fit 4000 (2 * ht29 t + 5) (twoT NECK (headP p (numP t)).1 (tailP q (numP t) (headP p (numP t))).1):=(fit_two (by decide) hs.1 hs.2).le (by omega) (by omega)
   obtain ⟨ko,hko⟩:=ok_i (Nat.le_trans ho1.cn (by omega)) ho1.nm
   have hz:=hs.1.sz (by omega)
   rw [e]
   have hct2:=hct (pv (headP p (numP t)).1)
   obtain ⟨a0,a1,a2,l⟩:=t
   obtain rfl : l = [p,q]:=e1
   obtain ⟨ad,rfl,_⟩:=hC.2.2 (show 0 < 2 by decide)
   exact impl_g_long a0 a1 a2 p q ad c _ _ _ _ _ _ _ _ _ _ w (foot_C hC hc) hC tb (fun W q1 => impl_TermOk.calls k1 a0 a1 a2 (some ad) c [p,q] true W q1 hc hk1) (fun W q1 => impl_isStruct.calls a0 a1 a2 (some ad) c [p,q] ARROW 2 true W q1 hc his)
    (fun W A q1 => impl_varsUpTo.calls ku A 1 [⟨a0,a1,a2,[p,q]⟩] _ W q1 (Nat.le_refl _) hku)
    (nt_all hp hct hcp p na (by omega) _ _ _ _) (impl_body_all hp hct hcp (ht29 q) q (Nat.le_refl _) nb (by omega) _ _ _ _)
    (fun W A c hB q1 q2 => hp (headP p (numP (⟨a0,a1,a2,[p,q]⟩ : S29))).1 A c W hz.1 hz.2 (tab_at tb hB) q1 q2) hct2
    (fun W A q1 => by
     have:=hcp (twoT NECK (headP p (numP (⟨a0,a1,a2,[p,q]⟩ : S29))).1 (tailP q (numP (⟨a0,a1,a2,[p,q]⟩ : S29)) (headP p (numP (⟨a0,a1,a2,[p,q]⟩ : S29)))).1) (Nat.le_trans ho1.cn (by omega)) A 2 W q1 (Nat.le_refl _)
     exact this)
    (fun W A q1 => impl_TermOk.calls ko 4 NECK 0 A 2 [_,_] _ W q1 (Nat.le_refl _) hko)
  ·have h1' : isB ARROW 2 t = false:=by simpa using h1
   have his:=is_i ARROW 2 t
   rw [h1'] at his
   have e : gramP t = (z29,false):=by unfold gramP;rw [h1',Bool.false_and,Bool.and_false,if_neg (by decide)]
   rw [e]
   exact impl_g_no2 t A c w hC (fun W q1 => impl_TermOk.calls k1 t.f0 t.f1 t.f2 A c t.f3 true W q1 hc hk1) (fun W q1 => impl_isStruct.calls t.f0 t.f1 t.f2 A c t.f3 ARROW 2 false W q1 hc his)
 ·have h0' : okB t = false:=by simpa using h0
  rw [h0'] at hk1
  have e : gramP t = (z29,false):=by unfold gramP;rw [h0',Bool.false_and,if_neg (by decide)]
  rw [e]
  exact impl_g_no1 t A c w hC (fun W q1 => impl_TermOk.calls k1 t.f0 t.f1 t.f2 A c t.f3 false W q1 hc hk1)
set_option maxHeartbeats 4000000 in
theorem spec_raw_all (n : Nat) (t : S29) (A : Option Addr) (c : Nat) (Q : Nat → Prop) (w : World) (tb : Tb w) (hf : FootRow w Q (.slice A t.f3.length c,t.f3)) (hcn : cn29 t ≤ 1048577) (hnm : nm29 t) :
  Calls Tryd.prog 74 #[.agg #[.int .i64 t.f0,.string t.f1,.int .i64 t.f2,.slice A t.f3.length c]] w fun e w' => GRaw (gramP t).1 (gramP t).2 Q w e w':=by
 letI:=i_sz n
 letI:=i_eq n
 letI:=i_34 n
 letI:=i_it
 have hsm : SimC:=fun t A c W h1 h2 hC hc => by
  obtain ⟨k,hk⟩:=Ev.rounds (sim_ev t h1 h2)
  exact spec_l09Simple.calls k t.f0 t.f1 t.f2 A c t.f3 _ W hC hc hk
 obtain ⟨hc,hF⟩:=foot_F hf
 have hC:=Kd.F_now hF
 obtain ⟨k1,hk1⟩:=ok_s hcn hnm
 by_cases h1 : isB ARROW 2 t = true
 ·have his:=is_s ARROW 2 t
  rw [h1] at his
  obtain ⟨p,q,e1,k0,k1',cn,ht,na,nb⟩:=kids2 h1 hnm
  have hsp:=((nm29_eq p).1 na).1
  have hlp : p.f3.length ≤ 1048576:=by
   have h3:=cns29_len p.f3
   have h4:=cn29_eq p
   omega
  have hsim:=fun (W : World) (A : Option Addr) (c : Nat) (q1 : Kd.C k29 W A p.f3.length p.f3) (q2 : p.f3.length ≤ c) => hsm p A c W hsp hlp q1 q2
  by_cases h0 : okB t = true
  ·rw [h0] at hk1
   by_cases h2 : simB p = true
   ·have hs:=fit_out h0 h1 hnm (numP t)
    have hcn2:=ok_cn h0
    rw [k0,k1'] at hs
    have ho1 : Fit 4000 (2 * ht29 t + 5) (twoT NECK (headP p (numP t)).1 (tailP q (numP t) (headP p (numP t))).1):=(fit_two (by decide) hs.1 hs.2).le (by omega) (by omega)
    obtain ⟨ko,hko⟩:=ok_s (Nat.le_trans ho1.cn (by omega)) ho1.nm
    have hz:=hs.1.sz (by omega)
    obtain ⟨kh,hkh⟩:=Ev.rounds (spec_head (headP p (numP t)).1 hz.1 hz.2)
    have e:=gram_long h0 h1 (!hdB (headP p (numP t)).1) (fun h => by rw [Bool.not_not,k0])
    rw [k0,k1'] at e
    rw [e]
    rw [h2] at hsim
    have eh : headP p (numP t) = (⟨4,p.f1,0,p.f3 ++ [varT (newV (numP t)),varT (newV (nxt (numP t)))]⟩,nxt (nxt (numP t)),false):=by
     unfold headP ntP
     rw [if_pos h2]
    have hvl:=vsT_len t []
    have hvo : ∀ W,Kd.C k29 W A t.f3.length t.f3 → _:=fun W q1 => svarsof_calls t A c W (by omega) q1 hc
    have hN : numP t = fmP (vsT t []):=rfl
    rw [eh] at hko hkh hz ⊢
    obtain ⟨a0,a1,a2,l⟩:=t
    obtain rfl : l = [p,q]:=e1
    obtain ⟨ad,rfl,_⟩:=hC.2.2 (show 0 < 2 by decide)
    refine spec_g_long a0 a1 a2 p q ad c (vsT (⟨a0,a1,a2,[p,q]⟩ : S29) []) _ hN _ _ _ _ _ _ Q w hf hC tb (fun W q1 => spec_TermOk.calls k1 a0 a1 a2 (some ad) c [p,q] true W q1 hc hk1) (fun W q1 => spec_l03Is.calls a0 a1 a2 (some ad) c [p,q] ARROW 2 true W q1 hc his) hsim
     (fun W q1 => (hvo W q1).mono ?_) (by simp only [List.length_nil] at hvl;omega) (fun W Q A c q1 => with_calls p _ _ hlp A c W Q q1) (spec_body_all hsm (ht29 q) q (Nat.le_refl _) nb (by omega) _ _ _ _)
     (fun W A c q1 q2 => by
      rw [Bool.not_not]
      exact spec_l08Head.calls kh 4 p.f1 0 A c _ _ W q1 q2 hkh)
     (fun W A q1 => spec_TermOk.calls ko 4 NECK 0 A 2 [_,_] _ W q1 (Nat.le_refl _) hko)
    rintro e W' ⟨v,rfl,hr,hb⟩
    obtain ⟨A5,c5,rfl⟩:=Kd.R_slice hr
    exact ⟨A5,c5,rfl,Kd.R_mono (Kd.R_bound hr) (fun k hk => hk.2.1),hb⟩
   ·have h2' : simB p = false:=by simpa using h2
    rw [h2'] at hsim
    have e : gramP t = (z29,false):=by unfold gramP;rw [k0,h2',Bool.and_false,Bool.and_false,if_neg (by decide)]
    rw [e]
    obtain ⟨a0,a1,a2,l⟩:=t
    obtain rfl : l = [p,q]:=e1
    obtain ⟨ad,rfl,_⟩:=hC.2.2 (show 0 < 2 by decide)
    exact spec_g_no3 a0 a1 a2 p q ad c Q w hC hf (fun W q1 => spec_l03Is.calls a0 a1 a2 (some ad) c [p,q] ARROW 2 true W q1 hc his) (fun W q1 => spec_TermOk.calls k1 a0 a1 a2 (some ad) c [p,q] true W q1 hc hk1) hsim
  ·have h0' : okB t = false:=by simpa using h0
   rw [h0'] at hk1
   have e : gramP t = (z29,false):=by unfold gramP;rw [h0',Bool.false_and,if_neg (by decide)]
   rw [e]
   obtain ⟨a0,a1,a2,l⟩:=t
   obtain rfl : l = [p,q]:=e1
   obtain ⟨ad,rfl,_⟩:=hC.2.2 (show 0 < 2 by decide)
   exact spec_g_no2 a0 a1 a2 p q ad c Q w hC hf (fun W q1 => spec_l03Is.calls a0 a1 a2 (some ad) c [p,q] ARROW 2 true W q1 hc his) (fun W q1 => spec_TermOk.calls k1 a0 a1 a2 (some ad) c [p,q] false W q1 hc hk1)
 ·have h1' : isB ARROW 2 t = false:=by simpa using h1
  have his:=is_s ARROW 2 t
  rw [h1'] at his
  have e : gramP t = (z29,false):=by unfold gramP;rw [h1',Bool.false_and,Bool.and_false,if_neg (by decide)]
  rw [e]
  exact spec_g_no1 t A c Q w hC (fun W q1 => spec_l03Is.calls t.f0 t.f1 t.f2 A c t.f3 ARROW 2 false W q1 hc his)
section
set_option linter.unusedSectionVars false
variable [fk_laws_szTerm] [fk_laws_eqTerm] [fk_spec_l34Term] [fk_strconv_Itoa]
theorem rdT {b : Nat} {W : World} {ok : Nat → Prop} {A : Option Addr} {n c : Nat} {xs : List S29} (h : (As.row kD29 29 (.slice A n c) xs).M b W ok) : n ≤ c ∧ Kd.C k29 W A n xs:=readS h
theorem rdV {b : Nat} {W : World} {ok : Nat → Prop} {A : Option Addr} {n c : Nat} {xs : List S29} (h : (As.vrow k29 29 (.slice A n c) xs).M b W ok) : n ≤ c ∧ Kd.C k29 W A n xs:=by
 obtain ⟨h1,h2,h3⟩:=Kd.V_reads' (e:=29) (base:=0) h
 rw [h1]
 exact ⟨by omega,h3⟩
def lw9_10_T : Bool × List (List Nat × List Nat):=(true,[([],[]),([],[]),([1],[1]),([0,2,2],[0,2]),([3],[3])])
def lw9_10_B : List Nat:=[0,0,2,7,15]
theorem lw9_10_tab : rtab .any (opsOf Tryd.f9 10) = lw9_10_T:=by kernel_rfl
theorem lw9_10_bits : waitsOk lw9_10_T.2 lw9_10_B = true:=by kernel_rfl
set_option maxHeartbeats 32000000 in
set_option maxRecDepth 100000 in
theorem gr_walk (t : S24) (A_T : Option Addr) (c_T : Nat) (left m m2 : Int) (xt xg : S29) (bo : Bool) (yt yg : List S29) (w : World)
  (hl1 : 0 ≤ left)
  (hm : 0 ≤ m)
  (hm2 : 0 ≤ m2)
  (hLT : t.f3.length ≤ c_T)
  (hCT : Kd.C k24 w A_T t.f3.length t.f3)
  (c10 : ∀ W A c,t.f3.length ≤ c → Kd.C k24 W A t.f3.length t.f3 → Calls Tryd.prog 10 #[.agg #[.int .i64 t.f0,.string t.f1,.int .i64 t.f2,.slice A t.f3.length c],.int .i64 1048576] W fun e W' => e = .returned (.int .i64 left) ∧ Below W.heap.size W W')
  (c12 : ∀ W A c,t.f3.length ≤ c → Kd.C k24 W A t.f3.length t.f3 → Calls Tryd.prog 12 #[.agg #[.int .i64 t.f0,.string t.f1,.int .i64 t.f2,.slice A t.f3.length c]] W fun e W' => ∃ A c,e = .returned (.agg #[.int .i64 xt.f0,.string xt.f1,.int .i64 xt.f2,.slice A xt.f3.length c]) ∧ (As.row kD29 29 (.slice A xt.f3.length c) xt.f3).M W.heap.size W' (fun k => W.heap.size ≤ k) ∧ Below W.heap.size W W')
  (c39 : ∀ W A c,Below w.heap.size w W → xt.f3.length ≤ c → Kd.C k29 W A xt.f3.length xt.f3 → Calls Tryd.prog 39 #[.agg #[.int .i64 xt.f0,.string xt.f1,.int .i64 xt.f2,.slice A xt.f3.length c]] W fun e W' => ∃ A c,e = .returned (.tuple #[.agg #[.int .i64 xg.f0,.string xg.f1,.int .i64 xg.f2,.slice A xg.f3.length c],.bool bo]) ∧ (As.vrow k29 29 (.slice A xg.f3.length c) xg.f3).M W.heap.size W' (fun k => W.heap.size ≤ k) ∧ Below W.heap.size W W')
  (c40 : ∀ W A c,Below w.heap.size w W → xt.f3.length ≤ c → Kd.C k29 W A xt.f3.length xt.f3 → Calls Tryd.prog 40 #[.agg #[.int .i64 xt.f0,.string xt.f1,.int .i64 xt.f2,.slice A xt.f3.length c]] W fun e W' => ∃ A c,e = .returned (.tuple #[.agg #[.int .i64 xg.f0,.string xg.f1,.int .i64 xg.f2,.slice A xg.f3.length c],.bool bo]) ∧ (As.row kD29 29 (.slice A xg.f3.length c) xg.f3).M W.heap.size W' (fun k => W.heap.size ≤ k) ∧ Below W.heap.size W W')
  (c15 : ∀ W A c A2 c2,xg.f3.length ≤ c → Kd.C k29 W A xg.f3.length xg.f3 → xg.f3.length ≤ c2 → Kd.C k29 W A2 xg.f3.length xg.f3 → Calls Tryd.prog 14 #[.agg #[.int .i64 xg.f0,.string xg.f1,.int .i64 xg.f2,.slice A xg.f3.length c],.agg #[.int .i64 xg.f0,.string xg.f1,.int .i64 xg.f2,.slice A2 xg.f3.length c2]] W fun e W' => e = .returned (.bool true) ∧ Below W.heap.size W W')
  (c14 : ∀ W A c A2 c2,xt.f3.length ≤ c → Kd.C k29 W A xt.f3.length xt.f3 → xt.f3.length ≤ c2 → Kd.C k29 W A2 xt.f3.length xt.f3 → Calls Tryd.prog 14 #[.agg #[.int .i64 xt.f0,.string xt.f1,.int .i64 xt.f2,.slice A xt.f3.length c],.agg #[.int .i64 xt.f0,.string xt.f1,.int .i64 xt.f2,.slice A2 xt.f3.length c2]] W fun e W' => e = .returned (.bool true) ∧ Below W.heap.size W W')
  (c25 : ∀ W (ok : Nat → Prop) A c,Below w.heap.size w W → (∀ k,ok k → w.heap.size ≤ k) → (As.row kD29 29 (.slice A xt.f3.length c) xt.f3).M w.heap.size W ok → Calls Tryd.prog 25 #[.agg #[.int .i64 xt.f0,.string xt.f1,.int .i64 xt.f2,.slice A xt.f3.length c],.int .i64 1] W fun e W' => e = .returned (.int .i64 m2) ∧ (As.row kD29 29 (.slice A xt.f3.length c) yt).M w.heap.size W' (fun k => ok k ∨ W.heap.size ≤ k) ∧ Below w.heap.size W W' ∧ Kept W W' ok)
  (c26 : ∀ W (ok : Nat → Prop) A c,Below w.heap.size w W → (∀ k,ok k → w.heap.size ≤ k) → (As.row kD29 29 (.slice A xg.f3.length c) xg.f3).M w.heap.size W ok → Calls Tryd.prog 25 #[.agg #[.int .i64 xg.f0,.string xg.f1,.int .i64 xg.f2,.slice A xg.f3.length c],.int .i64 1] W fun e W' => e = .returned (.int .i64 m) ∧ (As.row kD29 29 (.slice A xg.f3.length c) yg).M w.heap.size W' (fun k => ok k ∨ W.heap.size ≤ k) ∧ Below w.heap.size W W' ∧ Kept W W' ok)
  (c27 : ∀ W A c,xg.f3.length ≤ c → Kd.C k29 W A xg.f3.length yg → Calls Tryd.prog 41 #[.agg #[.int .i64 xg.f0,.string xg.f1,.int .i64 xg.f2,.slice A xg.f3.length c],.int .i64 1] W fun e W' => e = .returned (.int .i64 m) ∧ Below W.heap.size W W') :
  Calls Tryd.prog 9 #[.agg #[.int .i64 t.f0,.string t.f1,.int .i64 t.f2,.slice A_T t.f3.length c_T]] w fun e w' => e = .returned (.bool true) ∧ Below w.heap.size w w':=by
 have HL_T:=asd hLT
 have HC_T:=asd hCT
 clear hLT hCT
 have cm0 : decide (m < 0) = false:=decide_eq_false (by omega)
 have cm1 : (m != m) = false:=by simp
 have cm2 : decide (m2 < 0) = false:=decide_eq_false (by omega)
 have cl0 : decide (left < 0) = false:=decide_eq_false (by omega)
 have cb0 : (bo != bo) = false:=by simp
 clear hm hm2 hl1
 have HR:=asd (run_law w)
 go_enter Tryd.func9,Tryd.ntmps9
 go_wp2_with (first
  | ((with_reducible refine gate_dst (N:=1) rfl ?_);refine box_event ?hg1 (N:=1) ?hd1 (cs:=#[.int .i64 t.f0,.string t.f1,.int .i64 t.f2,.slice A_T t.f3.length c_T]) (t:=24) ?hr1 ?_;(case hd1 => rfl);(case hg1 => rfl);(case hr1 => first | (go_simp;done) | (go_simp;rfl));intro g_b1 hg w1 hbox hb;replace HR:=asd (HR.out.box hg hb hbox);clear hg hbox hb;have hc_b1_0 : w1.cell? ⟨g_b1,0,none⟩ = some (.int .i64 t.f0):=HR.out.cell 0 rfl 0 rfl;have hc_b1_1 : w1.cell? ⟨g_b1,1,none⟩ = some (.string t.f1):=HR.out.cell 0 rfl 1 rfl;have hc_b1_2 : w1.cell? ⟨g_b1,2,none⟩ = some (.int .i64 t.f2):=HR.out.cell 0 rfl 2 rfl;have hc_b1_3 : w1.cell? ⟨g_b1,3,none⟩ = some (.slice A_T t.f3.length c_T):=HR.out.cell 0 rfl 3 rfl)
  | (go_at_call 10;with_reducible refine (c10 w1 _ _ HL_T.out (Kd.C_below HC_T.out HR.out.bel)).mono ?_;rintro e w2 ⟨rfl,hb⟩;replace HR:=asd (HR.out.step hb);clear hb;clear hc_b1_0 hc_b1_1 hc_b1_2 hc_b1_3;have hc_b1_0 : w2.cell? ⟨g_b1,0,none⟩ = some (.int .i64 t.f0):=HR.out.cell 0 rfl 0 rfl;have hc_b1_1 : w2.cell? ⟨g_b1,1,none⟩ = some (.string t.f1):=HR.out.cell 0 rfl 1 rfl;have hc_b1_2 : w2.cell? ⟨g_b1,2,none⟩ = some (.int .i64 t.f2):=HR.out.cell 0 rfl 2 rfl;have hc_b1_3 : w2.cell? ⟨g_b1,3,none⟩ = some (.slice A_T t.f3.length c_T):=HR.out.cell 0 rfl 3 rfl)
  | (go_at_call 12;with_reducible refine (c12 w2 _ _ HL_T.out (Kd.C_below HC_T.out HR.out.bel)).mono ?_;rintro e w3 ⟨A_e0,c_e0,rfl,ho,hb⟩;replace HR:=asd (HR.out.push _ hb ho);clear hb ho;clear hc_b1_0 hc_b1_1 hc_b1_2 hc_b1_3)
  | (go_at_call 39;with_reducible refine (c39 w3 _ _ HR.out.bel (rdT (HR.out.has 0 rfl)).1 (rdT (HR.out.has 0 rfl)).2).mono ?_;rintro e w4 ⟨A_w0,c_w0,rfl,ho,hb⟩;replace HR:=asd (HR.out.push _ hb ho);clear hb ho)
  | ((with_reducible refine gate_dst (N:=4) rfl ?_);refine box_event ?hg4 (N:=4) ?hd4 (cs:=#[.int .i64 0,.string (⟨#[]⟩ : ByteArray),.int .i64 0,.slice none 0 0]) (t:=29) ?hr4 ?_;(case hd4 => rfl);(case hg4 => rfl);(case hr4 => first | (go_simp;done) | (go_simp;rfl));intro g_b4 hg w5 hbox hb;replace HR:=asd (HR.out.box hg hb hbox);clear hg hbox hb;have hz_0 : w5.cell? ⟨g_b4,0,none⟩ = some (.int .i64 0):=HR.out.cell 0 rfl 0 rfl;have hf_0:=HR.out.free 0 rfl 0;have hz_1 : w5.cell? ⟨g_b4,1,none⟩ = some (.string (⟨#[]⟩ : ByteArray)):=HR.out.cell 0 rfl 1 rfl;have hf_1:=HR.out.free 0 rfl 1;have hz_2 : w5.cell? ⟨g_b4,2,none⟩ = some (.int .i64 0):=HR.out.cell 0 rfl 2 rfl;have hf_2:=HR.out.free 0 rfl 2;have hz_3 : w5.cell? ⟨g_b4,3,none⟩ = some (.slice none 0 0):=HR.out.cell 0 rfl 3 rfl;have hf_3:=HR.out.free 0 rfl 3)
  | ((with_reducible refine gate_store (t:=29) (p:=4) rfl ?_);refine store_event (t:=29) (p:=4) (v:=?vo4) (w1:=w5.setCells g_b4 0 [.int .i64 xg.f0,.string xg.f1,.int .i64 xg.f2,.slice A_w0 xg.f3.length c_w0]) ?hgs4 ?hos4 ?hns4 ?hrs4 ?_;(case hos4 => rfl);(case hgs4 => rfl);(case hns4 => rfl);(case hrs4 => first | (go_simp;done) | (go_simp;rfl));intro w6 hw;replace HR:=asd (hw ▸ HR.out.store 0 rfl [.int .i64 xg.f0,.string xg.f1,.int .i64 xg.f2,.slice A_w0 xg.f3.length c_w0] rfl);clear hw hz_0 hf_0 hz_1 hf_1 hz_2 hf_2 hz_3 hf_3;have hc_b1_0 : w6.cell? ⟨g_b1,0,none⟩ = some (.int .i64 t.f0):=HR.out.cell 3 rfl 0 rfl;have hc_b1_1 : w6.cell? ⟨g_b1,1,none⟩ = some (.string t.f1):=HR.out.cell 3 rfl 1 rfl;have hc_b1_2 : w6.cell? ⟨g_b1,2,none⟩ = some (.int .i64 t.f2):=HR.out.cell 3 rfl 2 rfl;have hc_b1_3 : w6.cell? ⟨g_b1,3,none⟩ = some (.slice A_T t.f3.length c_T):=HR.out.cell 3 rfl 3 rfl)
  | (go_at_call 12;with_reducible refine (c12 w6 _ _ HL_T.out (Kd.C_below HC_T.out HR.out.bel)).mono ?_;rintro e w7 ⟨A_x0,c_x0,rfl,ho,hb⟩;replace HR:=asd (HR.out.push _ hb ho);clear hb ho;clear hc_b1_0 hc_b1_1 hc_b1_2 hc_b1_3)
  | ((with_reducible refine gate_dst (N:=6) rfl ?_);refine box_event ?hg6 (N:=6) ?hd6 (cs:=#[.int .i64 0,.string (⟨#[]⟩ : ByteArray),.int .i64 0,.slice none 0 0]) (t:=29) ?hr6 ?_;(case hd6 => rfl);(case hg6 => rfl);(case hr6 => first | (go_simp;done) | (go_simp;rfl));intro g_b6 hg w8 hbox hb;replace HR:=asd (HR.out.box hg hb hbox);clear hg hbox hb;have hz_0 : w8.cell? ⟨g_b6,0,none⟩ = some (.int .i64 0):=HR.out.cell 0 rfl 0 rfl;have hf_0:=HR.out.free 0 rfl 0;have hz_1 : w8.cell? ⟨g_b6,1,none⟩ = some (.string (⟨#[]⟩ : ByteArray)):=HR.out.cell 0 rfl 1 rfl;have hf_1:=HR.out.free 0 rfl 1;have hz_2 : w8.cell? ⟨g_b6,2,none⟩ = some (.int .i64 0):=HR.out.cell 0 rfl 2 rfl;have hf_2:=HR.out.free 0 rfl 2;have hz_3 : w8.cell? ⟨g_b6,3,none⟩ = some (.slice none 0 0):=HR.out.cell 0 rfl 3 rfl;have hf_3:=HR.out.free 0 rfl 3)
  | ((with_reducible refine gate_store (t:=29) (p:=6) rfl ?_);refine store_event (t:=29) (p:=6) (v:=?vo6) (w1:=w8.setCells g_b6 0 [.int .i64 xt.f0,.string xt.f1,.int .i64 xt.f2,.slice A_x0 xt.f3.length c_x0]) ?hgs6 ?hos6 ?hns6 ?hrs6 ?_;(case hos6 => rfl);(case hgs6 => rfl);(case hns6 => rfl);(case hrs6 => first | (go_simp;done) | (go_simp;rfl));intro w9 hw;replace HR:=asd (hw ▸ HR.out.store 0 rfl [.int .i64 xt.f0,.string xt.f1,.int .i64 xt.f2,.slice A_x0 xt.f3.length c_x0] rfl);clear hw hz_0 hf_0 hz_1 hf_1 hz_2 hf_2 hz_3 hf_3;have hc_b6_0 : w9.cell? ⟨g_b6,0,none⟩ = some (.int .i64 xt.f0):=HR.out.cell 0 rfl 0 rfl;have hc_b6_1 : w9.cell? ⟨g_b6,1,none⟩ = some (.string xt.f1):=HR.out.cell 0 rfl 1 rfl;have hc_b6_2 : w9.cell? ⟨g_b6,2,none⟩ = some (.int .i64 xt.f2):=HR.out.cell 0 rfl 2 rfl;have hc_b6_3 : w9.cell? ⟨g_b6,3,none⟩ = some (.slice A_x0 xt.f3.length c_x0):=HR.out.cell 0 rfl 3 rfl)
  | (go_at_call 40;with_reducible refine (c40 w9 _ _ HR.out.bel (rdT (HR.out.has 1 rfl)).1 (rdT (HR.out.has 1 rfl)).2).mono ?_;rintro e w10 ⟨A_g0,c_g0,rfl,ho,hb⟩;replace HR:=asd (HR.out.push _ hb ho);clear hb ho;clear hc_b6_0 hc_b6_1 hc_b6_2 hc_b6_3)
  | ((with_reducible refine gate_dst (N:=7) rfl ?_);refine box_event ?hg7 (N:=7) ?hd7 (cs:=#[.int .i64 0,.string (⟨#[]⟩ : ByteArray),.int .i64 0,.slice none 0 0]) (t:=29) ?hr7 ?_;(case hd7 => rfl);(case hg7 => rfl);(case hr7 => first | (go_simp;done) | (go_simp;rfl));intro g_b7 hg w11 hbox hb;replace HR:=asd (HR.out.box hg hb hbox);clear hg hbox hb;have hz_0 : w11.cell? ⟨g_b7,0,none⟩ = some (.int .i64 0):=HR.out.cell 0 rfl 0 rfl;have hf_0:=HR.out.free 0 rfl 0;have hz_1 : w11.cell? ⟨g_b7,1,none⟩ = some (.string (⟨#[]⟩ : ByteArray)):=HR.out.cell 0 rfl 1 rfl;have hf_1:=HR.out.free 0 rfl 1;have hz_2 : w11.cell? ⟨g_b7,2,none⟩ = some (.int .i64 0):=HR.out.cell 0 rfl 2 rfl;have hf_2:=HR.out.free 0 rfl 2;have hz_3 : w11.cell? ⟨g_b7,3,none⟩ = some (.slice none 0 0):=HR.out.cell 0 rfl 3 rfl;have hf_3:=HR.out.free 0 rfl 3)
  | ((with_reducible refine gate_store (t:=29) (p:=7) rfl ?_);refine store_event (t:=29) (p:=7) (v:=?vo7) (w1:=w11.setCells g_b7 0 [.int .i64 xg.f0,.string xg.f1,.int .i64 xg.f2,.slice A_g0 xg.f3.length c_g0]) ?hgs7 ?hos7 ?hns7 ?hrs7 ?_;(case hos7 => rfl);(case hgs7 => rfl);(case hns7 => rfl);(case hrs7 => first | (go_simp;done) | (go_simp;rfl));intro w12 hw;replace HR:=asd (hw ▸ HR.out.store 0 rfl [.int .i64 xg.f0,.string xg.f1,.int .i64 xg.f2,.slice A_g0 xg.f3.length c_g0] rfl);clear hw hz_0 hf_0 hz_1 hf_1 hz_2 hf_2 hz_3 hf_3;have hc_b4_0 : w12.cell? ⟨g_b4,0,none⟩ = some (.int .i64 xg.f0):=HR.out.cell 4 rfl 0 rfl;have hc_b4_1 : w12.cell? ⟨g_b4,1,none⟩ = some (.string xg.f1):=HR.out.cell 4 rfl 1 rfl;have hc_b4_2 : w12.cell? ⟨g_b4,2,none⟩ = some (.int .i64 xg.f2):=HR.out.cell 4 rfl 2 rfl;have hc_b4_3 : w12.cell? ⟨g_b4,3,none⟩ = some (.slice A_w0 xg.f3.length c_w0):=HR.out.cell 4 rfl 3 rfl;have hc_b7_0 : w12.cell? ⟨g_b7,0,none⟩ = some (.int .i64 xg.f0):=HR.out.cell 0 rfl 0 rfl;have hc_b7_1 : w12.cell? ⟨g_b7,1,none⟩ = some (.string xg.f1):=HR.out.cell 0 rfl 1 rfl;have hc_b7_2 : w12.cell? ⟨g_b7,2,none⟩ = some (.int .i64 xg.f2):=HR.out.cell 0 rfl 2 rfl;have hc_b7_3 : w12.cell? ⟨g_b7,3,none⟩ = some (.slice A_g0 xg.f3.length c_g0):=HR.out.cell 0 rfl 3 rfl)
  | (go_at_call 14;with_reducible refine (c15 w12 _ _ _ _ (rdT (HR.out.has 1 rfl)).1 (rdT (HR.out.has 1 rfl)).2 (rdV (HR.out.has 5 rfl)).1 (rdV (HR.out.has 5 rfl)).2).mono ?_;rintro e w13 ⟨rfl,hb⟩;replace HR:=asd (HR.out.step hb);clear hb;clear hc_b4_0 hc_b4_1 hc_b4_2 hc_b4_3 hc_b7_0 hc_b7_1 hc_b7_2 hc_b7_3))
 replace HR:=asd (HR.out.drew)
 refine start_ (n:=5) (S:=fun w' => w'.cell? ⟨g_b6,0,none⟩ = some (.int .i64 xt.f0) ∧ w'.cell? ⟨g_b6,1,none⟩ = some (.string xt.f1) ∧ w'.cell? ⟨g_b6,2,none⟩ = some (.int .i64 xt.f2) ∧ w'.cell? ⟨g_b6,3,none⟩ = some (.slice A_x0 xt.f3.length c_x0) ∧ w'.cell? ⟨g_b1,0,none⟩ = some (.int .i64 t.f0) ∧ w'.cell? ⟨g_b1,1,none⟩ = some (.string t.f1) ∧ w'.cell? ⟨g_b1,2,none⟩ = some (.int .i64 t.f2) ∧ w'.cell? ⟨g_b1,3,none⟩ = some (.slice A_T t.f3.length c_T)) (ds:=[]) #[false,false,false,false,false] (by kernel_rfl) rfl rfl ⟨HR.out.cell 2 rfl 0 rfl,HR.out.cell 2 rfl 1 rfl,HR.out.cell 2 rfl 2 rfl,HR.out.cell 2 rfl 3 rfl,HR.out.cell 7 rfl 0 rfl,HR.out.cell 7 rfl 1 rfl,HR.out.cell 7 rfl 2 rfl,HR.out.cell 7 rfl 3 rfl⟩ (fun hHeld => ?_);refine with_tabW lw9_10_tab lw9_10_bits (fun HT_ HW_ => ?_)
 generalize w13.drew = w14 at HR hHeld ⊢
 refine take_ (i:=0) (N:=some 41) (v:=?_) (a':=?_) #[true,false,false,false,false] rfl rfl (take_ofW HT_.out HW_.out (by kernel_rfl)) (fun _ _ _ h => h) (Or.inl ⟨by rfl,?_⟩) hHeld ?_ ?_
 rotate_left
 ·rintro w' ⟨s0,s1,s2,s3,s4,s5,s6,s7⟩
  go_simp
  with_reducible rfl
 rotate_left
 ·simp only [Act.put,List.setIfInBounds_toArray,List.set_cons_zero,List.set_cons_succ,i64_w,i32_w]
  rfl
 refine take_ (i:=1) (N:=some 42) (v:=?_) (a':=?_) #[true,true,false,false,false] rfl rfl (take_ofW HT_.out HW_.out (by kernel_rfl)) (fun _ _ _ h => h) (Or.inl ⟨by rfl,?_⟩) hHeld ?_ ?_
 rotate_left
 ·rintro w' ⟨s0,s1,s2,s3,s4,s5,s6,s7⟩
  go_simp
  with_reducible rfl
 rotate_left
 ·simp only [Act.put,List.setIfInBounds_toArray,List.set_cons_zero,List.set_cons_succ,i64_w,i32_w]
  rfl
 refine one_ (i:=2) (N:=some 43) #[true,true,true,false,false] rfl rfl (one_of HT_.out (by kernel_rfl)) (by decide) (fun K hK => ?_)
 refine goes_ Tryd.func12 (by kernel_rfl) rfl #[.agg #[.int .i64 t.f0,.string t.f1,.int .i64 t.f2,.slice A_T t.f3.length c_T]] (by rfl) rfl rfl (by (try simp only [List.map_toArray,List.map_cons,List.map_nil]);first|done|rfl) ?_
 refine (c12 w14 _ _ HL_T.out (Kd.C_below HC_T.out HR.out.bel)).mono ?_
 rintro e w15 ⟨A_e2,c_e2,rfl,ho,hb⟩
 refine ⟨_,rfl,?_⟩
 replace HR:=asd (HR.out.push _ hb ho)
 clear hb ho
 refine hK.out _ _ ⟨HR.out.cell 3 rfl 0 rfl,HR.out.cell 3 rfl 1 rfl,HR.out.cell 3 rfl 2 rfl,HR.out.cell 3 rfl 3 rfl,HR.out.cell 8 rfl 0 rfl,HR.out.cell 8 rfl 1 rfl,HR.out.cell 8 rfl 2 rfl,HR.out.cell 8 rfl 3 rfl⟩ (fun hHeld => ?_)
 clear hK K
 refine norm_ (a':=?_) ?_ ?_
 rotate_left
 ·show Act.put _ (some 43) _ = _
  simp only [Act.put,List.setIfInBounds_toArray,List.set_cons_zero,List.set_cons_succ,i64_w,i32_w]
  rfl
 refine one_ (i:=3) (N:=some 44) #[true,true,true,true,false] rfl rfl (one_of HT_.out (by kernel_rfl)) (by decide) (fun K hK => ?_)
 refine goes_ Tryd.func14 (by kernel_rfl) rfl #[.agg #[.int .i64 xt.f0,.string xt.f1,.int .i64 xt.f2,.slice A_x0 xt.f3.length c_x0],.agg #[.int .i64 xt.f0,.string xt.f1,.int .i64 xt.f2,.slice A_e2 xt.f3.length c_e2]] (by rfl) rfl rfl (by (try simp only [List.map_toArray,List.map_cons,List.map_nil]);first|done|rfl) ?_
 refine (c14 w15 _ _ _ _ (rdT (HR.out.has 4 rfl)).1 (rdT (HR.out.has 4 rfl)).2 (rdT (HR.out.has 0 rfl)).1 (rdT (HR.out.has 0 rfl)).2).mono ?_
 rintro e w16 ⟨rfl,hb⟩
 refine ⟨_,rfl,?_⟩
 replace HR:=asd (HR.out.step hb)
 clear hb
 refine hK.out _ _ ⟨HR.out.cell 3 rfl 0 rfl,HR.out.cell 3 rfl 1 rfl,HR.out.cell 3 rfl 2 rfl,HR.out.cell 3 rfl 3 rfl,HR.out.cell 8 rfl 0 rfl,HR.out.cell 8 rfl 1 rfl,HR.out.cell 8 rfl 2 rfl,HR.out.cell 8 rfl 3 rfl⟩ (fun hHeld => ?_)
 clear hK K
 refine norm_ (a':=?_) ?_ ?_
 rotate_left
 ·show Act.put _ (some 44) _ = _
  simp only [Act.put,List.setIfInBounds_toArray,List.set_cons_zero,List.set_cons_succ,i64_w,i32_w]
  rfl
 refine pure_ (i:=4) (N:=some 45) (v:=?_) (a':=?_) #[true,true,true,true,true] rfl rfl (any_of HT_.out (by kernel_rfl)) (fun _ _ _ h => h) (Or.inl ⟨by rfl,?_⟩) ?_ ?_
 rotate_left
 ·intro w'
  go_simp
  with_reducible rfl
 rotate_left
 ·simp only [Act.put,List.setIfInBounds_toArray,List.set_cons_zero,List.set_cons_succ,i64_w,i32_w]
  rfl
 refine done_ (done_of HT_.out (by kernel_rfl)) ?_
 have hc_b6_0 : w16.cell? ⟨g_b6,0,none⟩ = some (.int .i64 xt.f0):=HR.out.cell 3 rfl 0 rfl
 have hc_b6_1 : w16.cell? ⟨g_b6,1,none⟩ = some (.string xt.f1):=HR.out.cell 3 rfl 1 rfl
 have hc_b6_2 : w16.cell? ⟨g_b6,2,none⟩ = some (.int .i64 xt.f2):=HR.out.cell 3 rfl 2 rfl
 have hc_b6_3 : w16.cell? ⟨g_b6,3,none⟩ = some (.slice A_x0 xt.f3.length c_x0):=HR.out.cell 3 rfl 3 rfl
 go_wp2_with (first
  | (go_at_call 25;obtain ⟨oki,hi,hlo,hput⟩:=HR.out.all 4 rfl;with_reducible refine (c25 w16 oki _ _ HR.out.bel (fun k_ hk_ => (hlo k_ hk_).1) hi).mono ?_;rintro e w17 ⟨rfl,ho,hb,hk⟩;replace HR:=asd (hput _ _ hb hk ho);clear hi hlo hput ho hb hk oki;clear hc_b6_0 hc_b6_1 hc_b6_2 hc_b6_3;have hc_b4_0 : w17.cell? ⟨g_b4,0,none⟩ = some (.int .i64 xg.f0):=HR.out.cell 5 rfl 0 rfl;have hc_b4_1 : w17.cell? ⟨g_b4,1,none⟩ = some (.string xg.f1):=HR.out.cell 5 rfl 1 rfl;have hc_b4_2 : w17.cell? ⟨g_b4,2,none⟩ = some (.int .i64 xg.f2):=HR.out.cell 5 rfl 2 rfl;have hc_b4_3 : w17.cell? ⟨g_b4,3,none⟩ = some (.slice A_w0 xg.f3.length c_w0):=HR.out.cell 5 rfl 3 rfl;have hc_b7_0 : w17.cell? ⟨g_b7,0,none⟩ = some (.int .i64 xg.f0):=HR.out.cell 1 rfl 0 rfl;have hc_b7_1 : w17.cell? ⟨g_b7,1,none⟩ = some (.string xg.f1):=HR.out.cell 1 rfl 1 rfl;have hc_b7_2 : w17.cell? ⟨g_b7,2,none⟩ = some (.int .i64 xg.f2):=HR.out.cell 1 rfl 2 rfl;have hc_b7_3 : w17.cell? ⟨g_b7,3,none⟩ = some (.slice A_g0 xg.f3.length c_g0):=HR.out.cell 1 rfl 3 rfl)
  | (go_at_call 14;with_reducible refine (c15 w17 _ _ _ _ (rdT (HR.out.has 2 rfl)).1 (rdT (HR.out.has 2 rfl)).2 (rdV (HR.out.has 6 rfl)).1 (rdV (HR.out.has 6 rfl)).2).mono ?_;rintro e w18 ⟨rfl,hb⟩;replace HR:=asd (HR.out.step hb);clear hb;clear hc_b4_0 hc_b4_1 hc_b4_2 hc_b4_3 hc_b7_0 hc_b7_1 hc_b7_2 hc_b7_3;have hc_b7_0 : w18.cell? ⟨g_b7,0,none⟩ = some (.int .i64 xg.f0):=HR.out.cell 1 rfl 0 rfl;have hc_b7_1 : w18.cell? ⟨g_b7,1,none⟩ = some (.string xg.f1):=HR.out.cell 1 rfl 1 rfl;have hc_b7_2 : w18.cell? ⟨g_b7,2,none⟩ = some (.int .i64 xg.f2):=HR.out.cell 1 rfl 2 rfl;have hc_b7_3 : w18.cell? ⟨g_b7,3,none⟩ = some (.slice A_g0 xg.f3.length c_g0):=HR.out.cell 1 rfl 3 rfl)
  | (go_at_call 25;obtain ⟨oki,hi,hlo,hput⟩:=HR.out.all 2 rfl;with_reducible refine (c26 w18 oki _ _ HR.out.bel (fun k_ hk_ => (hlo k_ hk_).1) hi).mono ?_;rintro e w19 ⟨rfl,ho,hb,hk⟩;replace HR:=asd (hput _ _ hb hk ho);clear hi hlo hput ho hb hk oki;clear hc_b7_0 hc_b7_1 hc_b7_2 hc_b7_3;have hc_b7_0 : w19.cell? ⟨g_b7,0,none⟩ = some (.int .i64 xg.f0):=HR.out.cell 1 rfl 0 rfl;have hc_b7_1 : w19.cell? ⟨g_b7,1,none⟩ = some (.string xg.f1):=HR.out.cell 1 rfl 1 rfl;have hc_b7_2 : w19.cell? ⟨g_b7,2,none⟩ = some (.int .i64 xg.f2):=HR.out.cell 1 rfl 2 rfl;have hc_b7_3 : w19.cell? ⟨g_b7,3,none⟩ = some (.slice A_g0 xg.f3.length c_g0):=HR.out.cell 1 rfl 3 rfl)
  | (go_at_call 41;with_reducible refine (c27 w19 _ _ (rdT (HR.out.has 2 rfl)).1 (rdT (HR.out.has 2 rfl)).2).mono ?_;rintro e w20 ⟨rfl,hb⟩;replace HR:=asd (HR.out.step hb);clear hb;clear hc_b7_0 hc_b7_1 hc_b7_2 hc_b7_3;have hc_b1_0 : w20.cell? ⟨g_b1,0,none⟩ = some (.int .i64 t.f0):=HR.out.cell 8 rfl 0 rfl;have hc_b1_1 : w20.cell? ⟨g_b1,1,none⟩ = some (.string t.f1):=HR.out.cell 8 rfl 1 rfl;have hc_b1_2 : w20.cell? ⟨g_b1,2,none⟩ = some (.int .i64 t.f2):=HR.out.cell 8 rfl 2 rfl;have hc_b1_3 : w20.cell? ⟨g_b1,3,none⟩ = some (.slice A_T t.f3.length c_T):=HR.out.cell 8 rfl 3 rfl)
  | (go_at_call 12;with_reducible refine (c12 w20 _ _ HL_T.out (Kd.C_below HC_T.out HR.out.bel)).mono ?_;rintro e w21 ⟨A_e3,c_e3,rfl,ho,hb⟩;replace HR:=asd (HR.out.push _ hb ho);clear hb ho;clear hc_b1_0 hc_b1_1 hc_b1_2 hc_b1_3)
  | (go_at_call 40;with_reducible refine (c40 w21 _ _ HR.out.bel (rdT (HR.out.has 0 rfl)).1 (rdT (HR.out.has 0 rfl)).2).mono ?_;rintro e w22 ⟨A_h0,c_h0,rfl,ho,hb⟩;replace HR:=asd (HR.out.push _ hb ho);clear hb ho)
  | ((with_reducible refine gate_dst (N:=12) rfl ?_);refine box_event ?hg12 (N:=12) ?hd12 (cs:=#[.int .i64 0,.string (⟨#[]⟩ : ByteArray),.int .i64 0,.slice none 0 0]) (t:=29) ?hr12 ?_;(case hd12 => rfl);(case hg12 => rfl);(case hr12 => first | (go_simp;done) | (go_simp;rfl));intro g_b12 hg w23 hbox hb;replace HR:=asd (HR.out.box hg hb hbox);clear hg hbox hb;have hz_0 : w23.cell? ⟨g_b12,0,none⟩ = some (.int .i64 0):=HR.out.cell 0 rfl 0 rfl;have hf_0:=HR.out.free 0 rfl 0;have hz_1 : w23.cell? ⟨g_b12,1,none⟩ = some (.string (⟨#[]⟩ : ByteArray)):=HR.out.cell 0 rfl 1 rfl;have hf_1:=HR.out.free 0 rfl 1;have hz_2 : w23.cell? ⟨g_b12,2,none⟩ = some (.int .i64 0):=HR.out.cell 0 rfl 2 rfl;have hf_2:=HR.out.free 0 rfl 2;have hz_3 : w23.cell? ⟨g_b12,3,none⟩ = some (.slice none 0 0):=HR.out.cell 0 rfl 3 rfl;have hf_3:=HR.out.free 0 rfl 3)
  | ((with_reducible refine gate_store (t:=29) (p:=12) rfl ?_);refine store_event (t:=29) (p:=12) (v:=?vo12) (w1:=w23.setCells g_b12 0 [.int .i64 xg.f0,.string xg.f1,.int .i64 xg.f2,.slice A_h0 xg.f3.length c_h0]) ?hgs12 ?hos12 ?hns12 ?hrs12 ?_;(case hos12 => rfl);(case hgs12 => rfl);(case hns12 => rfl);(case hrs12 => first | (go_simp;done) | (go_simp;rfl));intro w24 hw;replace HR:=asd (hw ▸ HR.out.store 0 rfl [.int .i64 xg.f0,.string xg.f1,.int .i64 xg.f2,.slice A_h0 xg.f3.length c_h0] rfl);clear hw hz_0 hf_0 hz_1 hf_1 hz_2 hf_2 hz_3 hf_3;have hc_b4_0 : w24.cell? ⟨g_b4,0,none⟩ = some (.int .i64 xg.f0):=HR.out.cell 8 rfl 0 rfl;have hc_b4_1 : w24.cell? ⟨g_b4,1,none⟩ = some (.string xg.f1):=HR.out.cell 8 rfl 1 rfl;have hc_b4_2 : w24.cell? ⟨g_b4,2,none⟩ = some (.int .i64 xg.f2):=HR.out.cell 8 rfl 2 rfl;have hc_b4_3 : w24.cell? ⟨g_b4,3,none⟩ = some (.slice A_w0 xg.f3.length c_w0):=HR.out.cell 8 rfl 3 rfl;have hc_b12_0 : w24.cell? ⟨g_b12,0,none⟩ = some (.int .i64 xg.f0):=HR.out.cell 0 rfl 0 rfl;have hc_b12_1 : w24.cell? ⟨g_b12,1,none⟩ = some (.string xg.f1):=HR.out.cell 0 rfl 1 rfl;have hc_b12_2 : w24.cell? ⟨g_b12,2,none⟩ = some (.int .i64 xg.f2):=HR.out.cell 0 rfl 2 rfl;have hc_b12_3 : w24.cell? ⟨g_b12,3,none⟩ = some (.slice A_h0 xg.f3.length c_h0):=HR.out.cell 0 rfl 3 rfl)
  | (go_at_call 14;with_reducible refine (c15 w24 _ _ _ _ (rdT (HR.out.has 1 rfl)).1 (rdT (HR.out.has 1 rfl)).2 (rdV (HR.out.has 9 rfl)).1 (rdV (HR.out.has 9 rfl)).2).mono ?_;rintro e w25 ⟨rfl,hb⟩;replace HR:=asd (HR.out.step hb);clear hb;clear hc_b4_0 hc_b4_1 hc_b4_2 hc_b4_3 hc_b12_0 hc_b12_1 hc_b12_2 hc_b12_3;have hc_b7_0 : w25.cell? ⟨g_b7,0,none⟩ = some (.int .i64 xg.f0):=HR.out.cell 4 rfl 0 rfl;have hc_b7_1 : w25.cell? ⟨g_b7,1,none⟩ = some (.string xg.f1):=HR.out.cell 4 rfl 1 rfl;have hc_b7_2 : w25.cell? ⟨g_b7,2,none⟩ = some (.int .i64 xg.f2):=HR.out.cell 4 rfl 2 rfl;have hc_b7_3 : w25.cell? ⟨g_b7,3,none⟩ = some (.slice A_g0 xg.f3.length c_g0):=HR.out.cell 4 rfl 3 rfl)
  | (go_at_call 41;with_reducible refine (c27 w25 _ _ (rdT (HR.out.has 5 rfl)).1 (rdT (HR.out.has 5 rfl)).2).mono ?_;rintro e w26 ⟨rfl,hb⟩;replace HR:=asd (HR.out.step hb);clear hb;clear hc_b7_0 hc_b7_1 hc_b7_2 hc_b7_3))
 go_ret
 exact ⟨rfl,HR.out.bel⟩
set_option maxHeartbeats 32000000 in
set_option maxRecDepth 100000 in
theorem gr_big (t : S24) (A_T : Option Addr) (c_T : Nat) (left : Int) (w : World)
  (hl1 : left < 0)
  (hLT : t.f3.length ≤ c_T)
  (hCT : Kd.C k24 w A_T t.f3.length t.f3)
  (c10 : ∀ W A c,t.f3.length ≤ c → Kd.C k24 W A t.f3.length t.f3 → Calls Tryd.prog 10 #[.agg #[.int .i64 t.f0,.string t.f1,.int .i64 t.f2,.slice A t.f3.length c],.int .i64 1048576] W fun e W' => e = .returned (.int .i64 left) ∧ Below W.heap.size W W') :
  Calls Tryd.prog 9 #[.agg #[.int .i64 t.f0,.string t.f1,.int .i64 t.f2,.slice A_T t.f3.length c_T]] w fun e w' => e = .returned (.bool true) ∧ Below w.heap.size w w':=by
 have HL_T:=asd hLT
 have HC_T:=asd hCT
 clear hLT hCT
 have cl0 : decide (left < 0) = true:=decide_eq_true hl1
 clear hl1
 have HR:=asd (run_law w)
 go_enter Tryd.func9,Tryd.ntmps9
 go_wp2_with (first
  | ((with_reducible refine gate_dst (N:=1) rfl ?_);refine box_event ?hg1 (N:=1) ?hd1 (cs:=#[.int .i64 t.f0,.string t.f1,.int .i64 t.f2,.slice A_T t.f3.length c_T]) (t:=24) ?hr1 ?_;(case hd1 => rfl);(case hg1 => rfl);(case hr1 => first | (go_simp;done) | (go_simp;rfl));intro g_b1 hg w1 hbox hb;replace HR:=asd (HR.out.box hg hb hbox);clear hg hbox hb;have hc_b1_0 : w1.cell? ⟨g_b1,0,none⟩ = some (.int .i64 t.f0):=HR.out.cell 0 rfl 0 rfl;have hc_b1_1 : w1.cell? ⟨g_b1,1,none⟩ = some (.string t.f1):=HR.out.cell 0 rfl 1 rfl;have hc_b1_2 : w1.cell? ⟨g_b1,2,none⟩ = some (.int .i64 t.f2):=HR.out.cell 0 rfl 2 rfl;have hc_b1_3 : w1.cell? ⟨g_b1,3,none⟩ = some (.slice A_T t.f3.length c_T):=HR.out.cell 0 rfl 3 rfl)
  | (go_at_call 10;with_reducible refine (c10 w1 _ _ HL_T.out (Kd.C_below HC_T.out HR.out.bel)).mono ?_;rintro e w2 ⟨rfl,hb⟩;replace HR:=asd (HR.out.step hb);clear hb;clear hc_b1_0 hc_b1_1 hc_b1_2 hc_b1_3;have hc_b1_0 : w2.cell? ⟨g_b1,0,none⟩ = some (.int .i64 t.f0):=HR.out.cell 0 rfl 0 rfl;have hc_b1_1 : w2.cell? ⟨g_b1,1,none⟩ = some (.string t.f1):=HR.out.cell 0 rfl 1 rfl;have hc_b1_2 : w2.cell? ⟨g_b1,2,none⟩ = some (.int .i64 t.f2):=HR.out.cell 0 rfl 2 rfl;have hc_b1_3 : w2.cell? ⟨g_b1,3,none⟩ = some (.slice A_T t.f3.length c_T):=HR.out.cell 0 rfl 3 rfl)
  | ((with_reducible refine gate_dst (N:=4) rfl ?_);refine box_event ?hg4 (N:=4) ?hd4 (cs:=#[.int .i64 0,.string (⟨#[]⟩ : ByteArray),.int .i64 0,.slice none 0 0]) (t:=29) ?hr4 ?_;(case hd4 => rfl);(case hg4 => rfl);(case hr4 => first | (go_simp;done) | (go_simp;rfl));intro g_b4 hg w5 hbox hb;replace HR:=asd (HR.out.box hg hb hbox);clear hg hbox hb;have hz_0 : w5.cell? ⟨g_b4,0,none⟩ = some (.int .i64 0):=HR.out.cell 0 rfl 0 rfl;have hf_0:=HR.out.free 0 rfl 0;have hz_1 : w5.cell? ⟨g_b4,1,none⟩ = some (.string (⟨#[]⟩ : ByteArray)):=HR.out.cell 0 rfl 1 rfl;have hf_1:=HR.out.free 0 rfl 1;have hz_2 : w5.cell? ⟨g_b4,2,none⟩ = some (.int .i64 0):=HR.out.cell 0 rfl 2 rfl;have hf_2:=HR.out.free 0 rfl 2;have hz_3 : w5.cell? ⟨g_b4,3,none⟩ = some (.slice none 0 0):=HR.out.cell 0 rfl 3 rfl;have hf_3:=HR.out.free 0 rfl 3)
  | ((with_reducible refine gate_store (t:=29) (p:=4) rfl ?_);refine store_event (t:=29) (p:=4) (v:=?vo4) (w1:=w5.setCells g_b4 0 [.int .i64 xg.f0,.string xg.f1,.int .i64 xg.f2,.slice A_w0 xg.f3.length c_w0]) ?hgs4 ?hos4 ?hns4 ?hrs4 ?_;(case hos4 => rfl);(case hgs4 => rfl);(case hns4 => rfl);(case hrs4 => first | (go_simp;done) | (go_simp;rfl));intro w6 hw;replace HR:=asd (hw ▸ HR.out.store 0 rfl [.int .i64 xg.f0,.string xg.f1,.int .i64 xg.f2,.slice A_w0 xg.f3.length c_w0] rfl);clear hw hz_0 hf_0 hz_1 hf_1 hz_2 hf_2 hz_3 hf_3;have hc_b1_0 : w6.cell? ⟨g_b1,0,none⟩ = some (.int .i64 t.f0):=HR.out.cell 3 rfl 0 rfl;have hc_b1_1 : w6.cell? ⟨g_b1,1,none⟩ = some (.string t.f1):=HR.out.cell 3 rfl 1 rfl;have hc_b1_2 : w6.cell? ⟨g_b1,2,none⟩ = some (.int .i64 t.f2):=HR.out.cell 3 rfl 2 rfl;have hc_b1_3 : w6.cell? ⟨g_b1,3,none⟩ = some (.slice A_T t.f3.length c_T):=HR.out.cell 3 rfl 3 rfl)
  | ((with_reducible refine gate_dst (N:=6) rfl ?_);refine box_event ?hg6 (N:=6) ?hd6 (cs:=#[.int .i64 0,.string (⟨#[]⟩ : ByteArray),.int .i64 0,.slice none 0 0]) (t:=29) ?hr6 ?_;(case hd6 => rfl);(case hg6 => rfl);(case hr6 => first | (go_simp;done) | (go_simp;rfl));intro g_b6 hg w8 hbox hb;replace HR:=asd (HR.out.box hg hb hbox);clear hg hbox hb;have hz_0 : w8.cell? ⟨g_b6,0,none⟩ = some (.int .i64 0):=HR.out.cell 0 rfl 0 rfl;have hf_0:=HR.out.free 0 rfl 0;have hz_1 : w8.cell? ⟨g_b6,1,none⟩ = some (.string (⟨#[]⟩ : ByteArray)):=HR.out.cell 0 rfl 1 rfl;have hf_1:=HR.out.free 0 rfl 1;have hz_2 : w8.cell? ⟨g_b6,2,none⟩ = some (.int .i64 0):=HR.out.cell 0 rfl 2 rfl;have hf_2:=HR.out.free 0 rfl 2;have hz_3 : w8.cell? ⟨g_b6,3,none⟩ = some (.slice none 0 0):=HR.out.cell 0 rfl 3 rfl;have hf_3:=HR.out.free 0 rfl 3)
  | ((with_reducible refine gate_store (t:=29) (p:=6) rfl ?_);refine store_event (t:=29) (p:=6) (v:=?vo6) (w1:=w8.setCells g_b6 0 [.int .i64 xt.f0,.string xt.f1,.int .i64 xt.f2,.slice A_x0 xt.f3.length c_x0]) ?hgs6 ?hos6 ?hns6 ?hrs6 ?_;(case hos6 => rfl);(case hgs6 => rfl);(case hns6 => rfl);(case hrs6 => first | (go_simp;done) | (go_simp;rfl));intro w9 hw;replace HR:=asd (hw ▸ HR.out.store 0 rfl [.int .i64 xt.f0,.string xt.f1,.int .i64 xt.f2,.slice A_x0 xt.f3.length c_x0] rfl);clear hw hz_0 hf_0 hz_1 hf_1 hz_2 hf_2 hz_3 hf_3;have hc_b6_0 : w9.cell? ⟨g_b6,0,none⟩ = some (.int .i64 xt.f0):=HR.out.cell 0 rfl 0 rfl;have hc_b6_1 : w9.cell? ⟨g_b6,1,none⟩ = some (.string xt.f1):=HR.out.cell 0 rfl 1 rfl;have hc_b6_2 : w9.cell? ⟨g_b6,2,none⟩ = some (.int .i64 xt.f2):=HR.out.cell 0 rfl 2 rfl;have hc_b6_3 : w9.cell? ⟨g_b6,3,none⟩ = some (.slice A_x0 xt.f3.length c_x0):=HR.out.cell 0 rfl 3 rfl)
  | ((with_reducible refine gate_dst (N:=7) rfl ?_);refine box_event ?hg7 (N:=7) ?hd7 (cs:=#[.int .i64 0,.string (⟨#[]⟩ : ByteArray),.int .i64 0,.slice none 0 0]) (t:=29) ?hr7 ?_;(case hd7 => rfl);(case hg7 => rfl);(case hr7 => first | (go_simp;done) | (go_simp;rfl));intro g_b7 hg w11 hbox hb;replace HR:=asd (HR.out.box hg hb hbox);clear hg hbox hb;have hz_0 : w11.cell? ⟨g_b7,0,none⟩ = some (.int .i64 0):=HR.out.cell 0 rfl 0 rfl;have hf_0:=HR.out.free 0 rfl 0;have hz_1 : w11.cell? ⟨g_b7,1,none⟩ = some (.string (⟨#[]⟩ : ByteArray)):=HR.out.cell 0 rfl 1 rfl;have hf_1:=HR.out.free 0 rfl 1;have hz_2 : w11.cell? ⟨g_b7,2,none⟩ = some (.int .i64 0):=HR.out.cell 0 rfl 2 rfl;have hf_2:=HR.out.free 0 rfl 2;have hz_3 : w11.cell? ⟨g_b7,3,none⟩ = some (.slice none 0 0):=HR.out.cell 0 rfl 3 rfl;have hf_3:=HR.out.free 0 rfl 3)
  | ((with_reducible refine gate_store (t:=29) (p:=7) rfl ?_);refine store_event (t:=29) (p:=7) (v:=?vo7) (w1:=w11.setCells g_b7 0 [.int .i64 xg.f0,.string xg.f1,.int .i64 xg.f2,.slice A_g0 xg.f3.length c_g0]) ?hgs7 ?hos7 ?hns7 ?hrs7 ?_;(case hos7 => rfl);(case hgs7 => rfl);(case hns7 => rfl);(case hrs7 => first | (go_simp;done) | (go_simp;rfl));intro w12 hw;replace HR:=asd (hw ▸ HR.out.store 0 rfl [.int .i64 xg.f0,.string xg.f1,.int .i64 xg.f2,.slice A_g0 xg.f3.length c_g0] rfl);clear hw hz_0 hf_0 hz_1 hf_1 hz_2 hf_2 hz_3 hf_3;have hc_b4_0 : w12.cell? ⟨g_b4,0,none⟩ = some (.int .i64 xg.f0):=HR.out.cell 4 rfl 0 rfl;have hc_b4_1 : w12.cell? ⟨g_b4,1,none⟩ = some (.string xg.f1):=HR.out.cell 4 rfl 1 rfl;have hc_b4_2 : w12.cell? ⟨g_b4,2,none⟩ = some (.int .i64 xg.f2):=HR.out.cell 4 rfl 2 rfl;have hc_b4_3 : w12.cell? ⟨g_b4,3,none⟩ = some (.slice A_w0 xg.f3.length c_w0):=HR.out.cell 4 rfl 3 rfl;have hc_b7_0 : w12.cell? ⟨g_b7,0,none⟩ = some (.int .i64 xg.f0):=HR.out.cell 0 rfl 0 rfl;have hc_b7_1 : w12.cell? ⟨g_b7,1,none⟩ = some (.string xg.f1):=HR.out.cell 0 rfl 1 rfl;have hc_b7_2 : w12.cell? ⟨g_b7,2,none⟩ = some (.int .i64 xg.f2):=HR.out.cell 0 rfl 2 rfl;have hc_b7_3 : w12.cell? ⟨g_b7,3,none⟩ = some (.slice A_g0 xg.f3.length c_g0):=HR.out.cell 0 rfl 3 rfl))
 go_ret
 exact ⟨rfl,HR.out.bel⟩
end
set_option maxHeartbeats 4000000 in
theorem gr_all (t : S24) (A : Option Addr) (c : Nat) (w : World)
  (hC : Kd.C k24 w A t.f3.length t.f3) (hl : t.f3.length ≤ c) (ho : ok24 t) (hT0 : Lib.TabBelow Tryd.prog w.heap.size w "internal/strconv.uint64pow10" .u64 Lib.pow10Tab) :
  Calls Tryd.prog 9 #[.agg #[.int .i64 t.f0,.string t.f1,.int .i64 t.f2,.slice A t.f3.length c]] w fun e w' => e = .returned (.bool true) ∧ Below w.heap.size w w':=by
 obtain ⟨n,hn⟩ : ∃ n,n = 2 * ht24 t + 6:=⟨_,rfl⟩
 letI:=i_sz n
 letI:=i_eq n
 letI:=i_34 n
 letI:=i_it
 obtain ⟨k0,hsz⟩:=Ev.rounds (sz_ev (n + 1) t ho (by omega) 1048576 (by decide) (by decide))
 have c10 : ∀ W A c,t.f3.length ≤ c → Kd.C k24 W A t.f3.length t.f3 → Calls Tryd.prog 10 #[.agg #[.int .i64 t.f0,.string t.f1,.int .i64 t.f2,.slice A t.f3.length c],.int .i64 1048576] W fun e W' => e = .returned (.int .i64 (szr (wt24 t) 1048576)) ∧ Below W.heap.size W W' :=
  fun W A c h1 h2 => laws_szTerm.calls k0 t.f0 t.f1 t.f2 A c t.f3 1048576 _ W h2 h1 hsz
 by_cases hw : ((wt24 t : Nat) : Int) ≤ 1048576
 case neg =>
  have hz : szr (wt24 t) 1048576 = -1:=if_neg hw
  rw [hz] at c10
  exact gr_big t A c (-1) w (by decide) hl hC c10
 have hz : szr (wt24 t) 1048576 = 1048576 - ((wt24 t : Nat) : Int):=if_pos hw
 have hww : wt24 t ≤ 1048576:=by omega
 obtain ⟨xt,hxt⟩ : ∃ xt,xt = to29 t:=⟨_,rfl⟩
 have hcn : cn29 xt ≤ 1048577:=by rw [hxt];have:=cn_wt t;omega
 have hht : ht29 xt = ht24 t:=by rw [hxt,ht_to]
 have hnm : nm29 xt:=by rw [hxt];exact nm_to n t (by omega) hww
 have e0 : xt.f0 = t.f0:=by rw [hxt,to29_eq]
 have e1 : xt.f1 = t.f1:=by rw [hxt,to29_eq]
 have e2 : xt.f2 = t.f2:=by rw [hxt,to29_eq]
 have e3 : xt.f3 = tos29 t.f3:=by rw [hxt,to29_eq]
 obtain ⟨xg,hxg⟩ : ∃ xg,xg = (gramP xt).1:=⟨_,rfl⟩
 obtain ⟨bo,hbo⟩ : ∃ bo,bo = (gramP xt).2:=⟨_,rfl⟩
 have fg:=fit_gram hnm
 rw [← hxg] at fg
 have fgc:=fg.cn
 have fgh:=fg.ht
 have cg : cns29 xg.f3 ≤ 4000:=by rw [cn29_eq] at fgc;omega
 have ct : cns29 xt.f3 ≤ 1048576:=by rw [cn29_eq] at hcn;omega
 have hg : hts29 xg.f3 ≤ n:=by rw [ht29_eq] at fgh;omega
 have htt : hts29 xt.f3 ≤ n:=by have:=ht29_eq xt;omega
 have mt:=fun (xs : List S29) (h : hts29 xs ≤ n) => mark_calls mtx 11 (fun n h0 h1 => mtx_ok n h0 h1) n xs h
 have hT1 : ToT t:=(toT_all n).1 t (by omega) hww
 obtain ⟨k3,heg⟩:=Ev.rounds (eq_ev (n + 1) xg (by omega) (by omega))
 obtain ⟨k4,het⟩:=Ev.rounds (eq_ev (n + 1) xt (by omega) hcn)
 obtain ⟨k5,h34⟩:=Ev.rounds (l34_ev (n + 1) xg (by omega) (by omega))
 have hev:=held_ev n xg.f3 hg (by omega) 1 (by decide) (by omega)
 obtain ⟨k6,hhg⟩ : ∃ k,laws_heldTerm.f k xg.f0 xg.f1 xg.f2 (mks29 mtx xg.f3 1) 1 = some (1 + 3 * (cns29 xg.f3 : Int)):=by
  refine Ev.rounds (?_ : Ev _ _)
  unfold laws_heldTerm.f
  exact Ev.bind hev (Ev.congr (fun k => if_neg (by omega)) (Ev.now _))
 have l1 : (mks29 mtx xg.f3 1).length = xg.f3.length:=mks29_length _ _ _
 rw [hz] at c10
 refine gr_walk t A c (1048576 - ((wt24 t : Nat) : Int)) (1 + 3 * (cns29 xg.f3 : Int)) (1 + 3 * (cns29 xt.f3 : Int)) xt xg bo (mks29 mtx xt.f3 1) (mks29 mtx xg.f3 1) w (by omega) (by omega) (by omega) hl hC c10 ?_ ?_ ?_ ?_ ?_ ?_ ?_ ?_
 ·intro W A c h1 h2
  refine (hT1 A c W h2 h1).mono ?_
  rintro e W' ⟨v,rfl,hS,hb⟩
  rw [← e3] at hS
  obtain ⟨A1,c1,rfl⟩:=Kd.S_slice hS
  rw [← e0,← e1,← e2]
  exact ⟨A1,c1,rfl,as_row hS,hb⟩
 ·intro W A c hB h1 h2
  refine spec_gram xt A c xg bo W (foot_C h2 h1) (fun W' Q hB' hf => ?_) (fun W' A c q1 q2 => ?_)
  ·rw [hxg,hbo]
   exact spec_raw_all n xt A c Q W' (tab_at (tab_at hT0 hB) hB') hf hcn hnm
  ·refine (spec_l34Term.calls k5 xg.f0 xg.f1 xg.f2 A c xg.f3 _ _ _ _ W' q1 q2 h34).mono ?_
   rintro e W2 ⟨v1,rfl,r1,hb⟩
   obtain ⟨A1,c1,rfl⟩:=Kd.R_slice r1
   exact ⟨A1,c1,rfl,Kd.R_V (base':=0) (Kd.R_mono (Kd.R_bound r1) (fun k hk => hk.2.1)),hb⟩
 ·intro W A c hB h1 h2
  rw [hxg,hbo]
  exact impl_gram_all n xt A c W (tab_at hT0 hB) h2 h1 hcn hnm
 ·exact fun W A c A2 c2 h1 h2 g1 g2 => laws_eqTerm.calls k3 xg.f0 xg.f1 xg.f2 A c xg.f3 xg.f0 xg.f1 xg.f2 A2 c2 xg.f3 true W h2 h1 g2 g1 heg
 ·exact fun W A c A2 c2 h1 h2 g1 g2 => laws_eqTerm.calls k4 xt.f0 xt.f1 xt.f2 A c xt.f3 xt.f0 xt.f1 xt.f2 A2 c2 xt.f3 true W h2 h1 g2 g1 het
 ·intro W ok A c q1 q2 q3
  refine (markTerm_calls mtx xt.f3 (mt _ htt) xt.f0 xt.f1 xt.f2 A c 1 W w.heap.size ok (by omega) (by omega) q1.size q3).mono ?_
  rintro e W' ⟨rfl,ho,hb,hk⟩
  exact ⟨rfl,Kd.S_mono ho (fun _ h_ => .inl h_),hb,hk⟩
 ·intro W ok A c q1 q2 q3
  refine (markTerm_calls mtx xg.f3 (mt _ hg) xg.f0 xg.f1 xg.f2 A c 1 W w.heap.size ok (by omega) (by omega) q1.size q3).mono ?_
  rintro e W' ⟨rfl,ho,hb,hk⟩
  exact ⟨rfl,Kd.S_mono ho (fun _ h_ => .inl h_),hb,hk⟩
 ·intro W A c h1 h2
  have:=laws_heldTerm.calls k6 xg.f0 xg.f1 xg.f2 A c (mks29 mtx xg.f3 1) 1 _ W (by rw [l1];exact h2) (by rw [l1];exact h1) hhg
  rw [l1] at this
  exact this
end Go.Proofs.YtojedbogbodkiaaDoor.KGr
