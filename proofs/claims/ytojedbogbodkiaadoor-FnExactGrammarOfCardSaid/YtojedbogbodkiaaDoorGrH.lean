/- Of this claim's own making;what nothing names is struck (fewall.py). -/
import Derived.Test.YtojedbogbodkiaaDoorKGrx8
import Derived.Test.YtojedbogbodkiaaDoorGrG
import Derived.Test.YtojedbogbodkiaaDoorKS
set_option linter.unusedVariables false
set_option linter.unusedSimpArgs false
namespace Go.Proofs.YtojedbogbodkiaaDoor.KGr
open Go.RowKit Go.Proofs.YtojedbogbodkiaaDoorW.PrintWords Go.Proofs.YtojedbogbodkiaaDoorW.PrintLast Go.Proofs.YtojedbogbodkiaaDoorW.PrintMore
section
set_option linter.unusedSectionVars false
variable [fk_laws_szTerm] [fk_laws_eqTerm] [fk_spec_l34Term] [fk_strconv_Itoa]
def GImp (x : S29) (bo : Bool) (W : World) (e : Ending) (W' : World) : Prop:=∃ A c,e = .returned (.tuple #[.agg #[.int .i64 x.f0,.string x.f1,.int .i64 x.f2,.slice A x.f3.length c],.bool bo]) ∧ (As.row kD29 29 (.slice A x.f3.length c) x.f3).M W.heap.size W' (fun k => W.heap.size ≤ k) ∧ Below W.heap.size W W'
set_option maxHeartbeats 16000000 in
set_option maxRecDepth 100000 in
theorem impl_g_no1 (t : S29) (A : Option Addr) (c : Nat) (w : World) (hC : Kd.C k29 w A t.f3.length t.f3)
  (h1 : ∀ W,Kd.C k29 W A t.f3.length t.f3 → Calls Tryd.prog 56 #[.agg #[.int .i64 t.f0,.string t.f1,.int .i64 t.f2,.slice A t.f3.length c]] W fun e W' => e = .returned (.bool false) ∧ Below W.heap.size W W') : Calls Tryd.prog 40 #[.agg #[.int .i64 t.f0,.string t.f1,.int .i64 t.f2,.slice A t.f3.length c]] w fun e w' => GImp z29 false w e w':=by
 have HC:=asd hC
 have H1:=asd h1
 have HR:=asd (run_law w)
 clear hC h1
 go_enter Tryd.func40,Tryd.ntmps40
 go_wp2_with (first
  | ((with_reducible refine gate_dst (N:=1) rfl ?_);refine nb HR 1 (cs:=#[.int .i64 t.f0,.string t.f1,.int .i64 t.f2,.slice A t.f3.length c]) (t:=29) rfl rfl (by first | (go_simp;done) | (go_simp;rfl)) ?_;clear HR;intro ga w1 HR)
  | ((with_reducible refine gate_dst (N:=2) rfl ?_);refine nb HR 2 (cs:=#[.int .i64 0,.string (⟨#[]⟩ : ByteArray),.int .i64 0,.slice none 0 0]) (t:=29) rfl rfl (by first | (go_simp;done) | (go_simp;rfl)) ?_;clear HR;intro gr w2 HR;obtain ⟨c2ga0,c2ga1,c2ga2,c2ga3⟩:=HR.out.c4 1 rfl)
  | (go_at_call 56;have hc_:=Kd.C_below HC.out HR.out.bel;(with_reducible refine (H1.out w2 hc_).mono ?_);rintro e_ w3 ⟨rfl,hb⟩;clear hc_;replace HR:=asd (HR.out.step hb);clear hb;clear c2ga0 c2ga1 c2ga2 c2ga3;obtain ⟨c3gr0,c3gr1,c3gr2,c3gr3⟩:=HR.out.c4 0 rfl;obtain ⟨f3gr0,f3gr1,f3gr2,f3gr3⟩:=HR.out.f4 0 rfl)
  | ((with_reducible refine gate_store (t:=29) (p:=2) rfl ?_);refine stA HR 0 rfl [.int .i64 0,.string (⟨#[]⟩ : ByteArray),.int .i64 0,.slice none 0 0] rfl rfl rfl rfl (by first | (go_simp;done) | (go_simp;rfl)) ?_;clear HR;intro w4 HR;clear c3gr0 c3gr1 c3gr2 c3gr3 f3gr0 f3gr1 f3gr2 f3gr3))
 refine bodyPost_ret (results_ct rfl _ _ gr 29 #[.int .i64 0,.string (⟨#[]⟩ : ByteArray),.int .i64 0,.slice none 0 0] (0,0) _ rfl (HR.out.has 0 rfl).2 Tryd.underlying29 rfl (by kernel_rfl)) rfl ?_
 exact (show GImp z29 false w _ _ from ⟨none,0,rfl,Kd.S_nil _ _ _ _ _,HR.out.bel⟩)
set_option maxHeartbeats 16000000 in
set_option maxRecDepth 100000 in
theorem impl_g_no2 (t : S29) (A : Option Addr) (c : Nat) (w : World) (hC : Kd.C k29 w A t.f3.length t.f3)
  (h1 : ∀ W,Kd.C k29 W A t.f3.length t.f3 → Calls Tryd.prog 56 #[.agg #[.int .i64 t.f0,.string t.f1,.int .i64 t.f2,.slice A t.f3.length c]] W fun e W' => e = .returned (.bool true) ∧ Below W.heap.size W W') (h2 : ∀ W,Kd.C k29 W A t.f3.length t.f3 → Calls Tryd.prog 61 #[.agg #[.int .i64 t.f0,.string t.f1,.int .i64 t.f2,.slice A t.f3.length c],.string (⟨#[45,45,62]⟩ : ByteArray),.int .i64 2] W fun e W' => e = .returned (.bool false) ∧ Below W.heap.size W W') : Calls Tryd.prog 40 #[.agg #[.int .i64 t.f0,.string t.f1,.int .i64 t.f2,.slice A t.f3.length c]] w fun e w' => GImp z29 false w e w':=by
 have HC:=asd hC
 have H1:=asd h1
 have H2:=asd h2
 have HR:=asd (run_law w)
 clear hC h1 h2
 go_enter Tryd.func40,Tryd.ntmps40
 go_wp2_with (first
  | ((with_reducible refine gate_dst (N:=1) rfl ?_);refine nb HR 1 (cs:=#[.int .i64 t.f0,.string t.f1,.int .i64 t.f2,.slice A t.f3.length c]) (t:=29) rfl rfl (by first | (go_simp;done) | (go_simp;rfl)) ?_;clear HR;intro ga w1 HR)
  | ((with_reducible refine gate_dst (N:=2) rfl ?_);refine nb HR 2 (cs:=#[.int .i64 0,.string (⟨#[]⟩ : ByteArray),.int .i64 0,.slice none 0 0]) (t:=29) rfl rfl (by first | (go_simp;done) | (go_simp;rfl)) ?_;clear HR;intro gr w2 HR;obtain ⟨c2ga0,c2ga1,c2ga2,c2ga3⟩:=HR.out.c4 1 rfl)
  | (go_at_call 56;have hc_:=Kd.C_below HC.out HR.out.bel;(with_reducible refine (H1.out w2 hc_).mono ?_);rintro e_ w3 ⟨rfl,hb⟩;clear hc_;replace HR:=asd (HR.out.step hb);clear hb;clear c2ga0 c2ga1 c2ga2 c2ga3;obtain ⟨c3ga0,c3ga1,c3ga2,c3ga3⟩:=HR.out.c4 1 rfl)
  | (go_at_call 61;have hc_:=Kd.C_below HC.out HR.out.bel;(with_reducible refine (H2.out w3 hc_).mono ?_);rintro e_ w4 ⟨rfl,hb⟩;clear hc_;replace HR:=asd (HR.out.step hb);clear hb;clear c3ga0 c3ga1 c3ga2 c3ga3;obtain ⟨c4gr0,c4gr1,c4gr2,c4gr3⟩:=HR.out.c4 0 rfl;obtain ⟨f4gr0,f4gr1,f4gr2,f4gr3⟩:=HR.out.f4 0 rfl)
  | ((with_reducible refine gate_store (t:=29) (p:=2) rfl ?_);refine stA HR 0 rfl [.int .i64 0,.string (⟨#[]⟩ : ByteArray),.int .i64 0,.slice none 0 0] rfl rfl rfl rfl (by first | (go_simp;done) | (go_simp;rfl)) ?_;clear HR;intro w5 HR;clear c4gr0 c4gr1 c4gr2 c4gr3 f4gr0 f4gr1 f4gr2 f4gr3))
 refine bodyPost_ret (results_ct rfl _ _ gr 29 #[.int .i64 0,.string (⟨#[]⟩ : ByteArray),.int .i64 0,.slice none 0 0] (0,0) _ rfl (HR.out.has 0 rfl).2 Tryd.underlying29 rfl (by kernel_rfl)) rfl ?_
 exact (show GImp z29 false w _ _ from ⟨none,0,rfl,Kd.S_nil _ _ _ _ _,HR.out.bel⟩)
def igg6_T : Bool × List (List Nat × List Nat):=(true,[([],[]),([],[]),([1],[1]),([2],[2]),([3],[3]),([],[]),([],[]),([0,4,5,6],[0,4,5,6]),([],[]),([8,7,7,0,1,2,3,4,5,6,7,8],[7,8])])
def igg6_B : List Nat:=[0,0,2,6,14,0,0,127,0,511]
theorem igg6_tab : rtab .any (opsOf Tryd.f40 6) = igg6_T:=by kernel_rfl
theorem igg6_bits : waitsOk igg6_T.2 igg6_B = true:=by kernel_rfl
def igg7_T : Bool × List (List Nat × List Nat):=(true,[([],[]),([],[]),([],[]),([2],[2]),([3],[3]),([4],[4]),([],[]),([],[]),([1,5,6,7],[1,5,6,7]),([0,8],[0,8]),([9,8],[9]),([],[]),([11,10,10,0,1,2,3,4,5,6,7,8,9,10,11],[10,11])])
def igg7_B : List Nat:=[0,0,0,4,12,28,0,0,254,511,1023,0,4095]
theorem igg7_tab : rtab .any (opsOf Tryd.f40 7) = igg7_T:=by kernel_rfl
theorem igg7_bits : waitsOk igg7_T.2 igg7_B = true:=by kernel_rfl
set_option maxHeartbeats 16000000 in
set_option maxRecDepth 100000 in
theorem impl_g_long (a0 : Int) (a1 : ByteArray) (a2 : Int) (p q : S29) (ad : Addr) (c : Nat) (N : Int) (r1 : S29) (n1 : Int) (b1 : Bool) (r2 : S29) (n2 : Int) (b2 bo bc : Bool) (sp : ByteArray) (w : World) (hf : FootRow w (fun _ => True) (.slice (some ad) 2 c,[p,q]))
  (hC : Kd.C k29 w (some ad) 2 [p,q]) (tb : Tb w) (h1 : ∀ W,Kd.C k29 W (some ad) 2 [p,q] → Calls Tryd.prog 56 #[.agg #[.int .i64 a0,.string a1,.int .i64 a2,.slice (some ad) 2 c]] W fun e W' => e = .returned (.bool true) ∧ Below W.heap.size W W') (h2 : ∀ W,Kd.C k29 W (some ad) 2 [p,q] → Calls Tryd.prog 61 #[.agg #[.int .i64 a0,.string a1,.int .i64 a2,.slice (some ad) 2 c],.string (⟨#[45,45,62]⟩ : ByteArray),.int .i64 2] W fun e W' => e = .returned (.bool true) ∧ Below W.heap.size W W') (h3 : ∀ (W : World) (A : Option Addr),Kd.C k29 W A 1 [⟨a0,a1,a2,[p,q]⟩] → Calls Tryd.prog 76 #[.slice A 1 1] W fun e W' => e = .returned (.int .i64 N) ∧ Below W.heap.size W W') (ih1 : BodyOk 78 92 p (newV N) (newV (nxt N)) (nxt (nxt N)) false r1 n1 b1) (ih2 : BodyOk 79 92 q (newV N) (newV (nxt N)) n1 b1 r2 n2 b2) (h6 : ∀ (W : World) (A : Option Addr) (c : Nat),Below w.heap.size w W → Kd.C k29 W A r1.f3.length r1.f3 → r1.f3.length ≤ c → Calls Tryd.prog 13 #[.agg #[.int .i64 r1.f0,.string r1.f1,.int .i64 r1.f2,.slice A r1.f3.length c]] W fun e W' => e = .returned (.string sp) ∧ Below W.heap.size W W') (h7 : ∀ W,Calls Tryd.prog 80 #[.string sp] W fun e W' => e = .returned (.bool bc) ∧ Below W.heap.size W W') (h8 : ∀ (W : World) (A : Option Addr),Kd.C k29 W A 2 [r1,r2] → Calls Tryd.prog 81 #[.agg #[.int .i64 4,.string (⟨#[58,45]⟩ : ByteArray),.int .i64 0,.slice A 2 2]] W fun e W' => ∃ A c,e = .returned (.agg #[.int .i64 4,.string (⟨#[58,45]⟩ : ByteArray),.int .i64 0,.slice A 2 c]) ∧ (As.row kD29 29 (.slice A 2 c) [r1,r2]).M W.heap.size W' (fun k => W.heap.size ≤ k) ∧ Below W.heap.size W W') (ho : ∀ (W : World) (A : Option Addr),Kd.C k29 W A 2 [r1,r2] → Calls Tryd.prog 56 #[.agg #[.int .i64 4,.string (⟨#[58,45]⟩ : ByteArray),.int .i64 0,.slice A 2 2]] W fun e W' => e = .returned (.bool bo) ∧ Below W.heap.size W W') :
  Calls Tryd.prog 40 #[.agg #[.int .i64 a0,.string a1,.int .i64 a2,.slice (some ad) 2 c]] w fun e w' => GImp (if (!b2 && (bo && !bc)) = true then (twoT NECK r1 r2) else z29) (!b2 && (bo && !bc)) w e w':=by
 obtain ⟨A3,c3,A7,c7,hn,hx,hy,hfx,hfy⟩:=kid2 hf
 have HR:=asd ((run_law w).push (As.pool w (fun _ => True) [(.slice none 0 0,[]),(.slice (some ad) 2 c,[p,q]),(.slice A3 p.f3.length c3,p.f3),(.slice A7 q.f3.length c7,q.f3)]) (Below.refl _ _) (pool_in (by intro z hz;simp only [List.mem_cons,List.not_mem_nil,or_false] at hz;rcases hz with rfl|rfl|rfl|rfl <;> first|exact foot_nil _ _|exact hf|exact hfx|exact hfy)))
 have HCAP:=asd (foot_F (ts:=[p,q]) hf).1
 have HP:=asd (show ∀ k : Nat,True → ¬ False from fun _ _ h => h)
 have HNP:=asd (show ¬ False from id)
 have HX:=asd hx
 have HY:=asd hy
 have HC:=asd hC
 have HTB:=asd tb
 have H1:=asd h1
 have H2:=asd h2
 have H3:=asd h3
 have IH1:=asd ih1
 have IH2:=asd ih2
 have H6:=asd h6
 have H7:=asd h7
 have H8:=asd h8
 have HO:=asd ho
 clear hf hn hfx hfy hx hy hC tb h1 h2 h3 ih1 ih2 h6 h7 h8 ho
 go_enter Tryd.func40,Tryd.ntmps40
 go_wp2_with (first
  | ((with_reducible refine gate_dst (N:=1) rfl ?_);refine nb HR 1 (cs:=#[.int .i64 a0,.string a1,.int .i64 a2,.slice (some ad) 2 c]) (t:=29) rfl rfl (by first | (go_simp;done) | (go_simp;rfl)) ?_;clear HR;intro ga w1 HR)
  | ((with_reducible refine gate_dst (N:=2) rfl ?_);refine nb HR 2 (cs:=#[.int .i64 0,.string (⟨#[]⟩ : ByteArray),.int .i64 0,.slice none 0 0]) (t:=29) rfl rfl (by first | (go_simp;done) | (go_simp;rfl)) ?_;clear HR;intro gr w2 HR;obtain ⟨c2ga0,c2ga1,c2ga2,c2ga3⟩:=HR.out.c4 1 rfl)
  | (go_at_call 56;have hc_:=Kd.C_below HC.out HR.out.bel;(with_reducible refine (H1.out w2 hc_).mono ?_);rintro e_ w3 ⟨rfl,hb⟩;clear hc_;replace HR:=asd (HR.out.step hb);clear hb;clear c2ga0 c2ga1 c2ga2 c2ga3;obtain ⟨c3ga0,c3ga1,c3ga2,c3ga3⟩:=HR.out.c4 1 rfl)
  | (go_at_call 61;have hc_:=Kd.C_below HC.out HR.out.bel;(with_reducible refine (H2.out w3 hc_).mono ?_);rintro e_ w4 ⟨rfl,hb⟩;clear hc_;replace HR:=asd (HR.out.step hb);clear hb;clear c3ga0 c3ga1 c3ga2 c3ga3;obtain ⟨c4ga0,c4ga1,c4ga2,c4ga3⟩:=HR.out.c4 1 rfl)
  | ((with_reducible refine gate_dst (N:=19) rfl ?_);refine lt HR 19 1 (cs:=#[.int .i64 a0,.string a1,.int .i64 a2,.slice (some ad) 2 c]) (t:=29) rfl rfl (by first | (go_simp;done) | (go_simp;rfl)) ?_;clear HR;intro gv w5 HR;clear c4ga0 c4ga1 c4ga2 c4ga3)
  | (go_at_call 76;have hc_:=lit1 (x:=⟨a0,a1,a2,[p,q]⟩) (HR.out.has 0 rfl).2 HCAP.out (Kd.C_below HC.out HR.out.bel);(with_reducible refine (H3.out w5 _ hc_).mono ?_);rintro e_ w6 ⟨rfl,hb⟩;clear hc_;replace HR:=asd (HR.out.step hb);clear hb)
  | ((with_reducible refine gate_dst (N:=22) rfl ?_);refine nb HR 22 (cs:=#[.int .i64 N,.bool false]) (t:=92) rfl rfl (by first | (go_simp;done) | (go_simp;rfl)) ?_;clear HR;intro g w7 HR;have HG:=asd (show w.heap.size ≤ g from (HR.out.has 0 rfl).1))
  | (go_at_call 77;obtain ⟨Q_,hQg_,hbx_,hQ_,hput_⟩:=HR.out.ask HP.out 4 0 rfl rfl (by decide);(with_reducible refine (impl_fresh w w7 g N false HR.out.bel HG.out hbx_).mono ?_);rintro e_ w8 ⟨rfl,hc_,hb_,hk_⟩;replace HR:=asd (hput_ _ _ [] hb_ hk_ hc_ (by intro z hz;exact absurd hz List.not_mem_nil));clear hQg_ hbx_ hQ_ hput_ hb_ hk_ hc_ Q_)
  | ((with_reducible refine gate_dst (N:=5) rfl ?_);refine nb HR 5 (cs:=#[.int .i64 0,.string (⟨#[]⟩ : ByteArray),.int .i64 0,.slice none 0 0]) (t:=29) rfl rfl (by first | (go_simp;done) | (go_simp;rfl)) ?_;clear HR;intro gx w9 HR;obtain ⟨c9gx0,c9gx1,c9gx2,c9gx3⟩:=HR.out.c4 0 rfl;obtain ⟨f9gx0,f9gx1,f9gx2,f9gx3⟩:=HR.out.f4 0 rfl)
  | ((with_reducible refine gate_store (t:=29) (p:=5) rfl ?_);refine stA HR 0 rfl [.int .i64 1,.string (⟨#[]⟩ : ByteArray),.int .i64 (newV N),.slice none 0 0] rfl rfl rfl rfl (by first | (go_simp;done) | (go_simp;rfl)) ?_;clear HR;intro w10 HR;clear c9gx0 c9gx1 c9gx2 c9gx3 f9gx0 f9gx1 f9gx2 f9gx3)
  | (go_at_call 77;obtain ⟨Q_,hQg_,hbx_,hQ_,hput_⟩:=HR.out.ask HP.out 5 1 rfl rfl (by decide);(with_reducible refine (impl_fresh w w10 g (nxt N) false HR.out.bel HG.out hbx_).mono ?_);rintro e_ w11 ⟨rfl,hc_,hb_,hk_⟩;replace HR:=asd (hput_ _ _ [] hb_ hk_ hc_ (by intro z hz;exact absurd hz List.not_mem_nil));clear hQg_ hbx_ hQ_ hput_ hb_ hk_ hc_ Q_)
  | ((with_reducible refine gate_dst (N:=6) rfl ?_);refine nb HR 6 (cs:=#[.int .i64 0,.string (⟨#[]⟩ : ByteArray),.int .i64 0,.slice none 0 0]) (t:=29) rfl rfl (by first | (go_simp;done) | (go_simp;rfl)) ?_;clear HR;intro gy w12 HR;obtain ⟨c12gy0,c12gy1,c12gy2,c12gy3⟩:=HR.out.c4 0 rfl;obtain ⟨f12gy0,f12gy1,f12gy2,f12gy3⟩:=HR.out.f4 0 rfl)
  | ((with_reducible refine gate_store (t:=29) (p:=6) rfl ?_);refine stA HR 0 rfl [.int .i64 1,.string (⟨#[]⟩ : ByteArray),.int .i64 (newV (nxt N)),.slice none 0 0] rfl rfl rfl rfl (by first | (go_simp;done) | (go_simp;rfl)) ?_;clear HR;intro w13 HR;clear c12gy0 c12gy1 c12gy2 c12gy3 f12gy0 f12gy1 f12gy2 f12gy3))
 replace HR:=asd (HR.out.drew)
 refine start_ (n:=10) (S:=fun w' => C4 w' ga (.int .i64 a0) (.string a1) (.int .i64 a2) (.slice (some ad) 2 c) ∧ C4 w' gx (.int .i64 1) (.string (⟨#[]⟩ : ByteArray)) (.int .i64 (newV N)) (.slice none 0 0) ∧ C4 w' gy (.int .i64 1) (.string (⟨#[]⟩ : ByteArray)) (.int .i64 (newV (nxt N))) (.slice none 0 0) ∧ D4 w' ad (.int .i64 p.f0) (.string p.f1) (.int .i64 p.f2) (.slice A3 p.f3.length c3)) (ds:=[9]) (bl 10 0) (by kernel_rfl) rfl rfl ⟨HR.out.c4 5 rfl,HR.out.c4 1 rfl,HR.out.c4 0 rfl,HR.out.d4 HX.out HNP.out⟩ (fun hHeld => ?_);refine with_tabW igg6_tab igg6_bits (fun HT_ HW_ => ?_)
 generalize w13.drew = w14 at HR hHeld ⊢
 refine pu 0 27 (bl 10 1) HT_ (by kernel_rfl) rfl rfl (by rfl) (fun _ _ _ h => h) (by intro w';go_simp;with_reducible rfl) (by simp only [Act.put,sa,s0,s1];rfl) ?_
 refine pu 1 28 (bl 10 3) HT_ (by kernel_rfl) rfl rfl (by rfl) (fun _ _ _ h => h) (by intro w';go_simp;with_reducible rfl) (by simp only [Act.put,sa,s0,s1];rfl) ?_
 refine tk 2 29 (bl 10 7) HT_ HW_ (by kernel_rfl) rfl rfl (by rfl) (fun _ _ _ h => h) hHeld (by rintro w' ⟨⟨s0,s1,s2,s3⟩,⟨s4,s5,s6,s7⟩,⟨s8,s9,s10,s11⟩,⟨s12,s13,s14,s15⟩⟩;go_simp;with_reducible rfl) (by simp only [Act.put,sa,s0,s1];rfl) ?_
 refine pu 3 30 (bl 10 15) HT_ (by kernel_rfl) rfl rfl (by rfl) (fun _ _ _ h => h) (by intro w';go_simp;with_reducible rfl) (by simp only [Act.put,sa,s0,s1];rfl) ?_
 refine tk 4 31 (bl 10 31) HT_ HW_ (by kernel_rfl) rfl rfl (by rfl) (fun _ _ _ h => h) hHeld (by rintro w' ⟨⟨s0,s1,s2,s3⟩,⟨s4,s5,s6,s7⟩,⟨s8,s9,s10,s11⟩,⟨s12,s13,s14,s15⟩⟩;go_simp;with_reducible rfl) (by simp only [Act.put,sa,s0,s1];rfl) ?_
 refine tk 5 32 (bl 10 63) HT_ HW_ (by kernel_rfl) rfl rfl (by rfl) (fun _ _ _ h => h) hHeld (by rintro w' ⟨⟨s0,s1,s2,s3⟩,⟨s4,s5,s6,s7⟩,⟨s8,s9,s10,s11⟩,⟨s12,s13,s14,s15⟩⟩;go_simp;with_reducible rfl) (by simp only [Act.put,sa,s0,s1];rfl) ?_
 refine tk 6 33 (bl 10 127) HT_ HW_ (by kernel_rfl) rfl rfl (by rfl) (fun _ _ _ h => h) hHeld (by rintro w' ⟨⟨s0,s1,s2,s3⟩,⟨s4,s5,s6,s7⟩,⟨s8,s9,s10,s11⟩,⟨s12,s13,s14,s15⟩⟩;go_simp;with_reducible rfl) (by simp only [Act.put,sa,s0,s1];rfl) ?_
 refine join_ (σ:=Option Addr × Nat × Nat) 1 (bl 10 511) (fun s => let ⟨A51,c51,gh⟩:=s;[(34,.agg #[.int .i64 r1.f0,.string r1.f1,.int .i64 r1.f2,.slice A51 r1.f3.length c51]),(7,.pointer (some ⟨gh,0,none⟩))]) (fun s w' => let ⟨A51,c51,gh⟩:=s;Run w w (fun _ => False) [As.box gh 29 #[.int .i64 0,.string (⟨#[]⟩ : ByteArray),.int .i64 0,.slice none 0 0],As.box gy 29 #[.int .i64 1,.string (⟨#[]⟩ : ByteArray),.int .i64 (newV (nxt N)),.slice none 0 0],As.box gx 29 #[.int .i64 1,.string (⟨#[]⟩ : ByteArray),.int .i64 (newV N),.slice none 0 0],As.box g 92 #[.int .i64 n1,.bool b1],As.box gv 29 #[.int .i64 a0,.string a1,.int .i64 a2,.slice (some ad) 2 c],As.box gr 29 #[.int .i64 0,.string (⟨#[]⟩ : ByteArray),.int .i64 0,.slice none 0 0],As.box ga 29 #[.int .i64 a0,.string a1,.int .i64 a2,.slice (some ad) 2 c],As.pool w (fun _ => True) ([(.slice A51 r1.f3.length c51,r1.f3)] ++ ([] ++ ([] ++ [(.slice none 0 0,[]),(.slice (some ad) 2 c,[p,q]),(.slice A3 p.f3.length c3,p.f3),(.slice A7 q.f3.length c7,q.f3)])))] w') ?_ ?_
 rotate_left
 ·intro hCont
  refine tw 7 8 (some 34) (some 7) (bl 10 255) (bl 10 383) HT_ (by kernel_rfl) rfl rfl rfl rfl (by decide) (by decide) ?_ ?_
  ·skip
   obtain ⟨Q_,hQg_,hbx_,hQ_,hput_⟩:=HR.out.ask HP.out 6 2 rfl rfl (by decide)
   refine clS Tryd.func78 (by kernel_rfl) rfl #[.pointer (some ⟨g,0,none⟩),.agg #[.int .i64 p.f0,.string p.f1,.int .i64 p.f2,.slice A3 p.f3.length c3],.agg #[.int .i64 1,.string (⟨#[]⟩ : ByteArray),.int .i64 (newV N),.slice none 0 0],.agg #[.int .i64 1,.string (⟨#[]⟩ : ByteArray),.int .i64 (newV (nxt N)),.slice none 0 0]] (by rfl) rfl rfl (by (try simp only [List.map_toArray,List.map_cons,List.map_nil]);first|done|rfl) ((IH1.out.go w w14 g Q_ A3 c3 HTB.out HR.out.bel HG.out hQg_ hbx_ (hQ_ _ (by simp))).mono ?_)
   rintro e_ w15 hq_
   unfold BPost at hq_
   obtain ⟨A51,c51,rfl,hr_,hc_,hb_,hk_⟩:=hq_
   replace HR:=asd (hput_ _ _ [(.slice A51 r1.f3.length c51,r1.f3)] hb_ hk_ hc_ (by intro z hz;obtain rfl:=List.mem_singleton.1 hz;exact hr_))
   clear hQg_ hbx_ hQ_ hput_ hr_ hc_ hb_ hk_ Q_
   refine ⟨_,rfl,⟨HR.out.c4 5 rfl,HR.out.c4 1 rfl,HR.out.c4 0 rfl,HR.out.d4 HX.out HNP.out⟩,fun hHeld => ?_⟩
   refine nm (by simp only [Act.put,sa,s0,s1];rfl) ?_
   refine on 8 (some 7) (bl 10 511) HT_ (by kernel_rfl) rfl rfl (by decide) ?_
   refine nbS HR 7 (cs:=#[.int .i64 0,.string (⟨#[]⟩ : ByteArray),.int .i64 0,.slice none 0 0]) (t:=29) (by rfl) rfl (by first|(go_simp;done)|(go_simp;rfl)) ?_
   clear HR;intro gh w16 HR
   refine ⟨⟨HR.out.c4 6 rfl,HR.out.c4 2 rfl,HR.out.c4 1 rfl,HR.out.d4 HX.out HNP.out⟩,fun hHeld => ?_⟩
   refine nm (by simp only [Act.put,sa,s0,s1];rfl) ?_
   exact nm (by simp only [putAll,Act.put,sa,s0,s1]) (hCont (A51,c51,gh) _ HR.out)
  ·skip
   refine nbS HR 7 (cs:=#[.int .i64 0,.string (⟨#[]⟩ : ByteArray),.int .i64 0,.slice none 0 0]) (t:=29) (by rfl) rfl (by first|(go_simp;done)|(go_simp;rfl)) ?_
   clear HR;intro gh w15 HR
   refine ⟨⟨HR.out.c4 6 rfl,HR.out.c4 2 rfl,HR.out.c4 1 rfl,HR.out.d4 HX.out HNP.out⟩,fun hHeld => ?_⟩
   refine nm (by simp only [Act.put,sa,s0,s1];rfl) ?_
   refine on 7 (some 34) (bl 10 511) HT_ (by kernel_rfl) rfl rfl (by decide) ?_
   obtain ⟨Q_,hQg_,hbx_,hQ_,hput_⟩:=HR.out.ask HP.out 7 3 rfl rfl (by decide)
   refine clS Tryd.func78 (by kernel_rfl) rfl #[.pointer (some ⟨g,0,none⟩),.agg #[.int .i64 p.f0,.string p.f1,.int .i64 p.f2,.slice A3 p.f3.length c3],.agg #[.int .i64 1,.string (⟨#[]⟩ : ByteArray),.int .i64 (newV N),.slice none 0 0],.agg #[.int .i64 1,.string (⟨#[]⟩ : ByteArray),.int .i64 (newV (nxt N)),.slice none 0 0]] (by rfl) rfl rfl (by (try simp only [List.map_toArray,List.map_cons,List.map_nil]);first|done|rfl) ((IH1.out.go w w15 g Q_ A3 c3 HTB.out HR.out.bel HG.out hQg_ hbx_ (hQ_ _ (by simp))).mono ?_)
   rintro e_ w16 hq_
   unfold BPost at hq_
   obtain ⟨A51,c51,rfl,hr_,hc_,hb_,hk_⟩:=hq_
   replace HR:=asd (hput_ _ _ [(.slice A51 r1.f3.length c51,r1.f3)] hb_ hk_ hc_ (by intro z hz;obtain rfl:=List.mem_singleton.1 hz;exact hr_))
   clear hQg_ hbx_ hQ_ hput_ hr_ hc_ hb_ hk_ Q_
   refine ⟨_,rfl,⟨HR.out.c4 6 rfl,HR.out.c4 2 rfl,HR.out.c4 1 rfl,HR.out.d4 HX.out HNP.out⟩,fun hHeld => ?_⟩
   refine nm (by simp only [Act.put,sa,s0,s1];rfl) ?_
   exact nm (by simp only [putAll,Act.put,sa,s0,s1]) (hCont (A51,c51,gh) _ HR.out)
 rintro ⟨A51,c51,gh⟩ w17 hR_
 clear HR;have HR:=asd hR_;clear hR_;dsimp only at HR
 refine nm (by simp only [putAll,Act.put,sa,s0,s1];rfl) ?_
 obtain ⟨hz0_,hz1_,hz2_,hz3_⟩:=HR.out.c4 0 rfl;obtain ⟨fz0_,fz1_,fz2_,fz3_⟩:=HR.out.f4 0 rfl
 refine lsA HR 0 9 (bl 10 1023) HT_ (by kernel_rfl) rfl rfl (by decide) rfl [.int .i64 r1.f0,.string r1.f1,.int .i64 r1.f2,.slice A51 r1.f3.length c51] rfl (by rfl) (by first|(go_simp;done)|(go_simp;rfl)) ?_
 clear HR hz0_ hz1_ hz2_ hz3_ fz0_ fz1_ fz2_ fz3_;intro w18 HR
 refine done_ (done_of HT_.out (by kernel_rfl)) ?_
 go_wp2_with fail
 replace HR:=asd (HR.out.drew)
 refine start_ (n:=13) (S:=fun w' => C4 w' gh (.int .i64 r1.f0) (.string r1.f1) (.int .i64 r1.f2) (.slice A51 r1.f3.length c51) ∧ C4 w' ga (.int .i64 a0) (.string a1) (.int .i64 a2) (.slice (some ad) 2 c) ∧ C4 w' gx (.int .i64 1) (.string (⟨#[]⟩ : ByteArray)) (.int .i64 (newV N)) (.slice none 0 0) ∧ C4 w' gy (.int .i64 1) (.string (⟨#[]⟩ : ByteArray)) (.int .i64 (newV (nxt N))) (.slice none 0 0) ∧ E4 w' ad (.int .i64 q.f0) (.string q.f1) (.int .i64 q.f2) (.slice A7 q.f3.length c7)) (ds:=[12]) (bl 13 0) (by kernel_rfl) rfl rfl ⟨HR.out.c4 0 rfl,HR.out.c4 6 rfl,HR.out.c4 2 rfl,HR.out.c4 1 rfl,HR.out.e4 HY.out HNP.out⟩ (fun hHeld => ?_);refine with_tabW igg7_tab igg7_bits (fun HT_ HW_ => ?_)
 generalize w18.drew = w19 at HR hHeld ⊢
 refine tk 0 35 (bl 13 1) HT_ HW_ (by kernel_rfl) rfl rfl (by rfl) (fun _ _ _ h => h) hHeld (by rintro w' ⟨⟨s0,s1,s2,s3⟩,⟨s4,s5,s6,s7⟩,⟨s8,s9,s10,s11⟩,⟨s12,s13,s14,s15⟩,⟨s16,s17,s18,s19⟩⟩;go_simp;with_reducible rfl) (by simp only [Act.put,sa,s0,s1];rfl) ?_
 refine pu 1 36 (bl 13 3) HT_ (by kernel_rfl) rfl rfl (by rfl) (fun _ _ _ h => h) (by intro w';go_simp;with_reducible rfl) (by simp only [Act.put,sa,s0,s1];rfl) ?_
 refine pu 2 37 (bl 13 7) HT_ (by kernel_rfl) rfl rfl (by rfl) (fun _ _ _ h => h) (by intro w';go_simp;with_reducible rfl) (by simp only [Act.put,sa,s0,s1];rfl) ?_
 refine tk 3 38 (bl 13 15) HT_ HW_ (by kernel_rfl) rfl rfl (by rfl) (fun _ _ _ h => h) hHeld (by rintro w' ⟨⟨s0,s1,s2,s3⟩,⟨s4,s5,s6,s7⟩,⟨s8,s9,s10,s11⟩,⟨s12,s13,s14,s15⟩,⟨s16,s17,s18,s19⟩⟩;go_simp;with_reducible rfl) (by simp only [Act.put,sa,s0,s1];rfl) ?_
 refine pu 4 39 (bl 13 31) HT_ (by kernel_rfl) rfl rfl (by rfl) (fun _ _ _ h => h) (by intro w';go_simp;with_reducible rfl) (by simp only [Act.put,sa,s0,s1];rfl) ?_
 refine tk 5 40 (bl 13 63) HT_ HW_ (by kernel_rfl) rfl rfl (by rfl) (fun _ _ _ h => h) hHeld (by rintro w' ⟨⟨s0,s1,s2,s3⟩,⟨s4,s5,s6,s7⟩,⟨s8,s9,s10,s11⟩,⟨s12,s13,s14,s15⟩,⟨s16,s17,s18,s19⟩⟩;go_simp;with_reducible rfl) (by simp only [Act.put,sa,s0,s1];rfl) ?_
 refine tk 6 41 (bl 13 127) HT_ HW_ (by kernel_rfl) rfl rfl (by rfl) (fun _ _ _ h => h) hHeld (by rintro w' ⟨⟨s0,s1,s2,s3⟩,⟨s4,s5,s6,s7⟩,⟨s8,s9,s10,s11⟩,⟨s12,s13,s14,s15⟩,⟨s16,s17,s18,s19⟩⟩;go_simp;with_reducible rfl) (by simp only [Act.put,sa,s0,s1];rfl) ?_
 refine tk 7 42 (bl 13 255) HT_ HW_ (by kernel_rfl) rfl rfl (by rfl) (fun _ _ _ h => h) hHeld (by rintro w' ⟨⟨s0,s1,s2,s3⟩,⟨s4,s5,s6,s7⟩,⟨s8,s9,s10,s11⟩,⟨s12,s13,s14,s15⟩,⟨s16,s17,s18,s19⟩⟩;go_simp;with_reducible rfl) (by simp only [Act.put,sa,s0,s1];rfl) ?_
 refine join_ (σ:=Option Addr × Nat × Nat × Nat) 1 (bl 13 4095) (fun s => let ⟨A52,c52,gq,go⟩:=s;[(43,.agg #[.int .i64 r2.f0,.string r2.f1,.int .i64 r2.f2,.slice A52 r2.f3.length c52]),(44,.slice (some ⟨gq,0,none⟩) 2 2),(45,.agg #[.int .i64 4,.string (⟨#[58,45]⟩ : ByteArray),.int .i64 0,.slice (some ⟨gq,0,none⟩) 2 2]),(8,.pointer (some ⟨go,0,none⟩))]) (fun s w' => let ⟨A52,c52,gq,go⟩:=s;Run w w (fun _ => False) [As.box go 29 #[.int .i64 0,.string (⟨#[]⟩ : ByteArray),.int .i64 0,.slice none 0 0],As.box gq 29 #[.int .i64 r1.f0,.string r1.f1,.int .i64 r1.f2,.slice A51 r1.f3.length c51,.int .i64 r2.f0,.string r2.f1,.int .i64 r2.f2,.slice A52 r2.f3.length c52],As.box gh 29 #[.int .i64 r1.f0,.string r1.f1,.int .i64 r1.f2,.slice A51 r1.f3.length c51],As.box gy 29 #[.int .i64 1,.string (⟨#[]⟩ : ByteArray),.int .i64 (newV (nxt N)),.slice none 0 0],As.box gx 29 #[.int .i64 1,.string (⟨#[]⟩ : ByteArray),.int .i64 (newV N),.slice none 0 0],As.box g 92 #[.int .i64 n2,.bool b2],As.box gv 29 #[.int .i64 a0,.string a1,.int .i64 a2,.slice (some ad) 2 c],As.box gr 29 #[.int .i64 0,.string (⟨#[]⟩ : ByteArray),.int .i64 0,.slice none 0 0],As.box ga 29 #[.int .i64 a0,.string a1,.int .i64 a2,.slice (some ad) 2 c],As.pool w (fun _ => True) ([(.slice A52 r2.f3.length c52,r2.f3)] ++ ([(.slice A51 r1.f3.length c51,r1.f3)] ++ ([] ++ ([] ++ [(.slice none 0 0,[]),(.slice (some ad) 2 c,[p,q]),(.slice A3 p.f3.length c3,p.f3),(.slice A7 q.f3.length c7,q.f3)]))))] w') ?_ ?_
 rotate_left
 ·intro hCont
  refine tw 8 11 (some 43) (some 8) (bl 13 511) (bl 13 2303) HT_ (by kernel_rfl) rfl rfl rfl rfl (by decide) (by decide) ?_ ?_
  ·skip
   obtain ⟨Q_,hQg_,hbx_,hQ_,hput_⟩:=HR.out.ask HP.out 7 3 rfl rfl (by decide)
   refine clS Tryd.func79 (by kernel_rfl) rfl #[.pointer (some ⟨g,0,none⟩),.agg #[.int .i64 q.f0,.string q.f1,.int .i64 q.f2,.slice A7 q.f3.length c7],.agg #[.int .i64 1,.string (⟨#[]⟩ : ByteArray),.int .i64 (newV N),.slice none 0 0],.agg #[.int .i64 1,.string (⟨#[]⟩ : ByteArray),.int .i64 (newV (nxt N)),.slice none 0 0]] (by rfl) rfl rfl (by (try simp only [List.map_toArray,List.map_cons,List.map_nil]);first|done|rfl) ((IH2.out.go w w19 g Q_ A7 c7 HTB.out HR.out.bel HG.out hQg_ hbx_ (hQ_ _ (by simp))).mono ?_)
   rintro e_ w20 hq_
   unfold BPost at hq_
   obtain ⟨A52,c52,rfl,hr_,hc_,hb_,hk_⟩:=hq_
   replace HR:=asd (hput_ _ _ [(.slice A52 r2.f3.length c52,r2.f3)] hb_ hk_ hc_ (by intro z hz;obtain rfl:=List.mem_singleton.1 hz;exact hr_))
   clear hQg_ hbx_ hQ_ hput_ hr_ hc_ hb_ hk_ Q_
   refine ⟨_,rfl,⟨HR.out.c4 0 rfl,HR.out.c4 6 rfl,HR.out.c4 2 rfl,HR.out.c4 1 rfl,HR.out.e4 HY.out HNP.out⟩,fun hHeld => ?_⟩
   refine nm (by simp only [Act.put,sa,s0,s1];rfl) ?_
   refine tw 9 11 (some 44) (some 8) (bl 13 1023) (bl 13 2559) HT_ (by kernel_rfl) rfl rfl rfl rfl (by decide) (by decide) ?_ ?_
   ·skip
    refine ltS HR 44 2 (cs:=#[.int .i64 r1.f0,.string r1.f1,.int .i64 r1.f2,.slice A51 r1.f3.length c51,.int .i64 r2.f0,.string r2.f1,.int .i64 r2.f2,.slice A52 r2.f3.length c52]) (t:=29) (by rfl) rfl (by first|(go_simp;done)|(go_simp;rfl)) ?_
    clear HR;intro gq w21 HR
    refine ⟨⟨HR.out.c4 1 rfl,HR.out.c4 7 rfl,HR.out.c4 3 rfl,HR.out.c4 2 rfl,HR.out.e4 HY.out HNP.out⟩,fun hHeld => ?_⟩
    refine nm (by simp only [Act.put,sa,s0,s1];rfl) ?_
    refine tw 10 11 (some 45) (some 8) (bl 13 2047) (bl 13 3071) HT_ (by kernel_rfl) rfl rfl rfl rfl (by decide) (by decide) ?_ ?_
    ·skip
     refine clS Tryd.func62 (by kernel_rfl) rfl #[.string (⟨#[58,45]⟩ : ByteArray),.slice (some ⟨gq,0,none⟩) 2 2] (by rfl) rfl rfl (by (try simp only [List.map_toArray,List.map_cons,List.map_nil]);first|done|rfl) ((struct_calls (⟨#[58,45]⟩ : ByteArray) (some ⟨gq,0,none⟩) 2 2 w21).mono ?_)
     rintro e_ w22 ⟨rfl,hb⟩
     replace HR:=asd (HR.out.step hb)
     clear hb
     refine ⟨_,rfl,⟨HR.out.c4 1 rfl,HR.out.c4 7 rfl,HR.out.c4 3 rfl,HR.out.c4 2 rfl,HR.out.e4 HY.out HNP.out⟩,fun hHeld => ?_⟩
     refine nm (by simp only [Act.put,sa,s0,s1];rfl) ?_
     refine on 11 (some 8) (bl 13 4095) HT_ (by kernel_rfl) rfl rfl (by decide) ?_
     refine nbS HR 8 (cs:=#[.int .i64 0,.string (⟨#[]⟩ : ByteArray),.int .i64 0,.slice none 0 0]) (t:=29) (by rfl) rfl (by first|(go_simp;done)|(go_simp;rfl)) ?_
     clear HR;intro go w23 HR
     refine ⟨⟨HR.out.c4 2 rfl,HR.out.c4 8 rfl,HR.out.c4 4 rfl,HR.out.c4 3 rfl,HR.out.e4 HY.out HNP.out⟩,fun hHeld => ?_⟩
     refine nm (by simp only [Act.put,sa,s0,s1];rfl) ?_
     exact nm (by simp only [putAll,Act.put,sa,s0,s1]) (hCont (A52,c52,gq,go) _ HR.out)
    ·skip
     refine nbS HR 8 (cs:=#[.int .i64 0,.string (⟨#[]⟩ : ByteArray),.int .i64 0,.slice none 0 0]) (t:=29) (by rfl) rfl (by first|(go_simp;done)|(go_simp;rfl)) ?_
     clear HR;intro go w22 HR
     refine ⟨⟨HR.out.c4 2 rfl,HR.out.c4 8 rfl,HR.out.c4 4 rfl,HR.out.c4 3 rfl,HR.out.e4 HY.out HNP.out⟩,fun hHeld => ?_⟩
     refine nm (by simp only [Act.put,sa,s0,s1];rfl) ?_
     refine on 10 (some 45) (bl 13 4095) HT_ (by kernel_rfl) rfl rfl (by decide) ?_
     refine clS Tryd.func62 (by kernel_rfl) rfl #[.string (⟨#[58,45]⟩ : ByteArray),.slice (some ⟨gq,0,none⟩) 2 2] (by rfl) rfl rfl (by (try simp only [List.map_toArray,List.map_cons,List.map_nil]);first|done|rfl) ((struct_calls (⟨#[58,45]⟩ : ByteArray) (some ⟨gq,0,none⟩) 2 2 w22).mono ?_)
     rintro e_ w23 ⟨rfl,hb⟩
     replace HR:=asd (HR.out.step hb)
     clear hb
     refine ⟨_,rfl,⟨HR.out.c4 2 rfl,HR.out.c4 8 rfl,HR.out.c4 4 rfl,HR.out.c4 3 rfl,HR.out.e4 HY.out HNP.out⟩,fun hHeld => ?_⟩
     refine nm (by simp only [Act.put,sa,s0,s1];rfl) ?_
     exact nm (by simp only [putAll,Act.put,sa,s0,s1]) (hCont (A52,c52,gq,go) _ HR.out)
   ·skip
    refine nbS HR 8 (cs:=#[.int .i64 0,.string (⟨#[]⟩ : ByteArray),.int .i64 0,.slice none 0 0]) (t:=29) (by rfl) rfl (by first|(go_simp;done)|(go_simp;rfl)) ?_
    clear HR;intro go w21 HR
    refine ⟨⟨HR.out.c4 1 rfl,HR.out.c4 7 rfl,HR.out.c4 3 rfl,HR.out.c4 2 rfl,HR.out.e4 HY.out HNP.out⟩,fun hHeld => ?_⟩
    refine nm (by simp only [Act.put,sa,s0,s1];rfl) ?_
    refine on 9 (some 44) (bl 13 3071) HT_ (by kernel_rfl) rfl rfl (by decide) ?_
    refine ltS HR 44 2 (cs:=#[.int .i64 r1.f0,.string r1.f1,.int .i64 r1.f2,.slice A51 r1.f3.length c51,.int .i64 r2.f0,.string r2.f1,.int .i64 r2.f2,.slice A52 r2.f3.length c52]) (t:=29) (by rfl) rfl (by first|(go_simp;done)|(go_simp;rfl)) ?_
    clear HR;intro gq w22 HR
    refine ⟨⟨HR.out.c4 2 rfl,HR.out.c4 8 rfl,HR.out.c4 4 rfl,HR.out.c4 3 rfl,HR.out.e4 HY.out HNP.out⟩,fun hHeld => ?_⟩
    refine nm (by simp only [Act.put,sa,s0,s1];rfl) ?_
    refine on 10 (some 45) (bl 13 4095) HT_ (by kernel_rfl) rfl rfl (by decide) ?_
    refine clS Tryd.func62 (by kernel_rfl) rfl #[.string (⟨#[58,45]⟩ : ByteArray),.slice (some ⟨gq,0,none⟩) 2 2] (by rfl) rfl rfl (by (try simp only [List.map_toArray,List.map_cons,List.map_nil]);first|done|rfl) ((struct_calls (⟨#[58,45]⟩ : ByteArray) (some ⟨gq,0,none⟩) 2 2 w22).mono ?_)
    rintro e_ w23 ⟨rfl,hb⟩
    replace HR:=asd (HR.out.step hb)
    clear hb
    refine ⟨_,rfl,⟨HR.out.c4 2 rfl,HR.out.c4 8 rfl,HR.out.c4 4 rfl,HR.out.c4 3 rfl,HR.out.e4 HY.out HNP.out⟩,fun hHeld => ?_⟩
    refine nm (by simp only [Act.put,sa,s0,s1];rfl) ?_
    exact nm (by simp only [putAll,Act.put,sa,s0,s1]) (hCont (A52,c52,gq,go) _ (HR.out.pick [1,0,2,3,4,5,6,7,8,9] (by decide)))
  ·skip
   refine nbS HR 8 (cs:=#[.int .i64 0,.string (⟨#[]⟩ : ByteArray),.int .i64 0,.slice none 0 0]) (t:=29) (by rfl) rfl (by first|(go_simp;done)|(go_simp;rfl)) ?_
   clear HR;intro go w20 HR
   refine ⟨⟨HR.out.c4 1 rfl,HR.out.c4 7 rfl,HR.out.c4 3 rfl,HR.out.c4 2 rfl,HR.out.e4 HY.out HNP.out⟩,fun hHeld => ?_⟩
   refine nm (by simp only [Act.put,sa,s0,s1];rfl) ?_
   refine on 8 (some 43) (bl 13 2559) HT_ (by kernel_rfl) rfl rfl (by decide) ?_
   obtain ⟨Q_,hQg_,hbx_,hQ_,hput_⟩:=HR.out.ask HP.out 8 4 rfl rfl (by decide)
   refine clS Tryd.func79 (by kernel_rfl) rfl #[.pointer (some ⟨g,0,none⟩),.agg #[.int .i64 q.f0,.string q.f1,.int .i64 q.f2,.slice A7 q.f3.length c7],.agg #[.int .i64 1,.string (⟨#[]⟩ : ByteArray),.int .i64 (newV N),.slice none 0 0],.agg #[.int .i64 1,.string (⟨#[]⟩ : ByteArray),.int .i64 (newV (nxt N)),.slice none 0 0]] (by rfl) rfl rfl (by (try simp only [List.map_toArray,List.map_cons,List.map_nil]);first|done|rfl) ((IH2.out.go w w20 g Q_ A7 c7 HTB.out HR.out.bel HG.out hQg_ hbx_ (hQ_ _ (by simp))).mono ?_)
   rintro e_ w21 hq_
   unfold BPost at hq_
   obtain ⟨A52,c52,rfl,hr_,hc_,hb_,hk_⟩:=hq_
   replace HR:=asd (hput_ _ _ [(.slice A52 r2.f3.length c52,r2.f3)] hb_ hk_ hc_ (by intro z hz;obtain rfl:=List.mem_singleton.1 hz;exact hr_))
   clear hQg_ hbx_ hQ_ hput_ hr_ hc_ hb_ hk_ Q_
   refine ⟨_,rfl,⟨HR.out.c4 1 rfl,HR.out.c4 7 rfl,HR.out.c4 3 rfl,HR.out.c4 2 rfl,HR.out.e4 HY.out HNP.out⟩,fun hHeld => ?_⟩
   refine nm (by simp only [Act.put,sa,s0,s1];rfl) ?_
   refine on 9 (some 44) (bl 13 3071) HT_ (by kernel_rfl) rfl rfl (by decide) ?_
   refine ltS HR 44 2 (cs:=#[.int .i64 r1.f0,.string r1.f1,.int .i64 r1.f2,.slice A51 r1.f3.length c51,.int .i64 r2.f0,.string r2.f1,.int .i64 r2.f2,.slice A52 r2.f3.length c52]) (t:=29) (by rfl) rfl (by first|(go_simp;done)|(go_simp;rfl)) ?_
   clear HR;intro gq w22 HR
   refine ⟨⟨HR.out.c4 2 rfl,HR.out.c4 8 rfl,HR.out.c4 4 rfl,HR.out.c4 3 rfl,HR.out.e4 HY.out HNP.out⟩,fun hHeld => ?_⟩
   refine nm (by simp only [Act.put,sa,s0,s1];rfl) ?_
   refine on 10 (some 45) (bl 13 4095) HT_ (by kernel_rfl) rfl rfl (by decide) ?_
   refine clS Tryd.func62 (by kernel_rfl) rfl #[.string (⟨#[58,45]⟩ : ByteArray),.slice (some ⟨gq,0,none⟩) 2 2] (by rfl) rfl rfl (by (try simp only [List.map_toArray,List.map_cons,List.map_nil]);first|done|rfl) ((struct_calls (⟨#[58,45]⟩ : ByteArray) (some ⟨gq,0,none⟩) 2 2 w22).mono ?_)
   rintro e_ w23 ⟨rfl,hb⟩
   replace HR:=asd (HR.out.step hb)
   clear hb
   refine ⟨_,rfl,⟨HR.out.c4 2 rfl,HR.out.c4 8 rfl,HR.out.c4 4 rfl,HR.out.c4 3 rfl,HR.out.e4 HY.out HNP.out⟩,fun hHeld => ?_⟩
   refine nm (by simp only [Act.put,sa,s0,s1];rfl) ?_
   exact nm (by simp only [putAll,Act.put,sa,s0,s1]) (hCont (A52,c52,gq,go) _ (HR.out.pick [1,0,2,3,4,5,6,7,8,9] (by decide)))
 rintro ⟨A52,c52,gq,go⟩ w24 hR_
 clear HR;have HR:=asd hR_;clear hR_;dsimp only at HR
 refine nm (by simp only [putAll,Act.put,sa,s0,s1];rfl) ?_
 obtain ⟨hz0_,hz1_,hz2_,hz3_⟩:=HR.out.c4 0 rfl;obtain ⟨fz0_,fz1_,fz2_,fz3_⟩:=HR.out.f4 0 rfl
 refine lsA HR 0 12 (bl 13 8191) HT_ (by kernel_rfl) rfl rfl (by decide) rfl [.int .i64 4,.string (⟨#[58,45]⟩ : ByteArray),.int .i64 0,.slice (some ⟨gq,0,none⟩) 2 2] rfl (by rfl) (by first|(go_simp;done)|(go_simp;rfl)) ?_
 clear HR hz0_ hz1_ hz2_ hz3_ fz0_ fz1_ fz2_ fz3_;intro w25 HR
 refine done_ (done_of HT_.out (by kernel_rfl)) ?_
 cases b2
 case true =>
  obtain ⟨c14g0,c14g1⟩:=HR.out.c2 5 rfl
  obtain ⟨c14gr0,c14gr1,c14gr2,c14gr3⟩:=HR.out.c4 7 rfl
  obtain ⟨f14gr0,f14gr1,f14gr2,f14gr3⟩:=HR.out.f4 7 rfl
  go_wp2_with (first
   | ((with_reducible refine gate_store (t:=29) (p:=2) rfl ?_);refine stA HR 7 rfl [.int .i64 0,.string (⟨#[]⟩ : ByteArray),.int .i64 0,.slice none 0 0] rfl rfl rfl rfl (by first | (go_simp;done) | (go_simp;rfl)) ?_;clear HR;intro w26 HR;clear c14g0 c14g1 c14gr0 c14gr1 c14gr2 c14gr3 f14gr0 f14gr1 f14gr2 f14gr3))
  refine bodyPost_ret (results_ct rfl _ _ gr 29 #[.int .i64 0,.string (⟨#[]⟩ : ByteArray),.int .i64 0,.slice none 0 0] (0,0) _ rfl (HR.out.has 7 rfl).2 Tryd.underlying29 rfl (by kernel_rfl)) rfl ?_
  exact (show GImp z29 false w _ _ from ⟨none,0,rfl,Kd.S_nil _ _ _ _ _,HR.out.bel⟩)
 case false =>
  cases bo
  case false =>
   obtain ⟨c14g0,c14g1⟩:=HR.out.c2 5 rfl
   obtain ⟨c14go0,c14go1,c14go2,c14go3⟩:=HR.out.c4 0 rfl
   go_wp2_with (first
    | (go_at_call 56;have hc_:=(HR.out.pool_lit 9 1 rfl rfl (by decide) [r1,r2] 2 rfl (by decide) (lit2_ok (va:=.slice A51 r1.f3.length c51) (vb:=.slice A52 r2.f3.length c52) (by simp) (by simp))).poolC HP.out 9 rfl (A:=some ⟨gq,0,none⟩) (n:=2) (c:=2) (xs:=[r1,r2]) (by simp);(with_reducible refine (HO.out w25 _ hc_).mono ?_);rintro e_ w26 ⟨rfl,hb⟩;clear hc_;replace HR:=asd (HR.out.step hb);clear hb;clear c14g0 c14g1 c14go0 c14go1 c14go2 c14go3;obtain ⟨c15gr0,c15gr1,c15gr2,c15gr3⟩:=HR.out.c4 7 rfl;obtain ⟨f15gr0,f15gr1,f15gr2,f15gr3⟩:=HR.out.f4 7 rfl)
    | ((with_reducible refine gate_store (t:=29) (p:=2) rfl ?_);refine stA HR 7 rfl [.int .i64 0,.string (⟨#[]⟩ : ByteArray),.int .i64 0,.slice none 0 0] rfl rfl rfl rfl (by first | (go_simp;done) | (go_simp;rfl)) ?_;clear HR;intro w27 HR;clear c15gr0 c15gr1 c15gr2 c15gr3 f15gr0 f15gr1 f15gr2 f15gr3))
   refine bodyPost_ret (results_ct rfl _ _ gr 29 #[.int .i64 0,.string (⟨#[]⟩ : ByteArray),.int .i64 0,.slice none 0 0] (0,0) _ rfl (HR.out.has 7 rfl).2 Tryd.underlying29 rfl (by kernel_rfl)) rfl ?_
   exact (show GImp z29 false w _ _ from ⟨none,0,rfl,Kd.S_nil _ _ _ _ _,HR.out.bel⟩)
  case true =>
   cases bc
   case true =>
    obtain ⟨c14g0,c14g1⟩:=HR.out.c2 5 rfl
    obtain ⟨c14go0,c14go1,c14go2,c14go3⟩:=HR.out.c4 0 rfl
    go_wp2_with (first
     | (go_at_call 56;have hc_:=(HR.out.pool_lit 9 1 rfl rfl (by decide) [r1,r2] 2 rfl (by decide) (lit2_ok (va:=.slice A51 r1.f3.length c51) (vb:=.slice A52 r2.f3.length c52) (by simp) (by simp))).poolC HP.out 9 rfl (A:=some ⟨gq,0,none⟩) (n:=2) (c:=2) (xs:=[r1,r2]) (by simp);(with_reducible refine (HO.out w25 _ hc_).mono ?_);rintro e_ w26 ⟨rfl,hb⟩;clear hc_;replace HR:=asd (HR.out.step hb);clear hb;clear c14g0 c14g1 c14go0 c14go1 c14go2 c14go3;obtain ⟨c15gh0,c15gh1,c15gh2,c15gh3⟩:=HR.out.c4 2 rfl)
     | (go_at_call 13;have hc_ : Kd.C k29 w26 A51 r1.f3.length r1.f3:=HR.out.poolC HP.out 9 rfl (c:=c51) (by simp);have hl_ : r1.f3.length ≤ c51:=(foot_F (A:=A51) (HR.out.footC HP.out 9 rfl (by simp))).1;(with_reducible refine (H6.out w26 A51 c51 HR.out.bel hc_ hl_).mono ?_);rintro e_ w27 ⟨rfl,hb⟩;clear hc_ hl_;replace HR:=asd (HR.out.step hb);clear hb;clear c15gh0 c15gh1 c15gh2 c15gh3)
     | (go_at_call 80;(with_reducible refine (H7.out w27).mono ?_);rintro e_ w28 ⟨rfl,hb⟩;replace HR:=asd (HR.out.step hb);clear hb;obtain ⟨c17gr0,c17gr1,c17gr2,c17gr3⟩:=HR.out.c4 7 rfl;obtain ⟨f17gr0,f17gr1,f17gr2,f17gr3⟩:=HR.out.f4 7 rfl)
     | ((with_reducible refine gate_store (t:=29) (p:=2) rfl ?_);refine stA HR 7 rfl [.int .i64 0,.string (⟨#[]⟩ : ByteArray),.int .i64 0,.slice none 0 0] rfl rfl rfl rfl (by first | (go_simp;done) | (go_simp;rfl)) ?_;clear HR;intro w29 HR;clear c17gr0 c17gr1 c17gr2 c17gr3 f17gr0 f17gr1 f17gr2 f17gr3))
    refine bodyPost_ret (results_ct rfl _ _ gr 29 #[.int .i64 0,.string (⟨#[]⟩ : ByteArray),.int .i64 0,.slice none 0 0] (0,0) _ rfl (HR.out.has 7 rfl).2 Tryd.underlying29 rfl (by kernel_rfl)) rfl ?_
    exact (show GImp z29 false w _ _ from ⟨none,0,rfl,Kd.S_nil _ _ _ _ _,HR.out.bel⟩)
   case false =>
    obtain ⟨c14g0,c14g1⟩:=HR.out.c2 5 rfl
    obtain ⟨c14go0,c14go1,c14go2,c14go3⟩:=HR.out.c4 0 rfl
    go_wp2_with (first
     | (go_at_call 56;have hc_:=(HR.out.pool_lit 9 1 rfl rfl (by decide) [r1,r2] 2 rfl (by decide) (lit2_ok (va:=.slice A51 r1.f3.length c51) (vb:=.slice A52 r2.f3.length c52) (by simp) (by simp))).poolC HP.out 9 rfl (A:=some ⟨gq,0,none⟩) (n:=2) (c:=2) (xs:=[r1,r2]) (by simp);(with_reducible refine (HO.out w25 _ hc_).mono ?_);rintro e_ w26 ⟨rfl,hb⟩;clear hc_;replace HR:=asd (HR.out.step hb);clear hb;clear c14g0 c14g1 c14go0 c14go1 c14go2 c14go3;obtain ⟨c15gh0,c15gh1,c15gh2,c15gh3⟩:=HR.out.c4 2 rfl)
     | (go_at_call 13;have hc_ : Kd.C k29 w26 A51 r1.f3.length r1.f3:=HR.out.poolC HP.out 9 rfl (c:=c51) (by simp);have hl_ : r1.f3.length ≤ c51:=(foot_F (A:=A51) (HR.out.footC HP.out 9 rfl (by simp))).1;(with_reducible refine (H6.out w26 A51 c51 HR.out.bel hc_ hl_).mono ?_);rintro e_ w27 ⟨rfl,hb⟩;clear hc_ hl_;replace HR:=asd (HR.out.step hb);clear hb;clear c15gh0 c15gh1 c15gh2 c15gh3)
     | (go_at_call 80;(with_reducible refine (H7.out w27).mono ?_);rintro e_ w28 ⟨rfl,hb⟩;replace HR:=asd (HR.out.step hb);clear hb;obtain ⟨c17go0,c17go1,c17go2,c17go3⟩:=HR.out.c4 0 rfl)
     | (go_at_call 81;have hc_:=(HR.out.pool_lit 9 1 rfl rfl (by decide) [r1,r2] 2 rfl (by decide) (lit2_ok (va:=.slice A51 r1.f3.length c51) (vb:=.slice A52 r2.f3.length c52) (by simp) (by simp))).poolC HP.out 9 rfl (A:=some ⟨gq,0,none⟩) (n:=2) (c:=2) (xs:=[r1,r2]) (by simp);(with_reducible refine (H8.out w28 _ hc_).mono ?_);rintro e_ w29 ⟨A9,c9,rfl,ho,hb⟩;clear hc_;replace HR:=asd (HR.out.push (As.row kD29 29 (.slice A9 2 c9) [r1,r2]) hb ho);clear hb ho;clear c17go0 c17go1 c17go2 c17go3;obtain ⟨c18gr0,c18gr1,c18gr2,c18gr3⟩:=HR.out.c4 8 rfl;obtain ⟨f18gr0,f18gr1,f18gr2,f18gr3⟩:=HR.out.f4 8 rfl)
     | ((with_reducible refine gate_store (t:=29) (p:=2) rfl ?_);refine stA HR 8 rfl [.int .i64 4,.string (⟨#[58,45]⟩ : ByteArray),.int .i64 0,.slice A9 2 c9] rfl rfl rfl rfl (by first | (go_simp;done) | (go_simp;rfl)) ?_;clear HR;intro w30 HR;clear c18gr0 c18gr1 c18gr2 c18gr3 f18gr0 f18gr1 f18gr2 f18gr3))
    refine bodyPost_ret (results_ct rfl _ _ gr 29 #[.int .i64 4,.string (⟨#[58,45]⟩ : ByteArray),.int .i64 0,.slice A9 2 c9] (0,0) _ rfl (HR.out.has 8 rfl).2 Tryd.underlying29 rfl (by kernel_rfl)) rfl ?_
    exact (show GImp (twoT NECK r1 r2) true w _ _ from ⟨A9,c9,rfl,As.mono _ (fun k hk => hk.elim False.elim id) (HR.out.one 0 rfl),HR.out.bel⟩)
end
mutual
def upT : S29 → Int
 | ⟨a,_,b,ks⟩ => max (if a = 1 then b + 1 else 0) (upS ks)
def upS : List S29 → Int
 | [] => 0
 | t :: ts => max (upT t) (upS ts)
end
mutual
def vr29 : S29 → Prop
 | ⟨a,_,b,ks⟩ => (a = 1 → 0 ≤ b ∧ b ≤ 99999) ∧ vrs29 ks
def vrs29 : List S29 → Prop
 | [] => True
 | t :: ts => vr29 t ∧ vrs29 ts
end
theorem upT_eq (t : S29) : upT t = max (if t.f0 = 1 then t.f2 + 1 else 0) (upS t.f3):=by cases t;rw [upT]
theorem vr29_eq (t : S29) : vr29 t ↔ (t.f0 = 1 → 0 ≤ t.f2 ∧ t.f2 ≤ 99999) ∧ vrs29 t.f3:=by cases t;rw [vr29]
theorem vrs29_mem {ts : List S29} {t : S29} (h : t ∈ ts) (ho : vrs29 ts) : vr29 t:=by
 induction ts with
 | nil => cases h
 | cons x xs ih =>
  rw [vrs29] at ho
  rcases List.mem_cons.1 h with rfl|h
  ·exact ho.1
  ·exact ih h ho.2
theorem rt_vr (n : Nat) : (∀ t d,ht29 t ≤ n → rt29 t d = true → vr29 t) ∧ ∀ ts d,hts29 ts ≤ n → rts29 ts d = true → vrs29 ts:=by
 induction n with
 | zero =>
  refine ⟨fun t d h => by rw [ht29_eq] at h;omega,fun ts d h _ => ?_⟩
  cases ts with
  | nil => rw [vrs29];trivial
  | cons t ts => rw [hts29] at h;have:=ht29_eq t;omega
 | succ n ih =>
  have h1 : ∀ t d,ht29 t ≤ n + 1 → rt29 t d = true → vr29 t:=fun t d h hr => by
   rw [ht29_eq] at h
   rw [rt29_eq,Bool.and_eq_true,Bool.and_eq_true] at hr
   rw [vr29_eq]
   refine ⟨fun h1 => ?_,ih.2 t.f3 _ (by omega) hr.2.2⟩
   have h2:=hr.2.1
   unfold oneB at h2
   rw [if_pos h1,Bool.and_eq_true,Bool.and_eq_true] at h2
   simpa using h2.1.1
  refine ⟨h1,fun ts => ?_⟩
  induction ts with
  | nil => intro d _ _;rw [vrs29];trivial
  | cons t ts ih2 =>
   intro d h hr
   rw [hts29] at h
   rw [rts29,Bool.and_eq_true] at hr
   rw [vrs29]
   exact ⟨h1 t d (by omega) hr.1,ih2 d (by omega) hr.2⟩
theorem up_rng (n : Nat) : (∀ t,ht29 t ≤ n → vr29 t → 0 ≤ upT t ∧ upT t ≤ 100000) ∧ ∀ ts,hts29 ts ≤ n → vrs29 ts → 0 ≤ upS ts ∧ upS ts ≤ 100000:=by
 induction n with
 | zero =>
  refine ⟨fun t h => by rw [ht29_eq] at h;omega,fun ts h _ => ?_⟩
  cases ts with
  | nil => rw [upS];omega
  | cons t ts => rw [hts29] at h;have:=ht29_eq t;omega
 | succ n ih =>
  have h1 : ∀ t,ht29 t ≤ n + 1 → vr29 t → 0 ≤ upT t ∧ upT t ≤ 100000:=fun t h hr => by
   rw [ht29_eq] at h
   rw [vr29_eq] at hr
   have h2:=ih.2 t.f3 (by omega) hr.2
   rw [upT_eq]
   split
   ·have:=hr.1 (by assumption)
    omega
   ·omega
  refine ⟨h1,fun ts => ?_⟩
  induction ts with
  | nil => intro _ _;rw [upS];omega
  | cons t ts ih2 =>
   intro h hr
   rw [hts29] at h
   rw [vrs29] at hr
   rw [upS]
   have a1:=h1 t (by omega) hr.1
   have a2:=ih2 (by omega) hr.2
   omega
def rng (l : List Int) : Prop:=∀ v ∈ l,0 ≤ v ∧ v ≤ 99999
theorem fm_fold : ∀ (l : List Int) (m : Int),rng l → 0 ≤ m → m ≤ 100000 → m ≤ l.foldl (fun m v => if m ≤ v then wrap64 (v + 1) else m) m ∧ l.foldl (fun m v => if m ≤ v then wrap64 (v + 1) else m) m ≤ 100000 ∧ ∀ v ∈ l,v + 1 ≤ l.foldl (fun m v => if m ≤ v then wrap64 (v + 1) else m) m
 | [],m,_,h0,h1 => ⟨Int.le_refl _,h1,fun v h => by cases h⟩
 | a :: l,m,hr,h0,h1 => by
  have ha:=hr a (List.mem_cons_self)
  have e : wrap64 (a + 1) = a + 1:=t_wrap (by omega) (by omega)
  have hm : 0 ≤ (if m ≤ a then wrap64 (a + 1) else m) ∧ (if m ≤ a then wrap64 (a + 1) else m) ≤ 100000 ∧ m ≤ (if m ≤ a then wrap64 (a + 1) else m) ∧ a + 1 ≤ (if m ≤ a then wrap64 (a + 1) else m):=by
   rw [e]
   split <;> omega
  have ih:=fm_fold l (if m ≤ a then wrap64 (a + 1) else m) (fun v hv => hr v (List.mem_cons_of_mem _ hv)) hm.1 hm.2.1
  rw [List.foldl_cons]
  refine ⟨by omega,ih.2.1,fun v hv => ?_⟩
  rcases List.mem_cons.1 hv with rfl|hv
  ·omega
  ·exact ih.2.2 v hv
theorem fm_rng {l : List Int} (h : rng l) : 0 ≤ fmP l ∧ fmP l ≤ 100000 ∧ ∀ v ∈ l,v + 1 ≤ fmP l:=by
 have:=fm_fold l 0 h (by omega) (by omega)
 exact ⟨this.1,this.2.1,this.2.2⟩
theorem fm_hd (t : S29) (l : List Int) (hv : t.f0 = 1 → 0 ≤ t.f2 ∧ t.f2 ≤ 99999) (hl : rng l) : rng (hdV t l) ∧ fmP (hdV t l) = max (fmP l) (if t.f0 = 1 then t.f2 + 1 else 0):=by
 have h1:=fm_rng hl
 unfold hdV
 by_cases h : t.f0 = 1
 ·rw [if_pos h]
  have hb:=hv h
  by_cases hc : l.contains t.f2 = true
  ·rw [if_neg (by rw [hc];simp)]
   have:=h1.2.2 t.f2 (by simpa using hc)
   exact ⟨hl,by omega⟩
  ·rw [if_pos ⟨h,by simpa using hc⟩]
   refine ⟨fun v hv => ?_,?_⟩
   ·rcases List.mem_append.1 hv with hv|hv
    ·exact hl v hv
    ·rw [List.mem_singleton.1 hv]
     exact hb
   ·unfold fmP
    rw [List.foldl_append]
    show (if fmP l ≤ t.f2 then wrap64 (t.f2 + 1) else fmP l) = max (fmP l) (t.f2 + 1)
    rw [t_wrap (i:=t.f2 + 1) (by omega) (by omega)]
    split <;> omega
 ·rw [if_neg h,if_neg (fun hh => h hh.1)]
  exact ⟨hl,by omega⟩
theorem fm_vs (n : Nat) : (∀ t l,ht29 t ≤ n → vr29 t → rng l → rng (vsT t l) ∧ fmP (vsT t l) = max (fmP l) (upT t)) ∧ ∀ ts l,hts29 ts ≤ n → vrs29 ts → rng l → rng (vsS ts l) ∧ fmP (vsS ts l) = max (fmP l) (upS ts):=by
 induction n with
 | zero =>
  refine ⟨fun t l h => by rw [ht29_eq] at h;omega,fun ts l h _ hl => ?_⟩
  cases ts with
  | nil => rw [vsS,upS];exact ⟨hl,by have:=fm_rng hl;omega⟩
  | cons t ts => rw [hts29] at h;have:=ht29_eq t;omega
 | succ n ih =>
  have h1 : ∀ t l,ht29 t ≤ n + 1 → vr29 t → rng l → rng (vsT t l) ∧ fmP (vsT t l) = max (fmP l) (upT t):=fun t l h hr hl => by
   rw [ht29_eq] at h
   rw [vr29_eq] at hr
   have h2:=fm_hd t l hr.1 hl
   have h3:=ih.2 t.f3 (hdV t l) (by omega) hr.2 h2.1
   rw [vsT_eq,upT_eq]
   exact ⟨h3.1,by rw [h3.2,h2.2];omega⟩
  refine ⟨h1,fun ts => ?_⟩
  induction ts with
  | nil => intro l _ _ hl;rw [vsS,upS];exact ⟨hl,by have:=fm_rng hl;omega⟩
  | cons t ts ih2 =>
   intro l h hr hl
   rw [hts29] at h
   rw [vrs29] at hr
   have h2:=h1 t l (by omega) hr.1 hl
   have h3:=ih2 (vsT t l) (by omega) hr.2 h2.1
   rw [vsS,upS]
   exact ⟨h3.1,by rw [h3.2,h2.2];omega⟩
theorem mx_max (a b : Int) : mx a b = max a b:=by unfold mx;split <;> omega
theorem up_ev (n : Nat) : ∀ ts : List S29,hts29 ts ≤ n → cns29 ts ≤ 1048576 → vrs29 ts → Ev (fun k => impl_varsUpTo.f k ts) (upS ts):=by
 induction n with
 | zero =>
  intro ts h hc _
  cases ts with
  | nil =>
   refine Ev.step (f:=fun k => impl_varsUpTo.l0 k 0 [] 0 0) (fun k => by simp only [impl_varsUpTo.f];rfl) ?_
   refine Ev.step (f:=fun _ => some 0) (fun k => ?_) (by rw [upS];exact Ev.now _)
   simp only [impl_varsUpTo.l0]
   rw [if_neg (by omega)]
  | cons t ts => rw [hts29] at h;have:=ht29_eq t;omega
 | succ n ih =>
  intro ts h hc hr
  have hlen:=cns29_len ts
  have loop : ∀ (d i : Nat) (m : Int),i ≤ ts.length → ts.length - i = d → 0 ≤ m → m ≤ 100000 → Ev (fun k => impl_varsUpTo.l0 k m ts (ts.length : Int) (i : Int)) (max m (upS (ts.drop i))):=by
   intro d
   induction d with
   | zero =>
    intro i m hi hd h0 h1
    refine Ev.step (f:=fun _ => some m) (fun k => ?_) ?_
    ·simp only [impl_varsUpTo.l0];rw [if_neg (by omega)]
    ·rw [List.drop_eq_nil_of_le (by omega),upS,show max m 0 = m by omega];exact Ev.now _
   | succ d ih2 =>
    intro i m hi hd h0 h1
    have hlt : i < ts.length:=by omega
    have hm : ts[i] ∈ ts:=List.getElem_mem hlt
    have hv:=vrs29_mem hm hr
    rw [vr29_eq] at hv
    have hh:=hts29_mem hm
    have hh2:=ht29_eq ts[i]
    have hcc:=cns29_mem hm
    have hcc2:=cn29_eq ts[i]
    have hk:=ih ts[i].f3 (by omega) (by omega) hv.2
    have hu:=(up_rng n).2 ts[i].f3 (by omega) hv.2
    have nx:=asd (next_i i _ hlt (by omega))
    by_cases h2 : ts[i].f0 = 1
    ·have hb:=hv.1 h2
     refine Ev.step (f:=fun k => (impl_varsUpTo.f k ts[i].f3).bind fun t => impl_varsUpTo.l0 k (mx (mx m (wrap64 (ts[i].f2 + 1))) t) ts ts.length ((i + 1 : Nat) : Int)) (fun k => ?_) ?_
     ·simp only [impl_varsUpTo.l0]
      rw [if_pos (by omega),if_pos (by omega),if_pos (by omega),rd29_at ts i hlt,if_pos h2,nx.out]
     ·refine Ev.bind hk ?_
      have e:=asd (show wrap64 (ts[i].f2 + 1) = ts[i].f2 + 1 from t_wrap (by omega) (by omega))
      have:=ih2 (i + 1) (mx (mx m (wrap64 (ts[i].f2 + 1))) (upS ts[i].f3)) (by omega) (by omega) (by rw [mx_max,mx_max,e.out];omega) (by rw [mx_max,mx_max,e.out];omega)
      rw [List.drop_eq_getElem_cons hlt,upS,upT_eq,if_pos h2]
      rw [show max m (max (max (ts[i].f2 + 1) (upS ts[i].f3)) (upS (ts.drop (i + 1)))) = max (mx (mx m (wrap64 (ts[i].f2 + 1))) (upS ts[i].f3)) (upS (ts.drop (i + 1))) by rw [mx_max,mx_max,e.out];omega]
      exact this
    ·refine Ev.step (f:=fun k => (impl_varsUpTo.f k ts[i].f3).bind fun t => impl_varsUpTo.l0 k (mx m t) ts ts.length ((i + 1 : Nat) : Int)) (fun k => ?_) ?_
     ·simp only [impl_varsUpTo.l0]
      rw [if_pos (by omega),if_pos (by omega),if_pos (by omega),rd29_at ts i hlt,if_neg h2,nx.out]
     ·refine Ev.bind hk ?_
      have:=ih2 (i + 1) (mx m (upS ts[i].f3)) (by omega) (by omega) (by rw [mx_max];omega) (by rw [mx_max];omega)
      rw [List.drop_eq_getElem_cons hlt,upS,upT_eq,if_neg h2]
      rw [show max m (max (max 0 (upS ts[i].f3)) (upS (ts.drop (i + 1)))) = max (mx m (upS ts[i].f3)) (upS (ts.drop (i + 1))) by rw [mx_max];omega]
      exact this
  refine Ev.step (f:=fun k => impl_varsUpTo.l0 k 0 ts ts.length 0) (fun k => by simp only [impl_varsUpTo.f]) ?_
  have:=loop ts.length 0 0 (by omega) (by omega) (by omega) (by omega)
  have hu:=(up_rng (n + 1)).2 ts h hr
  rw [List.drop_zero,show max 0 (upS ts) = upS ts by omega] at this
  exact this
def okB (t : S29) : Bool:=decide (cn29 t ≤ 400) && rt29 t 1
def numP (t : S29) : Int:=fmP (vsT t [])
def headP (t : S29) (n : Int) : S29 × Int × Bool:=ntP t (newV n) (newV (nxt n)) (nxt (nxt n)) false
def tailP (t : S29) (n : Int) (h : S29 × Int × Bool) : S29 × Int × Bool:=gbody (ht29 t) t (newV n) (newV (nxt n)) h.2.1 h.2.2
def outP (h b : S29 × Int × Bool) : S29 × Bool:=(if (!b.2.2 && (okB (twoT NECK h.1 b.1) && hdB h.1)) = true then twoT NECK h.1 b.1 else z29,!b.2.2 && (okB (twoT NECK h.1 b.1) && hdB h.1))
def gramP (t : S29) : S29 × Bool:=if (okB t && (isB ARROW 2 t && simB (kid t 0))) = true then outP (headP (kid t 0) (numP t)) (tailP (kid t 1) (numP t) (headP (kid t 0) (numP t))) else (z29,false)
theorem ok_vr {t : S29} (h : okB t = true) : vr29 t:=by
 unfold okB at h
 rw [Bool.and_eq_true] at h
 exact (rt_vr (ht29 t)).1 t 1 (Nat.le_refl _) h.2
theorem ok_cn {t : S29} (h : okB t = true) : cn29 t ≤ 400:=by
 unfold okB at h
 rw [Bool.and_eq_true] at h
 simpa using h.1
theorem num_up {t : S29} (h : okB t = true) : upS [t] = numP t:=by
 have:=((fm_vs (ht29 t)).1 t [] (Nat.le_refl _) (ok_vr h) (fun v hv => by cases hv)).2
 have h2:=(up_rng (ht29 t)).1 t (Nat.le_refl _) (ok_vr h)
 unfold numP
 rw [this,upS,upS,show fmP [] = 0 from rfl]
 omega
theorem gbody_bad : ∀ (k : Nat) (t : S29) (x y n : Int),(gbody k t x y n true).2.2 = true:=by
 intro k
 induction k with
 | zero => intro t x y n;rfl
 | succ k ih =>
  intro t x y n
  have h1 : ∀ (t u : S29) (a b c d e : Int),(gbody k u c d (gbody k t a b e true).2.1 (gbody k t a b e true).2.2).2.2 = true:=fun t u a b c d e => by rw [ih t a b e];exact ih _ _ _ _
  rw [gbody]
  split
  ·exact h1 _ _ _ _ _ _ _
  ·split
   ·exact h1 _ _ _ _ _ _ _
   ·split
    ·exact ih _ _ _ _
    ·split
     ·rfl
     ·split
      ·rfl
      ·split
       ·rfl
       ·rfl
theorem gram_not {t : S29} (h1 : okB t = true) (h2 : isB ARROW 2 t = true) (h3 : simB (kid t 0) = false) : outP (headP (kid t 0) (numP t)) (tailP (kid t 1) (numP t) (headP (kid t 0) (numP t))) = (z29,false):=by
 have e : headP (kid t 0) (numP t) = (z29,nxt (nxt (numP t)),true):=by
  unfold headP ntP
  rw [if_neg (by rw [h3];decide)]
 have e2 : (tailP (kid t 1) (numP t) (headP (kid t 0) (numP t))).2.2 = true:=by
  rw [e]
  exact gbody_bad _ _ _ _ _
 unfold outP
 rw [e2]
 rfl
theorem fit_nt {t : S29} (h : nm29 t) (x y n : Int) (b : Bool) : Fit (cn29 t + 2) (ht29 t + 1) (ntP t x y n b).1:=by
 unfold ntP
 split
 ·refine ⟨?_,?_,?_⟩
  ·rw [cn29_eq]
   show cns29 (t.f3 ++ [varT x,varT y]) + 1 ≤ _
   rw [cns29_append,cns29,cns29,cns29]
   have a1:=(fit_var y).cn
   have a2:=(fit_var x).cn
   have a3:=cn29_eq t
   omega
  ·rw [ht29_eq]
   show hts29 (t.f3 ++ [varT x,varT y]) + 1 ≤ _
   rw [hts29_append,hts29,hts29,hts29]
   have a1:=(fit_var y).ht
   have a2:=(fit_var x).ht
   have a3:=ht29_eq t
   omega
  ·have h5:=(nm29_eq t).1 h
   rw [nm29_eq]
   refine ⟨h5.1,nms29_append h5.2 ?_⟩
   rw [nms29,nms29,nms29]
   exact ⟨(fit_var x).nm,(fit_var y).nm,trivial⟩
 ·exact fit_z.le (by omega) (by omega)
theorem fit_out {t : S29} (h1 : okB t = true) (h2 : isB ARROW 2 t = true) (hn : nm29 t) (n : Int) : Fit 402 (ht29 t + 1) (headP (kid t 0) n).1 ∧ Fit 3200 (2 * ht29 t + 2) (tailP (kid t 1) n (headP (kid t 0) n)).1:=by
 obtain ⟨p,q,e1,k0,k1,cn,ht,na,nb⟩:=kids2 h2 hn
 have h3:=ok_cn h1
 rw [k0,k1]
 exact ⟨(fit_nt na _ _ _ _).le (by omega) (by omega),(fit_body _ q _ _ _ _ nb).le (by omega) (by omega)⟩
theorem fit_gram {t : S29} (hn : nm29 t) : Fit 4000 (2 * ht29 t + 5) (gramP t).1:=by
 unfold gramP
 split
 ·rename_i h
  rw [Bool.and_eq_true,Bool.and_eq_true] at h
  have f:=fit_out h.1 h.2.1 hn (numP t)
  unfold outP
  split
  ·exact (fit_two (by decide) f.1 f.2).le (by omega) (by omega)
  ·exact fit_z.le (by omega) (by omega)
 ·exact fit_z.le (by omega) (by omega)
end Go.Proofs.YtojedbogbodkiaaDoor.KGr
