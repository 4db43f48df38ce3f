/- Of this claim's own making;what nothing names is struck (fewall.py). -/
import Derived.Test.YtojedbogbodkiaaDoorKGrx8
import Derived.Test.YtojedbogbodkiaaDoorGrG
import Derived.Test.YtojedbogbodkiaaDoorKS
set_option linter.unusedVariables false
set_option linter.unusedSimpArgs false
namespace Go.Proofs.YtojedbogbodkiaaDoor.KGr
open Go.RowKit Go.Proofs.YtojedbogbodkiaaDoorW.PrintWords Go.Proofs.YtojedbogbodkiaaDoorW.PrintLast Go.Proofs.YtojedbogbodkiaaDoorW.PrintMore
section
set_option linter.unusedSectionVars false
variable [fk_laws_szTerm] [fk_laws_eqTerm] [fk_spec_l34Term] [fk_strconv_Itoa]
def GRaw (x : S29) (bo : Bool) (Q : Nat → Prop) (W : World) (e : Ending) (W' : World) : Prop:=∃ A c,e = .returned (.tuple #[.agg #[.int .i64 x.f0,.string x.f1,.int .i64 x.f2,.slice A x.f3.length c],.bool bo]) ∧ FootRow W' (fun k => Q k ∨ W.heap.size ≤ k) (.slice A x.f3.length c,x.f3) ∧ Below W.heap.size W W'
set_option maxHeartbeats 16000000 in
set_option maxRecDepth 100000 in
theorem spec_g_no1 (t : S29) (A : Option Addr) (c : Nat) (Q : Nat → Prop) (w : World) (hC : Kd.C k29 w A t.f3.length t.f3)
  (h1 : ∀ W,Kd.C k29 W A t.f3.length t.f3 → Calls Tryd.prog 90 #[.agg #[.int .i64 t.f0,.string t.f1,.int .i64 t.f2,.slice A t.f3.length c],.string (⟨#[45,45,62]⟩ : ByteArray),.int .i64 2] W fun e W' => e = .returned (.bool false) ∧ Below W.heap.size W W') : Calls Tryd.prog 74 #[.agg #[.int .i64 t.f0,.string t.f1,.int .i64 t.f2,.slice A t.f3.length c]] w fun e w' => GRaw z29 false Q w e w':=by
 have HC:=asd hC
 have H1:=asd h1
 have HR:=asd (run_law w)
 clear hC h1
 go_enter Tryd.func74,Tryd.ntmps74
 go_wp2_with (first
  | ((with_reducible refine gate_dst (N:=1) rfl ?_);refine nb HR 1 (cs:=#[.int .i64 t.f0,.string t.f1,.int .i64 t.f2,.slice A t.f3.length c]) (t:=29) rfl rfl (by first | (go_simp;done) | (go_simp;rfl)) ?_;clear HR;intro ga w1 HR)
  | ((with_reducible refine gate_dst (N:=2) rfl ?_);refine nb HR 2 (cs:=#[.int .i64 0,.string (⟨#[]⟩ : ByteArray),.int .i64 0,.slice none 0 0]) (t:=29) rfl rfl (by first | (go_simp;done) | (go_simp;rfl)) ?_;clear HR;intro gr w2 HR;obtain ⟨c2ga0,c2ga1,c2ga2,c2ga3⟩:=HR.out.c4 1 rfl)
  | (go_at_call 90;have hc_:=Kd.C_below HC.out HR.out.bel;(with_reducible refine (H1.out w2 hc_).mono ?_);rintro e_ w3 ⟨rfl,hb⟩;clear hc_;replace HR:=asd (HR.out.step hb);clear hb;clear c2ga0 c2ga1 c2ga2 c2ga3;obtain ⟨c3gr0,c3gr1,c3gr2,c3gr3⟩:=HR.out.c4 0 rfl;obtain ⟨f3gr0,f3gr1,f3gr2,f3gr3⟩:=HR.out.f4 0 rfl)
  | ((with_reducible refine gate_store (t:=29) (p:=2) rfl ?_);refine stA HR 0 rfl [.int .i64 0,.string (⟨#[]⟩ : ByteArray),.int .i64 0,.slice none 0 0] rfl rfl rfl rfl (by first | (go_simp;done) | (go_simp;rfl)) ?_;clear HR;intro w4 HR;clear c3gr0 c3gr1 c3gr2 c3gr3 f3gr0 f3gr1 f3gr2 f3gr3))
 refine bodyPost_ret (results_ct rfl _ _ gr 29 #[.int .i64 0,.string (⟨#[]⟩ : ByteArray),.int .i64 0,.slice none 0 0] (0,0) _ rfl (HR.out.has 0 rfl).2 Tryd.underlying29 rfl (by kernel_rfl)) rfl ?_
 exact (show GRaw z29 false Q w _ _ from ⟨none,0,rfl,foot_nil _ _,HR.out.bel⟩)
set_option maxHeartbeats 16000000 in
set_option maxRecDepth 100000 in
theorem spec_g_no2 (a0 : Int) (a1 : ByteArray) (a2 : Int) (p q : S29) (ad : Addr) (c : Nat) (Q : Nat → Prop) (w : World) (hC : Kd.C k29 w (some ad) 2 [p,q]) (hf : FootRow w Q (.slice (some ad) 2 c,[p,q]))
  (h1 : ∀ W,Kd.C k29 W (some ad) 2 [p,q] → Calls Tryd.prog 90 #[.agg #[.int .i64 a0,.string a1,.int .i64 a2,.slice (some ad) 2 c],.string (⟨#[45,45,62]⟩ : ByteArray),.int .i64 2] W fun e W' => e = .returned (.bool true) ∧ Below W.heap.size W W') (h2 : ∀ W,Kd.C k29 W (some ad) 2 [p,q] → Calls Tryd.prog 86 #[.agg #[.int .i64 a0,.string a1,.int .i64 a2,.slice (some ad) 2 c]] W fun e W' => e = .returned (.bool false) ∧ Below W.heap.size W W') : Calls Tryd.prog 74 #[.agg #[.int .i64 a0,.string a1,.int .i64 a2,.slice (some ad) 2 c]] w fun e w' => GRaw z29 false Q w e w':=by
 obtain ⟨A3,c3,A7,c7,hn,hx,hy,hfx,hfy⟩:=kid2 hf
 have HX:=asd hx
 have HFX:=asd hfx
 clear hn hx hy hfx hfy hf
 have HC:=asd hC
 have H1:=asd h1
 have H2:=asd h2
 have HR:=asd (run_law w)
 clear hC h1 h2
 go_enter Tryd.func74,Tryd.ntmps74
 go_wp2_with (first
  | ((with_reducible refine gate_dst (N:=1) rfl ?_);refine nb HR 1 (cs:=#[.int .i64 a0,.string a1,.int .i64 a2,.slice (some ad) 2 c]) (t:=29) rfl rfl (by first | (go_simp;done) | (go_simp;rfl)) ?_;clear HR;intro ga w1 HR)
  | ((with_reducible refine gate_dst (N:=2) rfl ?_);refine nb HR 2 (cs:=#[.int .i64 0,.string (⟨#[]⟩ : ByteArray),.int .i64 0,.slice none 0 0]) (t:=29) rfl rfl (by first | (go_simp;done) | (go_simp;rfl)) ?_;clear HR;intro gr w2 HR;obtain ⟨c2ga0,c2ga1,c2ga2,c2ga3⟩:=HR.out.c4 1 rfl)
  | (go_at_call 90;have hc_:=Kd.C_below HC.out HR.out.bel;(with_reducible refine (H1.out w2 hc_).mono ?_);rintro e_ w3 ⟨rfl,hb⟩;clear hc_;replace HR:=asd (HR.out.step hb);clear hb;clear c2ga0 c2ga1 c2ga2 c2ga3;obtain ⟨c3ga0,c3ga1,c3ga2,c3ga3⟩:=HR.out.c4 1 rfl)
  | (go_at_call 86;have hc_:=Kd.C_below HC.out HR.out.bel;(with_reducible refine (H2.out w3 hc_).mono ?_);rintro e_ w4 ⟨rfl,hb⟩;clear hc_;replace HR:=asd (HR.out.step hb);clear hb;clear c3ga0 c3ga1 c3ga2 c3ga3;obtain ⟨c4gr0,c4gr1,c4gr2,c4gr3⟩:=HR.out.c4 0 rfl;obtain ⟨f4gr0,f4gr1,f4gr2,f4gr3⟩:=HR.out.f4 0 rfl)
  | ((with_reducible refine gate_store (t:=29) (p:=2) rfl ?_);refine stA HR 0 rfl [.int .i64 0,.string (⟨#[]⟩ : ByteArray),.int .i64 0,.slice none 0 0] rfl rfl rfl rfl (by first | (go_simp;done) | (go_simp;rfl)) ?_;clear HR;intro w5 HR;clear c4gr0 c4gr1 c4gr2 c4gr3 f4gr0 f4gr1 f4gr2 f4gr3))
 refine bodyPost_ret (results_ct rfl _ _ gr 29 #[.int .i64 0,.string (⟨#[]⟩ : ByteArray),.int .i64 0,.slice none 0 0] (0,0) _ rfl (HR.out.has 0 rfl).2 Tryd.underlying29 rfl (by kernel_rfl)) rfl ?_
 exact (show GRaw z29 false Q w _ _ from ⟨none,0,rfl,foot_nil _ _,HR.out.bel⟩)
set_option maxHeartbeats 16000000 in
set_option maxRecDepth 100000 in
theorem spec_g_no3 (a0 : Int) (a1 : ByteArray) (a2 : Int) (p q : S29) (ad : Addr) (c : Nat) (Q : Nat → Prop) (w : World) (hC : Kd.C k29 w (some ad) 2 [p,q]) (hf : FootRow w Q (.slice (some ad) 2 c,[p,q]))
  (h1 : ∀ W,Kd.C k29 W (some ad) 2 [p,q] → Calls Tryd.prog 90 #[.agg #[.int .i64 a0,.string a1,.int .i64 a2,.slice (some ad) 2 c],.string (⟨#[45,45,62]⟩ : ByteArray),.int .i64 2] W fun e W' => e = .returned (.bool true) ∧ Below W.heap.size W W') (h2 : ∀ W,Kd.C k29 W (some ad) 2 [p,q] → Calls Tryd.prog 86 #[.agg #[.int .i64 a0,.string a1,.int .i64 a2,.slice (some ad) 2 c]] W fun e W' => e = .returned (.bool true) ∧ Below W.heap.size W W') (h3 : ∀ (W : World) (A : Option Addr) (c : Nat),Kd.C k29 W A p.f3.length p.f3 → p.f3.length ≤ c → Calls Tryd.prog 94 #[.agg #[.int .i64 p.f0,.string p.f1,.int .i64 p.f2,.slice A p.f3.length c]] W fun e W' => e = .returned (.bool false) ∧ Below W.heap.size W W') : Calls Tryd.prog 74 #[.agg #[.int .i64 a0,.string a1,.int .i64 a2,.slice (some ad) 2 c]] w fun e w' => GRaw z29 false Q w e w':=by
 obtain ⟨A3,c3,A7,c7,hn,hx,hy,hfx,hfy⟩:=kid2 hf
 have HX:=asd hx
 have HFX:=asd hfx
 clear hn hx hy hfx hfy hf
 have HC:=asd hC
 have H1:=asd h1
 have H2:=asd h2
 have H3:=asd h3
 have HR:=asd (run_law w)
 clear hC h1 h2 h3
 go_enter Tryd.func74,Tryd.ntmps74
 go_wp2_with (first
  | ((with_reducible refine gate_dst (N:=1) rfl ?_);refine nb HR 1 (cs:=#[.int .i64 a0,.string a1,.int .i64 a2,.slice (some ad) 2 c]) (t:=29) rfl rfl (by first | (go_simp;done) | (go_simp;rfl)) ?_;clear HR;intro ga w1 HR)
  | ((with_reducible refine gate_dst (N:=2) rfl ?_);refine nb HR 2 (cs:=#[.int .i64 0,.string (⟨#[]⟩ : ByteArray),.int .i64 0,.slice none 0 0]) (t:=29) rfl rfl (by first | (go_simp;done) | (go_simp;rfl)) ?_;clear HR;intro gr w2 HR;obtain ⟨c2ga0,c2ga1,c2ga2,c2ga3⟩:=HR.out.c4 1 rfl)
  | (go_at_call 90;have hc_:=Kd.C_below HC.out HR.out.bel;(with_reducible refine (H1.out w2 hc_).mono ?_);rintro e_ w3 ⟨rfl,hb⟩;clear hc_;replace HR:=asd (HR.out.step hb);clear hb;clear c2ga0 c2ga1 c2ga2 c2ga3;obtain ⟨c3ga0,c3ga1,c3ga2,c3ga3⟩:=HR.out.c4 1 rfl)
  | (go_at_call 86;have hc_:=Kd.C_below HC.out HR.out.bel;(with_reducible refine (H2.out w3 hc_).mono ?_);rintro e_ w4 ⟨rfl,hb⟩;clear hc_;replace HR:=asd (HR.out.step hb);clear hb;clear c3ga0 c3ga1 c3ga2 c3ga3;obtain ⟨c4ga0,c4ga1,c4ga2,c4ga3⟩:=HR.out.c4 1 rfl;obtain ⟨hx0,hx1,hx2,hx3⟩:=HR.out.d4 HX.out (fun h => h))
  | (go_at_call 94;have hl_:=(foot_F HFX.out).1;have hc_ : Kd.C k29 w4 A3 p.f3.length p.f3:=Kd.C_below (Kd.F_now (foot_F HFX.out).2) HR.out.bel;(with_reducible refine (H3.out w4 A3 c3 hc_ hl_).mono ?_);rintro e_ w5 ⟨rfl,hb⟩;clear hc_ hl_ hx0 hx1 hx2 hx3;replace HR:=asd (HR.out.step hb);clear hb;clear c4ga0 c4ga1 c4ga2 c4ga3;obtain ⟨c5gr0,c5gr1,c5gr2,c5gr3⟩:=HR.out.c4 0 rfl;obtain ⟨f5gr0,f5gr1,f5gr2,f5gr3⟩:=HR.out.f4 0 rfl)
  | ((with_reducible refine gate_store (t:=29) (p:=2) rfl ?_);refine stA HR 0 rfl [.int .i64 0,.string (⟨#[]⟩ : ByteArray),.int .i64 0,.slice none 0 0] rfl rfl rfl rfl (by first | (go_simp;done) | (go_simp;rfl)) ?_;clear HR;intro w6 HR;clear c5gr0 c5gr1 c5gr2 c5gr3 f5gr0 f5gr1 f5gr2 f5gr3))
 refine bodyPost_ret (results_ct rfl _ _ gr 29 #[.int .i64 0,.string (⟨#[]⟩ : ByteArray),.int .i64 0,.slice none 0 0] (0,0) _ rfl (HR.out.has 0 rfl).2 Tryd.underlying29 rfl (by kernel_rfl)) rfl ?_
 exact (show GRaw z29 false Q w _ _ from ⟨none,0,rfl,foot_nil _ _,HR.out.bel⟩)
def sgg8_T : Bool × List (List Nat × List Nat):=(true,[([],[]),([],[]),([0,1],[0,1]),([2],[2]),([],[]),([4],[4]),([5],[5]),([6],[6]),([3,7],[3,7])])
def sgg8_B : List Nat:=[0,0,3,7,0,16,48,112,255]
theorem sgg8_tab : rtab .any (opsOf Tryd.f74 8) = sgg8_T:=by kernel_rfl
theorem sgg8_bits : waitsOk sgg8_T.2 sgg8_B = true:=by kernel_rfl
def sgg12_T : Bool × List (List Nat × List Nat):=(true,[([],[]),([0],[0]),([1],[1]),([2],[2]),([],[]),([],[]),([3,4,5],[3,4,5]),([],[]),([],[]),([8],[8]),([9],[9]),([10],[10]),([],[]),([],[]),([7,11,12,13,6],[7,11,12,13]),([6,14,14],[6,14]),([],[]),([16,15,15,0,1,2,3,4,5,6,7,8,9,10,11,12,13,14,15,16],[15,16])])
def sgg12_B : List Nat:=[0,1,3,7,0,0,63,0,0,256,768,1792,0,0,16383,32767,0,131071]
theorem sgg12_tab : rtab .any (opsOf Tryd.f74 12) = sgg12_T:=by kernel_rfl
theorem sgg12_bits : waitsOk sgg12_T.2 sgg12_B = true:=by kernel_rfl
set_option maxHeartbeats 16000000 in
set_option maxRecDepth 100000 in
theorem spec_g_long (a0 : Int) (a1 : ByteArray) (a2 : Int) (p q : S29) (ad : Addr) (c : Nat) (l : List Int) (N : Int) (hN : N = fmP l) (r1 r2 : S29) (n2 : Int) (b2 bo bc : Bool) (Q : Nat → Prop) (w : World) (hf : FootRow w Q (.slice (some ad) 2 c,[p,q]))
  (hC : Kd.C k29 w (some ad) 2 [p,q]) (tb : Tb w) (h1 : ∀ W,Kd.C k29 W (some ad) 2 [p,q] → Calls Tryd.prog 86 #[.agg #[.int .i64 a0,.string a1,.int .i64 a2,.slice (some ad) 2 c]] W fun e W' => e = .returned (.bool true) ∧ Below W.heap.size W W') (h2 : ∀ W,Kd.C k29 W (some ad) 2 [p,q] → Calls Tryd.prog 90 #[.agg #[.int .i64 a0,.string a1,.int .i64 a2,.slice (some ad) 2 c],.string (⟨#[45,45,62]⟩ : ByteArray),.int .i64 2] W fun e W' => e = .returned (.bool true) ∧ Below W.heap.size W W') (h3 : ∀ (W : World) (A : Option Addr) (c : Nat),Kd.C k29 W A p.f3.length p.f3 → p.f3.length ≤ c → Calls Tryd.prog 94 #[.agg #[.int .i64 p.f0,.string p.f1,.int .i64 p.f2,.slice A p.f3.length c]] W fun e W' => e = .returned (.bool true) ∧ Below W.heap.size W W') (h4 : ∀ W,Kd.C k29 W (some ad) 2 [p,q] → Calls Tryd.prog 95 #[.agg #[.int .i64 a0,.string a1,.int .i64 a2,.slice (some ad) 2 c]] W fun e W' => ∃ A c,e = .returned (.slice A l.length c) ∧ Kd.R (Kd.int .i64) 3 W' W.heap.size (fun k => W.heap.size ≤ k) (.slice A l.length c) l ∧ Below W.heap.size W W') (hl : l.length ≤ 1048576) (h5 : ∀ (W : World) (Q : Nat → Prop) (A : Option Addr) (c : Nat),FootRow W Q (.slice A p.f3.length c,p.f3) → Calls Tryd.prog 98 #[.agg #[.int .i64 p.f0,.string p.f1,.int .i64 p.f2,.slice A p.f3.length c],.agg #[.int .i64 1,.string (⟨#[]⟩ : ByteArray),.int .i64 (newV N),.slice none 0 0],.agg #[.int .i64 1,.string (⟨#[]⟩ : ByteArray),.int .i64 (newV (nxt N)),.slice none 0 0]] W fun en W' => ∃ A c,en = .returned (.agg #[.int .i64 r1.f0,.string r1.f1,.int .i64 r1.f2,.slice A r1.f3.length c]) ∧ FootRow W' (fun k => Q k ∨ W.heap.size ≤ k) (.slice A r1.f3.length c,r1.f3) ∧ Below W.heap.size W W') (ih2 : BodyOk 99 102 q (newV N) (newV (nxt N)) (nxt (nxt N)) false r2 n2 b2) (h7 : ∀ (W : World) (A : Option Addr) (c : Nat),Kd.C k29 W A r1.f3.length r1.f3 → r1.f3.length ≤ c → Calls Tryd.prog 87 #[.agg #[.int .i64 r1.f0,.string r1.f1,.int .i64 r1.f2,.slice A r1.f3.length c]] W fun e W' => e = .returned (.bool (!bc)) ∧ Below W.heap.size W W') (ho : ∀ (W : World) (A : Option Addr),Kd.C k29 W A 2 [r1,r2] → Calls Tryd.prog 86 #[.agg #[.int .i64 4,.string (⟨#[58,45]⟩ : ByteArray),.int .i64 0,.slice A 2 2]] W fun e W' => e = .returned (.bool bo) ∧ Below W.heap.size W W') :
  Calls Tryd.prog 74 #[.agg #[.int .i64 a0,.string a1,.int .i64 a2,.slice (some ad) 2 c]] w fun e w' => GRaw (if (!b2 && (bo && !bc)) = true then (twoT NECK r1 r2) else z29) (!b2 && (bo && !bc)) Q w e w':=by
 obtain ⟨A3,c3,A7,c7,hn,hx,hy,hfx,hfy⟩:=kid2 hf
 have HR:=asd ((run_law w).push (As.pool w Q [(.slice none 0 0,[]),(.slice (some ad) 2 c,[p,q]),(.slice A3 p.f3.length c3,p.f3),(.slice A7 q.f3.length c7,q.f3)]) (Below.refl _ _) (pool_in (by intro z hz;simp only [List.mem_cons,List.not_mem_nil,or_false] at hz;rcases hz with rfl|rfl|rfl|rfl <;> first|exact foot_nil _ _|exact hf|exact hfx|exact hfy)))
 have HCAP:=asd (foot_F (ts:=[p,q]) hf).1
 have HP:=asd (show ∀ k : Nat,Q k → ¬ False from fun _ _ h => h)
 have HNP:=asd (show ¬ False from id)
 have HX:=asd hx
 have HY:=asd hy
 have HFX:=asd hfx
 have HNN:=asd hN
 clear hN
 have HC:=asd hC
 have HTB:=asd tb
 have H1:=asd h1
 have H2:=asd h2
 have H3:=asd h3
 have H4:=asd h4
 have HLL:=asd hl
 have H5:=asd h5
 have IH2:=asd ih2
 have H7:=asd h7
 have HO:=asd ho
 clear hf hn hfx hfy hx hy hC tb h1 h2 h3 h4 hl h5 ih2 h7 ho
 go_enter Tryd.func74,Tryd.ntmps74
 go_wp2_with (first
  | ((with_reducible refine gate_dst (N:=1) rfl ?_);refine nb HR 1 (cs:=#[.int .i64 a0,.string a1,.int .i64 a2,.slice (some ad) 2 c]) (t:=29) rfl rfl (by first | (go_simp;done) | (go_simp;rfl)) ?_;clear HR;intro ga w1 HR)
  | ((with_reducible refine gate_dst (N:=2) rfl ?_);refine nb HR 2 (cs:=#[.int .i64 0,.string (⟨#[]⟩ : ByteArray),.int .i64 0,.slice none 0 0]) (t:=29) rfl rfl (by first | (go_simp;done) | (go_simp;rfl)) ?_;clear HR;intro gr w2 HR;obtain ⟨c2ga0,c2ga1,c2ga2,c2ga3⟩:=HR.out.c4 1 rfl)
  | (go_at_call 90;have hc_:=Kd.C_below HC.out HR.out.bel;(with_reducible refine (H2.out w2 hc_).mono ?_);rintro e_ w3 ⟨rfl,hb⟩;clear hc_;replace HR:=asd (HR.out.step hb);clear hb;clear c2ga0 c2ga1 c2ga2 c2ga3;obtain ⟨c3ga0,c3ga1,c3ga2,c3ga3⟩:=HR.out.c4 1 rfl)
  | (go_at_call 86;have hc_:=Kd.C_below HC.out HR.out.bel;(with_reducible refine (H1.out w3 hc_).mono ?_);rintro e_ w4 ⟨rfl,hb⟩;clear hc_;replace HR:=asd (HR.out.step hb);clear hb;clear c3ga0 c3ga1 c3ga2 c3ga3;obtain ⟨c4ga0,c4ga1,c4ga2,c4ga3⟩:=HR.out.c4 1 rfl;obtain ⟨hx0,hx1,hx2,hx3⟩:=HR.out.d4 HX.out HNP.out)
  | (go_at_call 94;have hl_:=(foot_F HFX.out).1;have hc_ : Kd.C k29 w4 A3 p.f3.length p.f3:=Kd.C_below (Kd.F_now (foot_F HFX.out).2) HR.out.bel;(with_reducible refine (H3.out w4 A3 c3 hc_ hl_).mono ?_);rintro e_ w5 ⟨rfl,hb⟩;clear hc_ hl_ hx0 hx1 hx2 hx3;replace HR:=asd (HR.out.step hb);clear hb;clear c4ga0 c4ga1 c4ga2 c4ga3)
  | ((with_reducible refine gate_dst (N:=28) rfl ?_);refine nb HR 28 (cs:=#[.int .i64 0,.bool false]) (t:=102) rfl rfl (by first | (go_simp;done) | (go_simp;rfl)) ?_;clear HR;intro g w6 HR;obtain ⟨c6ga0,c6ga1,c6ga2,c6ga3⟩:=HR.out.c4 2 rfl;have HG:=asd (show w.heap.size ≤ g from (HR.out.has 0 rfl).1))
  | (go_at_call 95;have hc_:=Kd.C_below HC.out HR.out.bel;(with_reducible refine (H4.out w6 hc_).mono ?_);rintro e_ w7 ⟨A8,c8,rfl,ho,hb⟩;clear hc_;replace HR:=asd (HR.out.push (As.rrow (Kd.int .i64) 3 (.slice A8 l.length c8) l) hb ho);clear hb ho;clear c6ga0 c6ga1 c6ga2 c6ga3))
 go_loopg [6] l.length (fun m v6 w' => ∃ (i : Nat),v6 = .int .i64 i ∧ Aside0 (m + i = l.length) ∧ Aside0 (Run w w (fun _ => False) [As.rrow (Kd.int .i64) 3 (.slice A8 l.length c8) l,As.box g 102 #[.int .i64 (fmP (l.take i)),.bool false],As.box gr 29 #[.int .i64 0,.string (⟨#[]⟩ : ByteArray),.int .i64 0,.slice none 0 0],As.box ga 29 #[.int .i64 a0,.string a1,.int .i64 a2,.slice (some ad) 2 c],As.pool w Q [(.slice none 0 0,[]),(.slice (some ad) 2 c,[p,q]),(.slice A3 p.f3.length c3,p.f3),(.slice A7 q.f3.length c7,q.f3)]] w'))
 case atStart => exact ⟨0,rfl,⟨by omega⟩,⟨HR.out.pick [0,1,2,3,4] (by decide)⟩⟩
 case round =>
  clear HR
  obtain ⟨i,rfl,hi,HR⟩:=hrel
  by_cases hlt : (i : Int) < (l.length : Int)
  ·have c3b0 : decide ((i : Int) < (l.length : Int)) = true:=decide_eq_true hlt
   have hlt' : i < l.length:=by omega
   have c3b1 : decide (i < l.length) = true:=decide_eq_true hlt'
   obtain ⟨ad8,rfl,hv_⟩:=int_at (HR.out.has 0 rfl) i hlt'
   have HV:=asd hv_
   clear hv_
   obtain ⟨v,hv⟩ : ∃ v,v = l[i]:=⟨_,rfl⟩
   have HVV:=asd hv
   rw [← hv] at HV
   obtain ⟨m,hm⟩ : ∃ m,m = fmP (l.take i):=⟨_,rfl⟩
   rw [← hm] at HR
   have HM:=asd hm
   clear hv hm
   go_wp2_with fail
   replace HR:=asd (HR.out.drew)
   refine start_ (n:=9) (S:=fun w' => C2 w' g (.int .i64 m) (.bool false) ∧ w'.cell? (ad8.add i) = some (.int .i64 v)) (ds:=[]) (bl 9 0) (by kernel_rfl) rfl rfl ⟨HR.out.c2 1 rfl,(int_at' (HR.out.has 0 rfl) i hlt' HVV.out)⟩ (fun hHeld => ?_);refine with_tabW sgg8_tab sgg8_bits (fun HT_ HW_ => ?_)
   generalize wr.drew = w101 at HR hHeld ⊢
   refine pu 0 37 (bl 9 1) HT_ (by kernel_rfl) rfl rfl (by rfl) (fun _ _ _ h => h) (by intro w';go_simp;with_reducible rfl) (by simp only [Act.put,sa,s0,s1];rfl) ?_
   refine pu 1 38 (bl 9 3) HT_ (by kernel_rfl) rfl rfl (by rfl) (fun _ _ _ h => h) (by intro w';go_simp;with_reducible rfl) (by simp only [Act.put,sa,s0,s1];rfl) ?_
   refine pu 2 39 (bl 9 7) HT_ (by kernel_rfl) rfl rfl (by rfl) (fun _ _ _ h => h) (by intro w';go_simp;with_reducible rfl) (by simp only [Act.put,sa,s0,s1];rfl) ?_
   refine tk 3 40 (bl 9 15) HT_ HW_ (by kernel_rfl) rfl rfl (by rfl) (fun _ _ _ h => h) hHeld (by rintro w' ⟨⟨s0,s1⟩,s2⟩;go_simp;with_reducible rfl) (by simp only [Act.put,sa,s0,s1];rfl) ?_
   refine pu 4 41 (bl 9 31) HT_ (by kernel_rfl) rfl rfl (by rfl) (fun _ _ _ h => h) (by intro w';go_simp;with_reducible rfl) (by simp only [Act.put,sa,s0,s1];rfl) ?_
   refine pu 5 42 (bl 9 63) HT_ (by kernel_rfl) rfl rfl (by rfl) (fun _ _ _ h => h) (by intro w';go_simp;with_reducible rfl) (by simp only [Act.put,sa,s0,s1];rfl) ?_
   refine pu 6 43 (bl 9 127) HT_ (by kernel_rfl) rfl rfl (by rfl) (fun _ _ _ h => h) (by intro w';go_simp;with_reducible rfl) (by simp only [Act.put,sa,s0,s1];rfl) ?_
   refine tk 7 44 (bl 9 255) HT_ HW_ (by kernel_rfl) rfl rfl (by rfl) (fun _ _ _ h => h) hHeld (by rintro w' ⟨⟨s0,s1⟩,s2⟩;go_simp;with_reducible rfl) (by simp only [Act.put,sa,s0,s1];rfl) ?_
   refine pu 8 45 (bl 9 511) HT_ (by kernel_rfl) rfl rfl (by rfl) (fun _ _ _ h => h) (by intro w';go_simp;with_reducible rfl) (by simp only [Act.put,sa,s0,s1];rfl) ?_
   refine done_ (done_of HT_.out (by kernel_rfl)) ?_
   by_cases hge : m ≤ v
   ·have cg0 : decide (v ≥ m) = true:=decide_eq_true hge
    have hv8:=int_at' (HR.out.has 0 rfl) i hlt' HVV.out
    obtain ⟨c8g0,c8g1⟩:=HR.out.c2 1 rfl
    obtain ⟨f8g0,f8g1⟩:=HR.out.f2 1 rfl
    go_wp2_with (first
     | ((with_reducible refine gate_store (t:=3) (p:=53) rfl ?_);refine st1 HR 1 rfl 0 (.int .i64 (wrap64 (v + 1))) rfl rfl rfl (by first | (go_simp;done) | (go_simp;rfl)) (cs':=#[.int .i64 (wrap64 (v + 1)),.bool false]) rfl ?_;clear HR;intro w102 HR;clear c8g0 c8g1 f8g0 f8g1))
    try go_wp2
    go_roundg (l.length - (i + 1))
    case measure => have:=hi.out;omega
    case rel => exact ⟨i + 1,by rw [next_i i _ hlt' HLL.out],⟨by have:=hi.out;omega⟩,⟨by have hq:=fmP_take l i hlt';rw [← HVV.out,← HM.out,if_pos (by omega)] at hq;rw [hq];exact HR.out.pick [0,1,2,3,4] (by decide)⟩⟩
   ·skip
    have cg0 : decide (v ≥ m) = false:=decide_eq_false hge
    go_wp2_with fail
    try go_wp2
    go_roundg (l.length - (i + 1))
    case measure => have:=hi.out;omega
    case rel => exact ⟨i + 1,by rw [next_i i _ hlt' HLL.out],⟨by have:=hi.out;omega⟩,⟨by have hq:=fmP_take l i hlt';rw [← HVV.out,← HM.out,if_neg (by omega)] at hq;rw [hq];exact HR.out.pick [0,1,2,3,4] (by decide)⟩⟩
  ·have c3b0 : decide ((i : Int) < (l.length : Int)) = false:=decide_eq_false hlt
   have c3b1 : decide (i < l.length) = false:=decide_eq_false (by omega)
   have he : fmP (l.take i) = N:=by rw [HNN.out,List.take_of_length_le (by omega)]
   rw [he] at HR
   clear he
   go_wp2_with (first
    | (go_at_call 96;obtain ⟨Q_,hQg_,hbx_,hQ_,hput_⟩:=HR.out.ask HP.out 4 1 rfl rfl (by decide);(with_reducible refine (spec_fresh w wr g N false HR.out.bel HG.out hbx_).mono ?_);rintro e_ w302 ⟨rfl,hc_,hb_,hk_⟩;replace HR:=asd (hput_ _ _ [] hb_ hk_ hc_ (by intro z hz;exact absurd hz List.not_mem_nil));clear hQg_ hbx_ hQ_ hput_ hb_ hk_ hc_ Q_)
    | ((with_reducible refine gate_dst (N:=7) rfl ?_);refine nb HR 7 (cs:=#[.int .i64 0,.string (⟨#[]⟩ : ByteArray),.int .i64 0,.slice none 0 0]) (t:=29) rfl rfl (by first | (go_simp;done) | (go_simp;rfl)) ?_;clear HR;intro gx w303 HR;obtain ⟨c9gx0,c9gx1,c9gx2,c9gx3⟩:=HR.out.c4 0 rfl;obtain ⟨f9gx0,f9gx1,f9gx2,f9gx3⟩:=HR.out.f4 0 rfl)
    | ((with_reducible refine gate_store (t:=29) (p:=7) rfl ?_);refine stA HR 0 rfl [.int .i64 1,.string (⟨#[]⟩ : ByteArray),.int .i64 (newV N),.slice none 0 0] rfl rfl rfl rfl (by first | (go_simp;done) | (go_simp;rfl)) ?_;clear HR;intro w304 HR;clear c9gx0 c9gx1 c9gx2 c9gx3 f9gx0 f9gx1 f9gx2 f9gx3)
    | (go_at_call 96;obtain ⟨Q_,hQg_,hbx_,hQ_,hput_⟩:=HR.out.ask HP.out 5 2 rfl rfl (by decide);(with_reducible refine (spec_fresh w w304 g (nxt N) false HR.out.bel HG.out hbx_).mono ?_);rintro e_ w305 ⟨rfl,hc_,hb_,hk_⟩;replace HR:=asd (hput_ _ _ [] hb_ hk_ hc_ (by intro z hz;exact absurd hz List.not_mem_nil));clear hQg_ hbx_ hQ_ hput_ hb_ hk_ hc_ Q_)
    | ((with_reducible refine gate_dst (N:=8) rfl ?_);refine nb HR 8 (cs:=#[.int .i64 0,.string (⟨#[]⟩ : ByteArray),.int .i64 0,.slice none 0 0]) (t:=29) rfl rfl (by first | (go_simp;done) | (go_simp;rfl)) ?_;clear HR;intro gy w306 HR;obtain ⟨c12gy0,c12gy1,c12gy2,c12gy3⟩:=HR.out.c4 0 rfl;obtain ⟨f12gy0,f12gy1,f12gy2,f12gy3⟩:=HR.out.f4 0 rfl)
    | ((with_reducible refine gate_store (t:=29) (p:=8) rfl ?_);refine stA HR 0 rfl [.int .i64 1,.string (⟨#[]⟩ : ByteArray),.int .i64 (newV (nxt N)),.slice none 0 0] rfl rfl rfl rfl (by first | (go_simp;done) | (go_simp;rfl)) ?_;clear HR;intro w307 HR;clear c12gy0 c12gy1 c12gy2 c12gy3 f12gy0 f12gy1 f12gy2 f12gy3))
   replace HR:=asd (HR.out.drew)
   refine start_ (n:=18) (S:=fun w' => C4 w' ga (.int .i64 a0) (.string a1) (.int .i64 a2) (.slice (some ad) 2 c) ∧ C4 w' gx (.int .i64 1) (.string (⟨#[]⟩ : ByteArray)) (.int .i64 (newV N)) (.slice none 0 0) ∧ C4 w' gy (.int .i64 1) (.string (⟨#[]⟩ : ByteArray)) (.int .i64 (newV (nxt N))) (.slice none 0 0) ∧ D4 w' ad (.int .i64 p.f0) (.string p.f1) (.int .i64 p.f2) (.slice A3 p.f3.length c3) ∧ E4 w' ad (.int .i64 q.f0) (.string q.f1) (.int .i64 q.f2) (.slice A7 q.f3.length c7)) (ds:=[17]) (bl 18 0) (by kernel_rfl) rfl rfl ⟨HR.out.c4 5 rfl,HR.out.c4 1 rfl,HR.out.c4 0 rfl,HR.out.d4 HX.out HNP.out,HR.out.e4 HY.out HNP.out⟩ (fun hHeld => ?_);refine with_tabW sgg12_tab sgg12_bits (fun HT_ HW_ => ?_)
   generalize w307.drew = w308 at HR hHeld ⊢
   refine pu 0 58 (bl 18 1) HT_ (by kernel_rfl) rfl rfl (by rfl) (fun _ _ _ h => h) (by intro w';go_simp;with_reducible rfl) (by simp only [Act.put,sa,s0,s1];rfl) ?_
   refine tk 1 59 (bl 18 3) HT_ HW_ (by kernel_rfl) rfl rfl (by rfl) (fun _ _ _ h => h) hHeld (by rintro w' ⟨⟨s0,s1,s2,s3⟩,⟨s4,s5,s6,s7⟩,⟨s8,s9,s10,s11⟩,⟨s12,s13,s14,s15⟩,⟨s16,s17,s18,s19⟩⟩;go_simp;with_reducible rfl) (by simp only [Act.put,sa,s0,s1];rfl) ?_
   refine pu 2 60 (bl 18 7) HT_ (by kernel_rfl) rfl rfl (by rfl) (fun _ _ _ h => h) (by intro w';go_simp;with_reducible rfl) (by simp only [Act.put,sa,s0,s1];rfl) ?_
   refine tk 3 61 (bl 18 15) HT_ HW_ (by kernel_rfl) rfl rfl (by rfl) (fun _ _ _ h => h) hHeld (by rintro w' ⟨⟨s0,s1,s2,s3⟩,⟨s4,s5,s6,s7⟩,⟨s8,s9,s10,s11⟩,⟨s12,s13,s14,s15⟩,⟨s16,s17,s18,s19⟩⟩;go_simp;with_reducible rfl) (by simp only [Act.put,sa,s0,s1];rfl) ?_
   refine tk 4 62 (bl 18 31) HT_ HW_ (by kernel_rfl) rfl rfl (by rfl) (fun _ _ _ h => h) hHeld (by rintro w' ⟨⟨s0,s1,s2,s3⟩,⟨s4,s5,s6,s7⟩,⟨s8,s9,s10,s11⟩,⟨s12,s13,s14,s15⟩,⟨s16,s17,s18,s19⟩⟩;go_simp;with_reducible rfl) (by simp only [Act.put,sa,s0,s1];rfl) ?_
   refine tk 5 63 (bl 18 63) HT_ HW_ (by kernel_rfl) rfl rfl (by rfl) (fun _ _ _ h => h) hHeld (by rintro w' ⟨⟨s0,s1,s2,s3⟩,⟨s4,s5,s6,s7⟩,⟨s8,s9,s10,s11⟩,⟨s12,s13,s14,s15⟩,⟨s16,s17,s18,s19⟩⟩;go_simp;with_reducible rfl) (by simp only [Act.put,sa,s0,s1];rfl) ?_
   refine pu 7 65 (bl 18 191) HT_ (by kernel_rfl) rfl rfl (by rfl) (fun _ _ _ h => h) (by intro w';go_simp;with_reducible rfl) (by simp only [Act.put,sa,s0,s1];rfl) ?_
   refine pu 8 66 (bl 18 447) HT_ (by kernel_rfl) rfl rfl (by rfl) (fun _ _ _ h => h) (by intro w';go_simp;with_reducible rfl) (by simp only [Act.put,sa,s0,s1];rfl) ?_
   refine tk 9 67 (bl 18 959) HT_ HW_ (by kernel_rfl) rfl rfl (by rfl) (fun _ _ _ h => h) hHeld (by rintro w' ⟨⟨s0,s1,s2,s3⟩,⟨s4,s5,s6,s7⟩,⟨s8,s9,s10,s11⟩,⟨s12,s13,s14,s15⟩,⟨s16,s17,s18,s19⟩⟩;go_simp;with_reducible rfl) (by simp only [Act.put,sa,s0,s1];rfl) ?_
   refine pu 10 68 (bl 18 1983) HT_ (by kernel_rfl) rfl rfl (by rfl) (fun _ _ _ h => h) (by intro w';go_simp;with_reducible rfl) (by simp only [Act.put,sa,s0,s1];rfl) ?_
   refine tk 11 69 (bl 18 4031) HT_ HW_ (by kernel_rfl) rfl rfl (by rfl) (fun _ _ _ h => h) hHeld (by rintro w' ⟨⟨s0,s1,s2,s3⟩,⟨s4,s5,s6,s7⟩,⟨s8,s9,s10,s11⟩,⟨s12,s13,s14,s15⟩,⟨s16,s17,s18,s19⟩⟩;go_simp;with_reducible rfl) (by simp only [Act.put,sa,s0,s1];rfl) ?_
   refine tk 12 70 (bl 18 8127) HT_ HW_ (by kernel_rfl) rfl rfl (by rfl) (fun _ _ _ h => h) hHeld (by rintro w' ⟨⟨s0,s1,s2,s3⟩,⟨s4,s5,s6,s7⟩,⟨s8,s9,s10,s11⟩,⟨s12,s13,s14,s15⟩,⟨s16,s17,s18,s19⟩⟩;go_simp;with_reducible rfl) (by simp only [Act.put,sa,s0,s1];rfl) ?_
   refine tk 13 71 (bl 18 16319) HT_ HW_ (by kernel_rfl) rfl rfl (by rfl) (fun _ _ _ h => h) hHeld (by rintro w' ⟨⟨s0,s1,s2,s3⟩,⟨s4,s5,s6,s7⟩,⟨s8,s9,s10,s11⟩,⟨s12,s13,s14,s15⟩,⟨s16,s17,s18,s19⟩⟩;go_simp;with_reducible rfl) (by simp only [Act.put,sa,s0,s1];rfl) ?_
   refine join_ (σ:=Option Addr × Nat × Option Addr × Nat × Nat × Nat) 1 (bl 18 131071) (fun s => let ⟨A51,c51,A52,c52,gq,go⟩:=s;[(64,.agg #[.int .i64 r1.f0,.string r1.f1,.int .i64 r1.f2,.slice A51 r1.f3.length c51]),(72,.agg #[.int .i64 r2.f0,.string r2.f1,.int .i64 r2.f2,.slice A52 r2.f3.length c52]),(73,.agg #[.int .i64 4,.string (⟨#[58,45]⟩ : ByteArray),.int .i64 0,.slice (some ⟨gq,0,none⟩) 2 2]),(9,.pointer (some ⟨go,0,none⟩))]) (fun s w' => let ⟨A51,c51,A52,c52,gq,go⟩:=s;Run w w (fun _ => False) [As.box go 29 #[.int .i64 0,.string (⟨#[]⟩ : ByteArray),.int .i64 0,.slice none 0 0],As.box gq 29 #[.int .i64 r1.f0,.string r1.f1,.int .i64 r1.f2,.slice A51 r1.f3.length c51,.int .i64 r2.f0,.string r2.f1,.int .i64 r2.f2,.slice A52 r2.f3.length c52],As.box gy 29 #[.int .i64 1,.string (⟨#[]⟩ : ByteArray),.int .i64 (newV (nxt N)),.slice none 0 0],As.box gx 29 #[.int .i64 1,.string (⟨#[]⟩ : ByteArray),.int .i64 (newV N),.slice none 0 0],As.rrow (Kd.int .i64) 3 (.slice A8 l.length c8) l,As.box g 102 #[.int .i64 n2,.bool b2],As.box gr 29 #[.int .i64 0,.string (⟨#[]⟩ : ByteArray),.int .i64 0,.slice none 0 0],As.box ga 29 #[.int .i64 a0,.string a1,.int .i64 a2,.slice (some ad) 2 c],As.pool w Q ([(.slice A52 r2.f3.length c52,r2.f3)] ++ ([(.slice A51 r1.f3.length c51,r1.f3)] ++ ([] ++ ([] ++ [(.slice none 0 0,[]),(.slice (some ad) 2 c,[p,q]),(.slice A3 p.f3.length c3,p.f3),(.slice A7 q.f3.length c7,q.f3)]))))] w') ?_ ?_
   rotate_left
   ·intro hCont
    refine tw 6 16 (some 64) (some 9) (bl 18 16383) (bl 18 81855) HT_ (by kernel_rfl) rfl rfl rfl rfl (by decide) (by decide) ?_ ?_
    ·skip
     obtain ⟨Q_,hQ_,hput_⟩:=HR.out.ask0 HP.out 6 rfl
     refine clS Tryd.func98 (by kernel_rfl) rfl #[.agg #[.int .i64 p.f0,.string p.f1,.int .i64 p.f2,.slice A3 p.f3.length c3],.agg #[.int .i64 1,.string (⟨#[]⟩ : ByteArray),.int .i64 (newV N),.slice none 0 0],.agg #[.int .i64 1,.string (⟨#[]⟩ : ByteArray),.int .i64 (newV (nxt N)),.slice none 0 0]] (by rfl) rfl rfl (by (try simp only [List.map_toArray,List.map_cons,List.map_nil]);first|done|rfl) ((H5.out w308 Q_ A3 c3 (hQ_ _ (by simp))).mono ?_)
     rintro e_ w309 ⟨A51,c51,rfl,hr_,hb_⟩
     replace HR:=asd (hput_ _ [(.slice A51 r1.f3.length c51,r1.f3)] hb_ (by intro z hz;obtain rfl:=List.mem_singleton.1 hz;exact hr_))
     clear hQ_ hput_ hr_ hb_ Q_
     refine ⟨_,rfl,⟨HR.out.c4 5 rfl,HR.out.c4 1 rfl,HR.out.c4 0 rfl,HR.out.d4 HX.out HNP.out,HR.out.e4 HY.out HNP.out⟩,fun hHeld => ?_⟩
     refine nm (by simp only [Act.put,sa,s0,s1];rfl) ?_
     refine tw 14 16 (some 72) (some 9) (bl 18 32767) (bl 18 81919) HT_ (by kernel_rfl) rfl rfl rfl rfl (by decide) (by decide) ?_ ?_
     ·skip
      obtain ⟨Q_,hQg_,hbx_,hQ_,hput_⟩:=HR.out.ask HP.out 6 3 rfl rfl (by decide)
      refine clS Tryd.func99 (by kernel_rfl) rfl #[.pointer (some ⟨g,0,none⟩),.agg #[.int .i64 q.f0,.string q.f1,.int .i64 q.f2,.slice A7 q.f3.length c7],.agg #[.int .i64 1,.string (⟨#[]⟩ : ByteArray),.int .i64 (newV N),.slice none 0 0],.agg #[.int .i64 1,.string (⟨#[]⟩ : ByteArray),.int .i64 (newV (nxt N)),.slice none 0 0]] (by rfl) rfl rfl (by (try simp only [List.map_toArray,List.map_cons,List.map_nil]);first|done|rfl) ((IH2.out.go w w309 g Q_ A7 c7 HTB.out HR.out.bel HG.out hQg_ hbx_ (hQ_ _ (by simp))).mono ?_)
      rintro e_ w310 hq_
      unfold BPost at hq_
      obtain ⟨A52,c52,rfl,hr_,hc_,hb_,hk_⟩:=hq_
      replace HR:=asd (hput_ _ _ [(.slice A52 r2.f3.length c52,r2.f3)] hb_ hk_ hc_ (by intro z hz;obtain rfl:=List.mem_singleton.1 hz;exact hr_))
      clear hQg_ hbx_ hQ_ hput_ hr_ hc_ hb_ hk_ Q_
      refine ⟨_,rfl,⟨HR.out.c4 5 rfl,HR.out.c4 1 rfl,HR.out.c4 0 rfl,HR.out.d4 HX.out HNP.out,HR.out.e4 HY.out HNP.out⟩,fun hHeld => ?_⟩
      refine nm (by simp only [Act.put,sa,s0,s1];rfl) ?_
      refine tw 15 16 (some 73) (some 9) (bl 18 65535) (bl 18 98303) HT_ (by kernel_rfl) rfl rfl rfl rfl (by decide) (by decide) ?_ ?_
      ·skip
       refine clS Tryd.func97 (by kernel_rfl) rfl #[.string (⟨#[58,45]⟩ : ByteArray),.agg #[.int .i64 r1.f0,.string r1.f1,.int .i64 r1.f2,.slice A51 r1.f3.length c51],.agg #[.int .i64 r2.f0,.string r2.f1,.int .i64 r2.f2,.slice A52 r2.f3.length c52]] (by rfl) rfl rfl (by (try simp only [List.map_toArray,List.map_cons,List.map_nil]);first|done|rfl) ((two_calls (⟨#[58,45]⟩ : ByteArray) r1 r2 (.slice A51 r1.f3.length c51) (.slice A52 r2.f3.length c52) rfl rfl rfl rfl w310).mono ?_)
       rintro e_ w311 ⟨gq,rfl,ho,hb⟩
       replace HR:=asd (HR.out.push (As.box gq 29 #[.int .i64 r1.f0,.string r1.f1,.int .i64 r1.f2,.slice A51 r1.f3.length c51,.int .i64 r2.f0,.string r2.f1,.int .i64 r2.f2,.slice A52 r2.f3.length c52]) hb ho)
       clear hb ho
       refine ⟨_,rfl,⟨HR.out.c4 6 rfl,HR.out.c4 2 rfl,HR.out.c4 1 rfl,HR.out.d4 HX.out HNP.out,HR.out.e4 HY.out HNP.out⟩,fun hHeld => ?_⟩
       refine nm (by simp only [Act.put,sa,s0,s1];rfl) ?_
       refine on 16 (some 9) (bl 18 131071) HT_ (by kernel_rfl) rfl rfl (by decide) ?_
       refine nbS HR 9 (cs:=#[.int .i64 0,.string (⟨#[]⟩ : ByteArray),.int .i64 0,.slice none 0 0]) (t:=29) (by rfl) rfl (by first|(go_simp;done)|(go_simp;rfl)) ?_
       clear HR;intro go w312 HR
       refine ⟨⟨HR.out.c4 7 rfl,HR.out.c4 3 rfl,HR.out.c4 2 rfl,HR.out.d4 HX.out HNP.out,HR.out.e4 HY.out HNP.out⟩,fun hHeld => ?_⟩
       refine nm (by simp only [Act.put,sa,s0,s1];rfl) ?_
       exact nm (by simp only [putAll,Act.put,sa,s0,s1]) (hCont (A51,c51,A52,c52,gq,go) _ HR.out)
      ·skip
       refine nbS HR 9 (cs:=#[.int .i64 0,.string (⟨#[]⟩ : ByteArray),.int .i64 0,.slice none 0 0]) (t:=29) (by rfl) rfl (by first|(go_simp;done)|(go_simp;rfl)) ?_
       clear HR;intro go w311 HR
       refine ⟨⟨HR.out.c4 6 rfl,HR.out.c4 2 rfl,HR.out.c4 1 rfl,HR.out.d4 HX.out HNP.out,HR.out.e4 HY.out HNP.out⟩,fun hHeld => ?_⟩
       refine nm (by simp only [Act.put,sa,s0,s1];rfl) ?_
       refine on 15 (some 73) (bl 18 131071) HT_ (by kernel_rfl) rfl rfl (by decide) ?_
       refine clS Tryd.func97 (by kernel_rfl) rfl #[.string (⟨#[58,45]⟩ : ByteArray),.agg #[.int .i64 r1.f0,.string r1.f1,.int .i64 r1.f2,.slice A51 r1.f3.length c51],.agg #[.int .i64 r2.f0,.string r2.f1,.int .i64 r2.f2,.slice A52 r2.f3.length c52]] (by rfl) rfl rfl (by (try simp only [List.map_toArray,List.map_cons,List.map_nil]);first|done|rfl) ((two_calls (⟨#[58,45]⟩ : ByteArray) r1 r2 (.slice A51 r1.f3.length c51) (.slice A52 r2.f3.length c52) rfl rfl rfl rfl w311).mono ?_)
       rintro e_ w312 ⟨gq,rfl,ho,hb⟩
       replace HR:=asd (HR.out.push (As.box gq 29 #[.int .i64 r1.f0,.string r1.f1,.int .i64 r1.f2,.slice A51 r1.f3.length c51,.int .i64 r2.f0,.string r2.f1,.int .i64 r2.f2,.slice A52 r2.f3.length c52]) hb ho)
       clear hb ho
       refine ⟨_,rfl,⟨HR.out.c4 7 rfl,HR.out.c4 3 rfl,HR.out.c4 2 rfl,HR.out.d4 HX.out HNP.out,HR.out.e4 HY.out HNP.out⟩,fun hHeld => ?_⟩
       refine nm (by simp only [Act.put,sa,s0,s1];rfl) ?_
       exact nm (by simp only [putAll,Act.put,sa,s0,s1]) (hCont (A51,c51,A52,c52,gq,go) _ (HR.out.pick [1,0,2,3,4,5,6,7,8] (by decide)))
     ·skip
      refine nbS HR 9 (cs:=#[.int .i64 0,.string (⟨#[]⟩ : ByteArray),.int .i64 0,.slice none 0 0]) (t:=29) (by rfl) rfl (by first|(go_simp;done)|(go_simp;rfl)) ?_
      clear HR;intro go w310 HR
      refine ⟨⟨HR.out.c4 6 rfl,HR.out.c4 2 rfl,HR.out.c4 1 rfl,HR.out.d4 HX.out HNP.out,HR.out.e4 HY.out HNP.out⟩,fun hHeld => ?_⟩
      refine nm (by simp only [Act.put,sa,s0,s1];rfl) ?_
      refine on 14 (some 72) (bl 18 98303) HT_ (by kernel_rfl) rfl rfl (by decide) ?_
      obtain ⟨Q_,hQg_,hbx_,hQ_,hput_⟩:=HR.out.ask HP.out 7 4 rfl rfl (by decide)
      refine clS Tryd.func99 (by kernel_rfl) rfl #[.pointer (some ⟨g,0,none⟩),.agg #[.int .i64 q.f0,.string q.f1,.int .i64 q.f2,.slice A7 q.f3.length c7],.agg #[.int .i64 1,.string (⟨#[]⟩ : ByteArray),.int .i64 (newV N),.slice none 0 0],.agg #[.int .i64 1,.string (⟨#[]⟩ : ByteArray),.int .i64 (newV (nxt N)),.slice none 0 0]] (by rfl) rfl rfl (by (try simp only [List.map_toArray,List.map_cons,List.map_nil]);first|done|rfl) ((IH2.out.go w w310 g Q_ A7 c7 HTB.out HR.out.bel HG.out hQg_ hbx_ (hQ_ _ (by simp))).mono ?_)
      rintro e_ w311 hq_
      unfold BPost at hq_
      obtain ⟨A52,c52,rfl,hr_,hc_,hb_,hk_⟩:=hq_
      replace HR:=asd (hput_ _ _ [(.slice A52 r2.f3.length c52,r2.f3)] hb_ hk_ hc_ (by intro z hz;obtain rfl:=List.mem_singleton.1 hz;exact hr_))
      clear hQg_ hbx_ hQ_ hput_ hr_ hc_ hb_ hk_ Q_
      refine ⟨_,rfl,⟨HR.out.c4 6 rfl,HR.out.c4 2 rfl,HR.out.c4 1 rfl,HR.out.d4 HX.out HNP.out,HR.out.e4 HY.out HNP.out⟩,fun hHeld => ?_⟩
      refine nm (by simp only [Act.put,sa,s0,s1];rfl) ?_
      refine on 15 (some 73) (bl 18 131071) HT_ (by kernel_rfl) rfl rfl (by decide) ?_
      refine clS Tryd.func97 (by kernel_rfl) rfl #[.string (⟨#[58,45]⟩ : ByteArray),.agg #[.int .i64 r1.f0,.string r1.f1,.int .i64 r1.f2,.slice A51 r1.f3.length c51],.agg #[.int .i64 r2.f0,.string r2.f1,.int .i64 r2.f2,.slice A52 r2.f3.length c52]] (by rfl) rfl rfl (by (try simp only [List.map_toArray,List.map_cons,List.map_nil]);first|done|rfl) ((two_calls (⟨#[58,45]⟩ : ByteArray) r1 r2 (.slice A51 r1.f3.length c51) (.slice A52 r2.f3.length c52) rfl rfl rfl rfl w311).mono ?_)
      rintro e_ w312 ⟨gq,rfl,ho,hb⟩
      replace HR:=asd (HR.out.push (As.box gq 29 #[.int .i64 r1.f0,.string r1.f1,.int .i64 r1.f2,.slice A51 r1.f3.length c51,.int .i64 r2.f0,.string r2.f1,.int .i64 r2.f2,.slice A52 r2.f3.length c52]) hb ho)
      clear hb ho
      refine ⟨_,rfl,⟨HR.out.c4 7 rfl,HR.out.c4 3 rfl,HR.out.c4 2 rfl,HR.out.d4 HX.out HNP.out,HR.out.e4 HY.out HNP.out⟩,fun hHeld => ?_⟩
      refine nm (by simp only [Act.put,sa,s0,s1];rfl) ?_
      exact nm (by simp only [putAll,Act.put,sa,s0,s1]) (hCont (A51,c51,A52,c52,gq,go) _ (HR.out.pick [1,0,2,3,4,5,6,7,8] (by decide)))
    ·skip
     refine nbS HR 9 (cs:=#[.int .i64 0,.string (⟨#[]⟩ : ByteArray),.int .i64 0,.slice none 0 0]) (t:=29) (by rfl) rfl (by first|(go_simp;done)|(go_simp;rfl)) ?_
     clear HR;intro go w309 HR
     refine ⟨⟨HR.out.c4 6 rfl,HR.out.c4 2 rfl,HR.out.c4 1 rfl,HR.out.d4 HX.out HNP.out,HR.out.e4 HY.out HNP.out⟩,fun hHeld => ?_⟩
     refine nm (by simp only [Act.put,sa,s0,s1];rfl) ?_
     refine on 6 (some 64) (bl 18 81919) HT_ (by kernel_rfl) rfl rfl (by decide) ?_
     obtain ⟨Q_,hQ_,hput_⟩:=HR.out.ask0 HP.out 7 rfl
     refine clS Tryd.func98 (by kernel_rfl) rfl #[.agg #[.int .i64 p.f0,.string p.f1,.int .i64 p.f2,.slice A3 p.f3.length c3],.agg #[.int .i64 1,.string (⟨#[]⟩ : ByteArray),.int .i64 (newV N),.slice none 0 0],.agg #[.int .i64 1,.string (⟨#[]⟩ : ByteArray),.int .i64 (newV (nxt N)),.slice none 0 0]] (by rfl) rfl rfl (by (try simp only [List.map_toArray,List.map_cons,List.map_nil]);first|done|rfl) ((H5.out w309 Q_ A3 c3 (hQ_ _ (by simp))).mono ?_)
     rintro e_ w310 ⟨A51,c51,rfl,hr_,hb_⟩
     replace HR:=asd (hput_ _ [(.slice A51 r1.f3.length c51,r1.f3)] hb_ (by intro z hz;obtain rfl:=List.mem_singleton.1 hz;exact hr_))
     clear hQ_ hput_ hr_ hb_ Q_
     refine ⟨_,rfl,⟨HR.out.c4 6 rfl,HR.out.c4 2 rfl,HR.out.c4 1 rfl,HR.out.d4 HX.out HNP.out,HR.out.e4 HY.out HNP.out⟩,fun hHeld => ?_⟩
     refine nm (by simp only [Act.put,sa,s0,s1];rfl) ?_
     refine on 14 (some 72) (bl 18 98303) HT_ (by kernel_rfl) rfl rfl (by decide) ?_
     obtain ⟨Q_,hQg_,hbx_,hQ_,hput_⟩:=HR.out.ask HP.out 7 4 rfl rfl (by decide)
     refine clS Tryd.func99 (by kernel_rfl) rfl #[.pointer (some ⟨g,0,none⟩),.agg #[.int .i64 q.f0,.string q.f1,.int .i64 q.f2,.slice A7 q.f3.length c7],.agg #[.int .i64 1,.string (⟨#[]⟩ : ByteArray),.int .i64 (newV N),.slice none 0 0],.agg #[.int .i64 1,.string (⟨#[]⟩ : ByteArray),.int .i64 (newV (nxt N)),.slice none 0 0]] (by rfl) rfl rfl (by (try simp only [List.map_toArray,List.map_cons,List.map_nil]);first|done|rfl) ((IH2.out.go w w310 g Q_ A7 c7 HTB.out HR.out.bel HG.out hQg_ hbx_ (hQ_ _ (by simp))).mono ?_)
     rintro e_ w311 hq_
     unfold BPost at hq_
     obtain ⟨A52,c52,rfl,hr_,hc_,hb_,hk_⟩:=hq_
     replace HR:=asd (hput_ _ _ [(.slice A52 r2.f3.length c52,r2.f3)] hb_ hk_ hc_ (by intro z hz;obtain rfl:=List.mem_singleton.1 hz;exact hr_))
     clear hQg_ hbx_ hQ_ hput_ hr_ hc_ hb_ hk_ Q_
     refine ⟨_,rfl,⟨HR.out.c4 6 rfl,HR.out.c4 2 rfl,HR.out.c4 1 rfl,HR.out.d4 HX.out HNP.out,HR.out.e4 HY.out HNP.out⟩,fun hHeld => ?_⟩
     refine nm (by simp only [Act.put,sa,s0,s1];rfl) ?_
     refine on 15 (some 73) (bl 18 131071) HT_ (by kernel_rfl) rfl rfl (by decide) ?_
     refine clS Tryd.func97 (by kernel_rfl) rfl #[.string (⟨#[58,45]⟩ : ByteArray),.agg #[.int .i64 r1.f0,.string r1.f1,.int .i64 r1.f2,.slice A51 r1.f3.length c51],.agg #[.int .i64 r2.f0,.string r2.f1,.int .i64 r2.f2,.slice A52 r2.f3.length c52]] (by rfl) rfl rfl (by (try simp only [List.map_toArray,List.map_cons,List.map_nil]);first|done|rfl) ((two_calls (⟨#[58,45]⟩ : ByteArray) r1 r2 (.slice A51 r1.f3.length c51) (.slice A52 r2.f3.length c52) rfl rfl rfl rfl w311).mono ?_)
     rintro e_ w312 ⟨gq,rfl,ho,hb⟩
     replace HR:=asd (HR.out.push (As.box gq 29 #[.int .i64 r1.f0,.string r1.f1,.int .i64 r1.f2,.slice A51 r1.f3.length c51,.int .i64 r2.f0,.string r2.f1,.int .i64 r2.f2,.slice A52 r2.f3.length c52]) hb ho)
     clear hb ho
     refine ⟨_,rfl,⟨HR.out.c4 7 rfl,HR.out.c4 3 rfl,HR.out.c4 2 rfl,HR.out.d4 HX.out HNP.out,HR.out.e4 HY.out HNP.out⟩,fun hHeld => ?_⟩
     refine nm (by simp only [Act.put,sa,s0,s1];rfl) ?_
     exact nm (by simp only [putAll,Act.put,sa,s0,s1]) (hCont (A51,c51,A52,c52,gq,go) _ (HR.out.pick [1,0,2,3,4,5,6,7,8] (by decide)))
   rintro ⟨A51,c51,A52,c52,gq,go⟩ w313 hR_
   clear HR;have HR:=asd hR_;clear hR_;dsimp only at HR
   refine nm (by simp only [putAll,Act.put,sa,s0,s1];rfl) ?_
   obtain ⟨hz0_,hz1_,hz2_,hz3_⟩:=HR.out.c4 0 rfl;obtain ⟨fz0_,fz1_,fz2_,fz3_⟩:=HR.out.f4 0 rfl
   refine lsA HR 0 17 (bl 18 262143) HT_ (by kernel_rfl) rfl rfl (by decide) rfl [.int .i64 4,.string (⟨#[58,45]⟩ : ByteArray),.int .i64 0,.slice (some ⟨gq,0,none⟩) 2 2] rfl (by rfl) (by first|(go_simp;done)|(go_simp;rfl)) ?_
   clear HR hz0_ hz1_ hz2_ hz3_ fz0_ fz1_ fz2_ fz3_;intro w314 HR
   refine done_ (done_of HT_.out (by kernel_rfl)) ?_
   cases b2
   case true =>
    obtain ⟨c14g0,c14g1⟩:=HR.out.c2 5 rfl
    obtain ⟨c14gr0,c14gr1,c14gr2,c14gr3⟩:=HR.out.c4 6 rfl
    obtain ⟨f14gr0,f14gr1,f14gr2,f14gr3⟩:=HR.out.f4 6 rfl
    go_wp2_with (first
     | ((with_reducible refine gate_store (t:=29) (p:=2) rfl ?_);refine stA HR 6 rfl [.int .i64 0,.string (⟨#[]⟩ : ByteArray),.int .i64 0,.slice none 0 0] rfl rfl rfl rfl (by first | (go_simp;done) | (go_simp;rfl)) ?_;clear HR;intro w315 HR;clear c14g0 c14g1 c14gr0 c14gr1 c14gr2 c14gr3 f14gr0 f14gr1 f14gr2 f14gr3))
    refine bodyPost_ret (results_ct rfl _ _ gr 29 #[.int .i64 0,.string (⟨#[]⟩ : ByteArray),.int .i64 0,.slice none 0 0] (0,0) _ rfl (HR.out.has 6 rfl).2 Tryd.underlying29 rfl (by kernel_rfl)) rfl ?_
    exact (show GRaw z29 false Q w _ _ from ⟨none,0,rfl,foot_nil _ _,HR.out.bel⟩)
   case false =>
    cases bo
    case false =>
     obtain ⟨c14g0,c14g1⟩:=HR.out.c2 5 rfl
     obtain ⟨c14go0,c14go1,c14go2,c14go3⟩:=HR.out.c4 0 rfl
     go_wp2_with (first
      | (go_at_call 86;have hc_:=(HR.out.pool_lit 8 1 rfl rfl (by decide) [r1,r2] 2 rfl (by decide) (lit2_ok (va:=.slice A51 r1.f3.length c51) (vb:=.slice A52 r2.f3.length c52) (by simp) (by simp))).poolC HP.out 8 rfl (A:=some ⟨gq,0,none⟩) (n:=2) (c:=2) (xs:=[r1,r2]) (by simp);(with_reducible refine (HO.out w314 _ hc_).mono ?_);rintro e_ w315 ⟨rfl,hb⟩;clear hc_;replace HR:=asd (HR.out.step hb);clear hb;clear c14g0 c14g1 c14go0 c14go1 c14go2 c14go3;obtain ⟨c15gr0,c15gr1,c15gr2,c15gr3⟩:=HR.out.c4 6 rfl;obtain ⟨f15gr0,f15gr1,f15gr2,f15gr3⟩:=HR.out.f4 6 rfl)
      | ((with_reducible refine gate_store (t:=29) (p:=2) rfl ?_);refine stA HR 6 rfl [.int .i64 0,.string (⟨#[]⟩ : ByteArray),.int .i64 0,.slice none 0 0] rfl rfl rfl rfl (by first | (go_simp;done) | (go_simp;rfl)) ?_;clear HR;intro w316 HR;clear c15gr0 c15gr1 c15gr2 c15gr3 f15gr0 f15gr1 f15gr2 f15gr3))
     refine bodyPost_ret (results_ct rfl _ _ gr 29 #[.int .i64 0,.string (⟨#[]⟩ : ByteArray),.int .i64 0,.slice none 0 0] (0,0) _ rfl (HR.out.has 6 rfl).2 Tryd.underlying29 rfl (by kernel_rfl)) rfl ?_
     exact (show GRaw z29 false Q w _ _ from ⟨none,0,rfl,foot_nil _ _,HR.out.bel⟩)
    case true =>
     cases bc
     case true =>
      obtain ⟨c14g0,c14g1⟩:=HR.out.c2 5 rfl
      obtain ⟨c14go0,c14go1,c14go2,c14go3⟩:=HR.out.c4 0 rfl
      go_wp2_with (first
       | (go_at_call 86;have hc_:=(HR.out.pool_lit 8 1 rfl rfl (by decide) [r1,r2] 2 rfl (by decide) (lit2_ok (va:=.slice A51 r1.f3.length c51) (vb:=.slice A52 r2.f3.length c52) (by simp) (by simp))).poolC HP.out 8 rfl (A:=some ⟨gq,0,none⟩) (n:=2) (c:=2) (xs:=[r1,r2]) (by simp);(with_reducible refine (HO.out w314 _ hc_).mono ?_);rintro e_ w315 ⟨rfl,hb⟩;clear hc_;replace HR:=asd (HR.out.step hb);clear hb;clear c14g0 c14g1 c14go0 c14go1 c14go2 c14go3;obtain ⟨c15go0,c15go1,c15go2,c15go3⟩:=HR.out.c4 0 rfl;have c15gq0 : w315.cell? ⟨gq,0,none⟩ = some (.int .i64 r1.f0):=HR.out.cell 1 rfl 0 rfl;have c15gq1 : w315.cell? ⟨gq,1,none⟩ = some (.string r1.f1):=HR.out.cell 1 rfl 1 rfl;have c15gq2 : w315.cell? ⟨gq,2,none⟩ = some (.int .i64 r1.f2):=HR.out.cell 1 rfl 2 rfl;have c15gq3 : w315.cell? ⟨gq,3,none⟩ = some (.slice A51 r1.f3.length c51):=HR.out.cell 1 rfl 3 rfl;have c15gq4 : w315.cell? ⟨gq,4,none⟩ = some (.int .i64 r2.f0):=HR.out.cell 1 rfl 4 rfl;have c15gq5 : w315.cell? ⟨gq,5,none⟩ = some (.string r2.f1):=HR.out.cell 1 rfl 5 rfl;have c15gq6 : w315.cell? ⟨gq,6,none⟩ = some (.int .i64 r2.f2):=HR.out.cell 1 rfl 6 rfl;have c15gq7 : w315.cell? ⟨gq,7,none⟩ = some (.slice A52 r2.f3.length c52):=HR.out.cell 1 rfl 7 rfl)
       | (go_at_call 87;have hc_ : Kd.C k29 w315 A51 r1.f3.length r1.f3:=HR.out.poolC HP.out 8 rfl (c:=c51) (by simp);have hl_ : r1.f3.length ≤ c51:=(foot_F (A:=A51) (HR.out.footC HP.out 8 rfl (by simp))).1;(with_reducible refine (H7.out w315 A51 c51 hc_ hl_).mono ?_);rintro e_ w316 ⟨rfl,hb⟩;clear hc_ hl_;replace HR:=asd (HR.out.step hb);clear hb;clear c15go0 c15go1 c15go2 c15go3 c15gq0 c15gq1 c15gq2 c15gq3 c15gq4 c15gq5 c15gq6 c15gq7;obtain ⟨c16gr0,c16gr1,c16gr2,c16gr3⟩:=HR.out.c4 6 rfl;obtain ⟨f16gr0,f16gr1,f16gr2,f16gr3⟩:=HR.out.f4 6 rfl)
       | ((with_reducible refine gate_store (t:=29) (p:=2) rfl ?_);refine stA HR 6 rfl [.int .i64 0,.string (⟨#[]⟩ : ByteArray),.int .i64 0,.slice none 0 0] rfl rfl rfl rfl (by first | (go_simp;done) | (go_simp;rfl)) ?_;clear HR;intro w317 HR;clear c16gr0 c16gr1 c16gr2 c16gr3 f16gr0 f16gr1 f16gr2 f16gr3))
      refine bodyPost_ret (results_ct rfl _ _ gr 29 #[.int .i64 0,.string (⟨#[]⟩ : ByteArray),.int .i64 0,.slice none 0 0] (0,0) _ rfl (HR.out.has 6 rfl).2 Tryd.underlying29 rfl (by kernel_rfl)) rfl ?_
      exact (show GRaw z29 false Q w _ _ from ⟨none,0,rfl,foot_nil _ _,HR.out.bel⟩)
     case false =>
      obtain ⟨c14g0,c14g1⟩:=HR.out.c2 5 rfl
      obtain ⟨c14go0,c14go1,c14go2,c14go3⟩:=HR.out.c4 0 rfl
      go_wp2_with (first
       | (go_at_call 86;have hc_:=(HR.out.pool_lit 8 1 rfl rfl (by decide) [r1,r2] 2 rfl (by decide) (lit2_ok (va:=.slice A51 r1.f3.length c51) (vb:=.slice A52 r2.f3.length c52) (by simp) (by simp))).poolC HP.out 8 rfl (A:=some ⟨gq,0,none⟩) (n:=2) (c:=2) (xs:=[r1,r2]) (by simp);(with_reducible refine (HO.out w314 _ hc_).mono ?_);rintro e_ w315 ⟨rfl,hb⟩;clear hc_;replace HR:=asd (HR.out.step hb);clear hb;clear c14g0 c14g1 c14go0 c14go1 c14go2 c14go3;obtain ⟨c15go0,c15go1,c15go2,c15go3⟩:=HR.out.c4 0 rfl;have c15gq0 : w315.cell? ⟨gq,0,none⟩ = some (.int .i64 r1.f0):=HR.out.cell 1 rfl 0 rfl;have c15gq1 : w315.cell? ⟨gq,1,none⟩ = some (.string r1.f1):=HR.out.cell 1 rfl 1 rfl;have c15gq2 : w315.cell? ⟨gq,2,none⟩ = some (.int .i64 r1.f2):=HR.out.cell 1 rfl 2 rfl;have c15gq3 : w315.cell? ⟨gq,3,none⟩ = some (.slice A51 r1.f3.length c51):=HR.out.cell 1 rfl 3 rfl;have c15gq4 : w315.cell? ⟨gq,4,none⟩ = some (.int .i64 r2.f0):=HR.out.cell 1 rfl 4 rfl;have c15gq5 : w315.cell? ⟨gq,5,none⟩ = some (.string r2.f1):=HR.out.cell 1 rfl 5 rfl;have c15gq6 : w315.cell? ⟨gq,6,none⟩ = some (.int .i64 r2.f2):=HR.out.cell 1 rfl 6 rfl;have c15gq7 : w315.cell? ⟨gq,7,none⟩ = some (.slice A52 r2.f3.length c52):=HR.out.cell 1 rfl 7 rfl)
       | (go_at_call 87;have hc_ : Kd.C k29 w315 A51 r1.f3.length r1.f3:=HR.out.poolC HP.out 8 rfl (c:=c51) (by simp);have hl_ : r1.f3.length ≤ c51:=(foot_F (A:=A51) (HR.out.footC HP.out 8 rfl (by simp))).1;(with_reducible refine (H7.out w315 A51 c51 hc_ hl_).mono ?_);rintro e_ w316 ⟨rfl,hb⟩;clear hc_ hl_;replace HR:=asd (HR.out.step hb);clear hb;clear c15go0 c15go1 c15go2 c15go3 c15gq0 c15gq1 c15gq2 c15gq3 c15gq4 c15gq5 c15gq6 c15gq7;obtain ⟨c16go0,c16go1,c16go2,c16go3⟩:=HR.out.c4 0 rfl;obtain ⟨c16gr0,c16gr1,c16gr2,c16gr3⟩:=HR.out.c4 6 rfl;obtain ⟨f16gr0,f16gr1,f16gr2,f16gr3⟩:=HR.out.f4 6 rfl)
       | ((with_reducible refine gate_store (t:=29) (p:=2) rfl ?_);refine stA HR 6 rfl [.int .i64 4,.string (⟨#[58,45]⟩ : ByteArray),.int .i64 0,.slice (some ⟨gq,0,none⟩) 2 2] rfl rfl rfl rfl (by first | (go_simp;done) | (go_simp;rfl)) ?_;clear HR;intro w317 HR;clear c16go0 c16go1 c16go2 c16go3 c16gr0 c16gr1 c16gr2 c16gr3 f16gr0 f16gr1 f16gr2 f16gr3))
      refine bodyPost_ret (results_ct rfl _ _ gr 29 #[.int .i64 4,.string (⟨#[58,45]⟩ : ByteArray),.int .i64 0,.slice (some ⟨gq,0,none⟩) 2 2] (0,0) _ rfl (HR.out.has 6 rfl).2 Tryd.underlying29 rfl (by kernel_rfl)) rfl ?_
      exact (show GRaw (twoT NECK r1 r2) true Q w _ _ from ⟨some ⟨gq,0,none⟩,2,rfl,(HR.out.pool_lit 8 1 rfl rfl (by decide) [r1,r2] 2 rfl (by decide) (lit2_ok (va:=.slice A51 r1.f3.length c51) (vb:=.slice A52 r2.f3.length c52) (by simp) (by simp))).pool_out0 (fun _ h => h) 8 rfl _ (List.mem_cons_self),HR.out.bel⟩)
end
section
set_option linter.unusedSectionVars false
variable [fk_laws_szTerm] [fk_laws_eqTerm] [fk_spec_l34Term] [fk_strconv_Itoa]
set_option maxHeartbeats 16000000 in
set_option maxRecDepth 100000 in
theorem spec_gram (t : S29) (A : Option Addr) (c : Nat) (x : S29) (b : Bool) (w : World) (ht : FootRow w (fun _ => True) (.slice A t.f3.length c,t.f3))
  (h1 : ∀ W (Q : Nat → Prop),Below w.heap.size w W → FootRow W Q (.slice A t.f3.length c,t.f3) → Calls Tryd.prog 74 #[.agg #[.int .i64 t.f0,.string t.f1,.int .i64 t.f2,.slice A t.f3.length c]] W fun e W' => GRaw x b Q W e W')
  (h2 : ∀ W (A : Option Addr) (c : Nat),Kd.C k29 W A x.f3.length x.f3 → x.f3.length ≤ c → Calls Tryd.prog 75 #[.agg #[.int .i64 x.f0,.string x.f1,.int .i64 x.f2,.slice A x.f3.length c]] W fun e W' => ∃ A c,e = .returned (.agg #[.int .i64 x.f0,.string x.f1,.int .i64 x.f2,.slice A x.f3.length c]) ∧ (As.vrow k29 29 (.slice A x.f3.length c) x.f3).M W.heap.size W' (fun k => W.heap.size ≤ k) ∧ Below W.heap.size W W') :
  Calls Tryd.prog 39 #[.agg #[.int .i64 t.f0,.string t.f1,.int .i64 t.f2,.slice A t.f3.length c]] w fun e w' => ∃ A c,e = .returned (.tuple #[.agg #[.int .i64 x.f0,.string x.f1,.int .i64 x.f2,.slice A x.f3.length c],.bool b]) ∧ (As.vrow k29 29 (.slice A x.f3.length c) x.f3).M w.heap.size w' (fun k => w.heap.size ≤ k) ∧ Below w.heap.size w w':=by
 have HR:=asd ((run_law w).push (As.pool w (fun _ => True) [(.slice A t.f3.length c,t.f3)]) (Below.refl _ _) (pool_in (by intro z hz;obtain rfl:=List.mem_singleton.1 hz;exact ht)))
 have HP:=asd (show ∀ k : Nat,True → ¬ False from fun _ _ h => h)
 have H1:=asd h1
 have H2:=asd h2
 clear h1 h2 ht
 go_enter Tryd.func39,Tryd.ntmps39
 go_wp2_with (first
  | ((with_reducible refine gate_dst (N:=1) rfl ?_);refine nb HR 1 (cs:=#[.int .i64 t.f0,.string t.f1,.int .i64 t.f2,.slice A t.f3.length c]) (t:=29) rfl rfl (by first | (go_simp;done) | (go_simp;rfl)) ?_;clear HR;intro ga w1 HR)
  | ((with_reducible refine gate_dst (N:=2) rfl ?_);refine nb HR 2 (cs:=#[.int .i64 0,.string (⟨#[]⟩ : ByteArray),.int .i64 0,.slice none 0 0]) (t:=29) rfl rfl (by first | (go_simp;done) | (go_simp;rfl)) ?_;clear HR;intro gr w2 HR;obtain ⟨c2ga0,c2ga1,c2ga2,c2ga3⟩:=HR.out.c4 1 rfl)
  | (go_at_call 74;obtain ⟨Q_,hQ_,hput_⟩:=HR.out.ask0 HP.out 2 rfl;(with_reducible refine (H1.out w2 Q_ HR.out.bel (hQ_ _ (by simp))).mono ?_);rintro e_ w3 hq_;unfold GRaw at hq_;obtain ⟨A1,c1,rfl,hr_,hb_⟩:=hq_;replace HR:=asd (hput_ _ [(.slice A1 x.f3.length c1,x.f3)] hb_ (by intro z hz;obtain rfl:=List.mem_singleton.1 hz;exact hr_));clear hQ_ hput_ hb_ Q_ hr_;clear c2ga0 c2ga1 c2ga2 c2ga3)
  | ((with_reducible refine gate_dst (N:=4) rfl ?_);refine nb HR 4 (cs:=#[.int .i64 0,.string (⟨#[]⟩ : ByteArray),.int .i64 0,.slice none 0 0]) (t:=29) rfl rfl (by first | (go_simp;done) | (go_simp;rfl)) ?_;clear HR;intro gx w4 HR;obtain ⟨c4gx0,c4gx1,c4gx2,c4gx3⟩:=HR.out.c4 0 rfl;obtain ⟨f4gx0,f4gx1,f4gx2,f4gx3⟩:=HR.out.f4 0 rfl)
  | ((with_reducible refine gate_store (t:=29) (p:=4) rfl ?_);refine stA HR 0 rfl [.int .i64 x.f0,.string x.f1,.int .i64 x.f2,.slice A1 x.f3.length c1] rfl rfl rfl rfl (by first | (go_simp;done) | (go_simp;rfl)) ?_;clear HR;intro w5 HR;clear c4gx0 c4gx1 c4gx2 c4gx3 f4gx0 f4gx1 f4gx2 f4gx3;obtain ⟨c5gx0,c5gx1,c5gx2,c5gx3⟩:=HR.out.c4 0 rfl)
  | (go_at_call 75;have hc_ : Kd.C k29 w5 A1 x.f3.length x.f3:=HR.out.poolC HP.out 3 rfl (c:=c1) (by simp);have hl_ : x.f3.length ≤ c1:=(foot_F (A:=A1) (HR.out.footC HP.out 3 rfl (by simp))).1;(with_reducible refine (H2.out w5 A1 c1 hc_ hl_).mono ?_);rintro e w6 ⟨A2,c2,rfl,ho,hb⟩;clear hc_ hl_;replace HR:=asd (HR.out.push _ hb ho);clear hb ho;clear c5gx0 c5gx1 c5gx2 c5gx3;obtain ⟨c6gr0,c6gr1,c6gr2,c6gr3⟩:=HR.out.c4 2 rfl;obtain ⟨f6gr0,f6gr1,f6gr2,f6gr3⟩:=HR.out.f4 2 rfl)
  | ((with_reducible refine gate_store (t:=29) (p:=2) rfl ?_);refine stA HR 2 rfl [.int .i64 x.f0,.string x.f1,.int .i64 x.f2,.slice A2 x.f3.length c2] rfl rfl rfl rfl (by first | (go_simp;done) | (go_simp;rfl)) ?_;clear HR;intro w7 HR;clear c6gr0 c6gr1 c6gr2 c6gr3 f6gr0 f6gr1 f6gr2 f6gr3))
 refine bodyPost_ret (results_ct rfl _ _ gr 29 #[.int .i64 x.f0,.string x.f1,.int .i64 x.f2,.slice A2 x.f3.length c2] (0,0) _ rfl (HR.out.has 2 rfl).2 Tryd.underlying29 rfl (by kernel_rfl)) rfl ?_
 exact ⟨A2,c2,rfl,As.mono _ (fun k hk => hk.elim False.elim id) (HR.out.one 0 rfl),HR.out.bel⟩
end
end Go.Proofs.YtojedbogbodkiaaDoor.KGr
