/- Of this claim's own making;what nothing names is struck (fewall.py). -/
import Derived.Test.YtojedbogbodkiaaDoorKGrx8
import Derived.Test.YtojedbogbodkiaaDoorGrC
import Derived.Test.YtojedbogbodkiaaDoorKS
set_option linter.unusedVariables false
set_option linter.unusedSimpArgs false
namespace Go.Proofs.YtojedbogbodkiaaDoor.KGr
open Go.RowKit Go.Proofs.YtojedbogbodkiaaDoorW.PrintWords Go.Proofs.YtojedbogbodkiaaDoorW.PrintLast Go.Proofs.YtojedbogbodkiaaDoorW.PrintMore
section
set_option linter.unusedSectionVars false
variable [fk_laws_szTerm] [fk_laws_eqTerm] [fk_spec_l34Term] [fk_strconv_Itoa]
def implb4_T : Bool × List (List Nat × List Nat):=(true,[([],[]),([],[]),([1],[1]),([2],[2]),([3],[3]),([],[]),([],[]),([0,4,5,6],[0,4,5,6]),([],[]),([8,7,7,0,1,2,3,4,5,6,7,8],[7,8])])
def implb4_B : List Nat:=[0,0,2,6,14,0,0,127,0,511]
theorem implb4_tab : rtab .any (opsOf Tryd.f79 4) = implb4_T:=by kernel_rfl
theorem implb4_bits : waitsOk implb4_T.2 implb4_B = true:=by kernel_rfl
def implb5_T : Bool × List (List Nat × List Nat):=(true,[([],[]),([],[]),([],[]),([2],[2]),([3],[3]),([4],[4]),([],[]),([],[]),([1,5,6,7],[1,5,6,7]),([0,8],[0,8]),([9,8],[9]),([10,10,0,1,2,3,4,5,6,7,8,9,10],[10])])
def implb5_B : List Nat:=[0,0,0,4,12,28,0,0,254,511,1023,2047]
theorem implb5_tab : rtab .any (opsOf Tryd.f79 5) = implb5_T:=by kernel_rfl
theorem implb5_bits : waitsOk implb5_T.2 implb5_B = true:=by kernel_rfl
def implb7_T : Bool × List (List Nat × List Nat):=(true,[([],[]),([],[]),([1],[1]),([2],[2]),([3],[3]),([],[]),([],[]),([0,4,5,6],[0,4,5,6]),([],[]),([8,7,7,0,1,2,3,4,5,6,7,8],[7,8])])
def implb7_B : List Nat:=[0,0,2,6,14,0,0,127,0,511]
theorem implb7_tab : rtab .any (opsOf Tryd.f79 7) = implb7_T:=by kernel_rfl
theorem implb7_bits : waitsOk implb7_T.2 implb7_B = true:=by kernel_rfl
def implb8_T : Bool × List (List Nat × List Nat):=(true,[([],[]),([],[]),([],[]),([2],[2]),([3],[3]),([4],[4]),([],[]),([],[]),([1,5,6,7],[1,5,6,7]),([0,8],[0,8]),([9,8],[9]),([10,10,0,1,2,3,4,5,6,7,8,9,10],[10])])
def implb8_B : List Nat:=[0,0,0,4,12,28,0,0,254,511,1023,2047]
theorem implb8_tab : rtab .any (opsOf Tryd.f79 8) = implb8_T:=by kernel_rfl
theorem implb8_bits : waitsOk implb8_T.2 implb8_B = true:=by kernel_rfl
def implb11_T : Bool × List (List Nat × List Nat):=(true,[([],[]),([],[]),([1],[1]),([2],[2]),([3],[3]),([],[]),([],[]),([0,4,5,6],[0,4,5,6]),([7],[7]),([8,7],[8]),([],[]),([],[]),([10,11],[10,11]),([12,9],[12]),([9,13],[9,13]),([14,13],[14]),([15,15,0,1,2,3,4,5,6,7,8,9,10,11,12,13,14,15],[15])])
def implb11_B : List Nat:=[0,0,2,6,14,0,0,127,255,511,0,0,3072,8191,16383,32767,65535]
theorem implb11_tab : rtab .any (opsOf Tryd.f79 11) = implb11_T:=by kernel_rfl
theorem implb11_bits : waitsOk implb11_T.2 implb11_B = true:=by kernel_rfl
def implb13_T : Bool × List (List Nat × List Nat):=(true,[([],[]),([0],[0]),([1],[1]),([2],[2]),([],[]),([],[]),([4,5],[4,5]),([6],[6]),([3,7],[3,7]),([8,7],[8]),([9,9,0,1,2,3,4,5,6,7,8,9],[9])])
def implb13_B : List Nat:=[0,1,3,7,0,0,48,112,255,511,1023]
theorem implb13_tab : rtab .any (opsOf Tryd.f79 13) = implb13_T:=by kernel_rfl
theorem implb13_bits : waitsOk implb13_T.2 implb13_B = true:=by kernel_rfl
set_option maxHeartbeats 16000000 in
set_option maxRecDepth 100000 in
theorem impl_b_and (a0 : Int) (a1 : ByteArray) (a2 : Int) (p q : S29) (x y n : Int) (b : Bool) (r0 : S29) (rb : Bool) (r1 : S29) (n1 : Int) (b1 : Bool) (r2 : S29) (n2 : Int) (b2 : Bool) (w u : World) (g : Nat) (P : Nat → Prop) (ad : Addr) (c : Nat) (tb : Tb w) (old : Below w.heap.size w u) (hg : w.heap.size ≤ g) (hP : ¬ P g) (hb : u.heap[g]? = some (.cells #[.int .i64 n,.bool b] 92 (0,0))) (ht : FootRow u P (.slice (some ad) 2 c,[p,q]))
  (hrow : RowC 103 (.slice (some ad) 2 c) (.agg #[.int .i64 a0,.string a1,.int .i64 a2,.slice (some ad) 2 c]) [p,q] (.agg #[.int .i64 1,.string (⟨#[]⟩ : ByteArray),.int .i64 y,.slice none 0 0]) r0 rb) (h1 : IsC 61 (some ad) 2 [p,q] (.agg #[.int .i64 a0,.string a1,.int .i64 a2,.slice (some ad) 2 c]) (⟨#[44]⟩ : ByteArray) 2 true) (ih1 : BodyOk 79 92 p x (newV n) (nxt n) b r1 n1 b1) (ih2 : BodyOk 79 92 q (newV n) y n1 b1 r2 n2 b2) :
  Calls Tryd.prog 79 #[.pointer (some ⟨g,0,none⟩),.agg #[.int .i64 a0,.string a1,.int .i64 a2,.slice (some ad) 2 c],.agg #[.int .i64 1,.string (⟨#[]⟩ : ByteArray),.int .i64 x,.slice none 0 0],.agg #[.int .i64 1,.string (⟨#[]⟩ : ByteArray),.int .i64 y,.slice none 0 0]] u fun e u' => BPost 92 w u g P (twoT COMMA r1 r2) n2 b2 e u':=by
 obtain ⟨A3,c3,A7,c7,hn,hx,hy,hfx,hfy⟩:=kid2 ht
 have HR:=asd ((run_fun (a:=As.box g 92 #[.int .i64 n,.bool b]) (ok:=fun k => k = g) old (fun k hk => hk ▸ hg) ⟨rfl,hb⟩).push (As.pool u P [(.slice none 0 0,[]),(.slice (some ad) 2 c,[p,q]),(.slice A3 p.f3.length c3,p.f3),(.slice A7 q.f3.length c7,q.f3)]) (Below.refl _ _) (pool_in (by intro z hz;simp only [List.mem_cons,List.not_mem_nil,or_false] at hz;rcases hz with rfl|rfl|rfl|rfl <;> first|exact foot_nil _ _|exact ht|exact hfx|exact hfy)))
 have HP:=asd (show ∀ k,P k → ¬ (k = g) from fun k hk e => hP (e ▸ hk))
 have HG:=asd hg
 have HTB:=asd tb
 have HNP:=asd (show ¬ (ad.block = g) from fun e => hP (e ▸ hn))
 have HX:=asd hx
 have HY:=asd hy
 have HROW:=asd hrow
 have H1:=asd h1
 have IH1:=asd ih1
 have IH2:=asd ih2
 clear tb old hg hP hb ht hn hfx hfy hx hy hrow h1 ih1 ih2
 go_enter Tryd.func79,Tryd.ntmps79
 go_wp2_with (first
  | ((with_reducible refine gate_dst (N:=5) rfl ?_);refine nb HR 5 (cs:=#[.int .i64 a0,.string a1,.int .i64 a2,.slice (some ad) 2 c]) (t:=29) rfl rfl (by first | (go_simp;done) | (go_simp;rfl)) ?_;clear HR;intro ga w1 HR)
  | ((with_reducible refine gate_dst (N:=6) rfl ?_);refine nb HR 6 (cs:=#[.int .i64 1,.string (⟨#[]⟩ : ByteArray),.int .i64 x,.slice none 0 0]) (t:=29) rfl rfl (by first | (go_simp;done) | (go_simp;rfl)) ?_;clear HR;intro gx w2 HR)
  | ((with_reducible refine gate_dst (N:=7) rfl ?_);refine nb HR 7 (cs:=#[.int .i64 1,.string (⟨#[]⟩ : ByteArray),.int .i64 y,.slice none 0 0]) (t:=29) rfl rfl (by first | (go_simp;done) | (go_simp;rfl)) ?_;clear HR;intro gy w3 HR)
  | ((with_reducible refine gate_dst (N:=8) rfl ?_);refine nb HR 8 (cs:=#[.int .i64 0,.string (⟨#[]⟩ : ByteArray),.int .i64 0,.slice none 0 0]) (t:=29) rfl rfl (by first | (go_simp;done) | (go_simp;rfl)) ?_;clear HR;intro gr w4 HR;obtain ⟨c4ga0,c4ga1,c4ga2,c4ga3⟩:=HR.out.c4 3 rfl;obtain ⟨c4gy0,c4gy1,c4gy2,c4gy3⟩:=HR.out.c4 1 rfl)
  | (go_at_call 103;obtain ⟨Q_,hQ_,hput_⟩:=HR.out.ask0 HP.out 4 rfl;(with_reducible refine (HROW.out.go w4 Q_ (hQ_ _ (by simp))).mono ?_);rintro e_ w5 ⟨A50,c50,rfl,hr_,hb_⟩;replace HR:=asd (hput_ _ [(.slice A50 r0.f3.length c50,r0.f3)] hb_ (by intro z hz;obtain rfl:=List.mem_singleton.1 hz;exact hr_));clear hQ_ hput_ hb_ Q_ hr_;clear c4ga0 c4ga1 c4ga2 c4ga3 c4gy0 c4gy1 c4gy2 c4gy3)
  | ((with_reducible refine gate_dst (N:=9) rfl ?_);refine nb HR 9 (cs:=#[.int .i64 0,.string (⟨#[]⟩ : ByteArray),.int .i64 0,.slice none 0 0]) (t:=29) rfl rfl (by first | (go_simp;done) | (go_simp;rfl)) ?_;clear HR;intro gl w6 HR;obtain ⟨c6gl0,c6gl1,c6gl2,c6gl3⟩:=HR.out.c4 0 rfl;obtain ⟨f6gl0,f6gl1,f6gl2,f6gl3⟩:=HR.out.f4 0 rfl)
  | ((with_reducible refine gate_store (t:=29) (p:=9) rfl ?_);refine stA HR 0 rfl [.int .i64 r0.f0,.string r0.f1,.int .i64 r0.f2,.slice A50 r0.f3.length c50] rfl rfl rfl rfl (by first | (go_simp;done) | (go_simp;rfl)) ?_;clear HR;intro w7 HR;clear c6gl0 c6gl1 c6gl2 c6gl3 f6gl0 f6gl1 f6gl2 f6gl3;obtain ⟨c7ga0,c7ga1,c7ga2,c7ga3⟩:=HR.out.c4 4 rfl)
  | (go_at_call 61;have hc_ : Kd.C k29 w7 (some ad) 2 [p,q]:=HR.out.poolC HP.out 5 rfl (c:=c) (by simp);(with_reducible refine (H1.out.go w7 hc_).mono ?_);rintro e_ w8 ⟨rfl,hb⟩;clear hc_;replace HR:=asd (HR.out.step hb);clear hb;clear c7ga0 c7ga1 c7ga2 c7ga3)
  | (go_at_call 77;obtain ⟨Q_,hQg_,hbx_,hQ_,hput_⟩:=HR.out.ask HP.out 5 6 rfl rfl (by decide);(with_reducible refine (impl_fresh w w8 g n b HR.out.bel HG.out hbx_).mono ?_);rintro e_ w9 ⟨rfl,hc_,hb_,hk_⟩;replace HR:=asd (hput_ _ _ [] hb_ hk_ hc_ (by intro z hz;exact absurd hz List.not_mem_nil));clear hQg_ hbx_ hQ_ hput_ hb_ hk_ hc_ Q_)
  | ((with_reducible refine gate_dst (N:=11) rfl ?_);refine nb HR 11 (cs:=#[.int .i64 0,.string (⟨#[]⟩ : ByteArray),.int .i64 0,.slice none 0 0]) (t:=29) rfl rfl (by first | (go_simp;done) | (go_simp;rfl)) ?_;clear HR;intro gz w10 HR;obtain ⟨c10gz0,c10gz1,c10gz2,c10gz3⟩:=HR.out.c4 0 rfl;obtain ⟨f10gz0,f10gz1,f10gz2,f10gz3⟩:=HR.out.f4 0 rfl)
  | ((with_reducible refine gate_store (t:=29) (p:=11) rfl ?_);refine stA HR 0 rfl [.int .i64 1,.string (⟨#[]⟩ : ByteArray),.int .i64 (newV n),.slice none 0 0] rfl rfl rfl rfl (by first | (go_simp;done) | (go_simp;rfl)) ?_;clear HR;intro w11 HR;clear c10gz0 c10gz1 c10gz2 c10gz3 f10gz0 f10gz1 f10gz2 f10gz3))
 replace HR:=asd (HR.out.drew)
 refine start_ (n:=10) (S:=fun w' => C4 w' ga (.int .i64 a0) (.string a1) (.int .i64 a2) (.slice (some ad) 2 c) ∧ C4 w' gx (.int .i64 1) (.string (⟨#[]⟩ : ByteArray)) (.int .i64 x) (.slice none 0 0) ∧ C4 w' gz (.int .i64 1) (.string (⟨#[]⟩ : ByteArray)) (.int .i64 (newV n)) (.slice none 0 0) ∧ D4 w' ad (.int .i64 p.f0) (.string p.f1) (.int .i64 p.f2) (.slice A3 p.f3.length c3)) (ds:=[9]) (bl 10 0) (by kernel_rfl) rfl rfl ⟨HR.out.c4 5 rfl,HR.out.c4 4 rfl,HR.out.c4 0 rfl,HR.out.d4 HX.out HNP.out⟩ (fun hHeld => ?_);refine with_tabW implb4_tab implb4_bits (fun HT_ HW_ => ?_)
 generalize w11.drew = w12 at HR hHeld ⊢
 refine pu 0 26 (bl 10 1) HT_ (by kernel_rfl) rfl rfl (by rfl) (fun _ _ _ h => h) (by intro w';go_simp;with_reducible rfl) (by simp only [Act.put,sa,s0,s1];rfl) ?_
 refine pu 1 27 (bl 10 3) HT_ (by kernel_rfl) rfl rfl (by rfl) (fun _ _ _ h => h) (by intro w';go_simp;with_reducible rfl) (by simp only [Act.put,sa,s0,s1];rfl) ?_
 refine tk 2 28 (bl 10 7) HT_ HW_ (by kernel_rfl) rfl rfl (by rfl) (fun _ _ _ h => h) hHeld (by rintro w' ⟨⟨s0,s1,s2,s3⟩,⟨s4,s5,s6,s7⟩,⟨s8,s9,s10,s11⟩,⟨s12,s13,s14,s15⟩⟩;go_simp;with_reducible rfl) (by simp only [Act.put,sa,s0,s1];rfl) ?_
 refine pu 3 29 (bl 10 15) HT_ (by kernel_rfl) rfl rfl (by rfl) (fun _ _ _ h => h) (by intro w';go_simp;with_reducible rfl) (by simp only [Act.put,sa,s0,s1];rfl) ?_
 refine tk 4 30 (bl 10 31) HT_ HW_ (by kernel_rfl) rfl rfl (by rfl) (fun _ _ _ h => h) hHeld (by rintro w' ⟨⟨s0,s1,s2,s3⟩,⟨s4,s5,s6,s7⟩,⟨s8,s9,s10,s11⟩,⟨s12,s13,s14,s15⟩⟩;go_simp;with_reducible rfl) (by simp only [Act.put,sa,s0,s1];rfl) ?_
 refine tk 5 31 (bl 10 63) HT_ HW_ (by kernel_rfl) rfl rfl (by rfl) (fun _ _ _ h => h) hHeld (by rintro w' ⟨⟨s0,s1,s2,s3⟩,⟨s4,s5,s6,s7⟩,⟨s8,s9,s10,s11⟩,⟨s12,s13,s14,s15⟩⟩;go_simp;with_reducible rfl) (by simp only [Act.put,sa,s0,s1];rfl) ?_
 refine tk 6 32 (bl 10 127) HT_ HW_ (by kernel_rfl) rfl rfl (by rfl) (fun _ _ _ h => h) hHeld (by rintro w' ⟨⟨s0,s1,s2,s3⟩,⟨s4,s5,s6,s7⟩,⟨s8,s9,s10,s11⟩,⟨s12,s13,s14,s15⟩⟩;go_simp;with_reducible rfl) (by simp only [Act.put,sa,s0,s1];rfl) ?_
 refine join_ (σ:=Option Addr × Nat × Nat) 1 (bl 10 511) (fun s => let ⟨A51,c51,gf⟩:=s;[(33,.agg #[.int .i64 r1.f0,.string r1.f1,.int .i64 r1.f2,.slice A51 r1.f3.length c51]),(12,.pointer (some ⟨gf,0,none⟩))]) (fun s w' => let ⟨A51,c51,gf⟩:=s;Run w u (fun k => k = g) [As.box gf 29 #[.int .i64 0,.string (⟨#[]⟩ : ByteArray),.int .i64 0,.slice none 0 0],As.box gz 29 #[.int .i64 1,.string (⟨#[]⟩ : ByteArray),.int .i64 (newV n),.slice none 0 0],As.box gl 29 #[.int .i64 r0.f0,.string r0.f1,.int .i64 r0.f2,.slice A50 r0.f3.length c50],As.box gr 29 #[.int .i64 0,.string (⟨#[]⟩ : ByteArray),.int .i64 0,.slice none 0 0],As.box gy 29 #[.int .i64 1,.string (⟨#[]⟩ : ByteArray),.int .i64 y,.slice none 0 0],As.box gx 29 #[.int .i64 1,.string (⟨#[]⟩ : ByteArray),.int .i64 x,.slice none 0 0],As.box ga 29 #[.int .i64 a0,.string a1,.int .i64 a2,.slice (some ad) 2 c],As.pool u P ([(.slice A51 r1.f3.length c51,r1.f3)] ++ ([] ++ ([(.slice A50 r0.f3.length c50,r0.f3)] ++ [(.slice none 0 0,[]),(.slice (some ad) 2 c,[p,q]),(.slice A3 p.f3.length c3,p.f3),(.slice A7 q.f3.length c7,q.f3)]))),As.box g 92 #[.int .i64 n1,.bool b1]] w') ?_ ?_
 rotate_left
 ·intro hCont
  refine tw 7 8 (some 33) (some 12) (bl 10 255) (bl 10 383) HT_ (by kernel_rfl) rfl rfl rfl rfl (by decide) (by decide) ?_ ?_
  ·skip
   obtain ⟨Q_,hQg_,hbx_,hQ_,hput_⟩:=HR.out.ask HP.out 6 7 rfl rfl (by decide)
   refine clS Tryd.func79 (by kernel_rfl) rfl #[.pointer (some ⟨g,0,none⟩),.agg #[.int .i64 p.f0,.string p.f1,.int .i64 p.f2,.slice A3 p.f3.length c3],.agg #[.int .i64 1,.string (⟨#[]⟩ : ByteArray),.int .i64 x,.slice none 0 0],.agg #[.int .i64 1,.string (⟨#[]⟩ : ByteArray),.int .i64 (newV n),.slice none 0 0]] (by rfl) rfl rfl (by (try simp only [List.map_toArray,List.map_cons,List.map_nil]);first|done|rfl) ((IH1.out.go w w12 g Q_ A3 c3 HTB.out HR.out.bel HG.out hQg_ hbx_ (hQ_ _ (by simp))).mono ?_)
   rintro e_ w13 hq_
   unfold BPost at hq_
   obtain ⟨A51,c51,rfl,hr_,hc_,hb_,hk_⟩:=hq_
   replace HR:=asd (hput_ _ _ [(.slice A51 r1.f3.length c51,r1.f3)] hb_ hk_ hc_ (by intro z hz;obtain rfl:=List.mem_singleton.1 hz;exact hr_))
   clear hQg_ hbx_ hQ_ hput_ hr_ hc_ hb_ hk_ Q_
   refine ⟨_,rfl,⟨HR.out.c4 5 rfl,HR.out.c4 4 rfl,HR.out.c4 0 rfl,HR.out.d4 HX.out HNP.out⟩,fun hHeld => ?_⟩
   refine nm (by simp only [Act.put,sa,s0,s1];rfl) ?_
   refine on 8 (some 12) (bl 10 511) HT_ (by kernel_rfl) rfl rfl (by decide) ?_
   refine nbS HR 12 (cs:=#[.int .i64 0,.string (⟨#[]⟩ : ByteArray),.int .i64 0,.slice none 0 0]) (t:=29) (by rfl) rfl (by first|(go_simp;done)|(go_simp;rfl)) ?_
   clear HR;intro gf w14 HR
   refine ⟨⟨HR.out.c4 6 rfl,HR.out.c4 5 rfl,HR.out.c4 1 rfl,HR.out.d4 HX.out HNP.out⟩,fun hHeld => ?_⟩
   refine nm (by simp only [Act.put,sa,s0,s1];rfl) ?_
   exact nm (by simp only [putAll,Act.put,sa,s0,s1]) (hCont (A51,c51,gf) _ HR.out)
  ·skip
   refine nbS HR 12 (cs:=#[.int .i64 0,.string (⟨#[]⟩ : ByteArray),.int .i64 0,.slice none 0 0]) (t:=29) (by rfl) rfl (by first|(go_simp;done)|(go_simp;rfl)) ?_
   clear HR;intro gf w13 HR
   refine ⟨⟨HR.out.c4 6 rfl,HR.out.c4 5 rfl,HR.out.c4 1 rfl,HR.out.d4 HX.out HNP.out⟩,fun hHeld => ?_⟩
   refine nm (by simp only [Act.put,sa,s0,s1];rfl) ?_
   refine on 7 (some 33) (bl 10 511) HT_ (by kernel_rfl) rfl rfl (by decide) ?_
   obtain ⟨Q_,hQg_,hbx_,hQ_,hput_⟩:=HR.out.ask HP.out 7 8 rfl rfl (by decide)
   refine clS Tryd.func79 (by kernel_rfl) rfl #[.pointer (some ⟨g,0,none⟩),.agg #[.int .i64 p.f0,.string p.f1,.int .i64 p.f2,.slice A3 p.f3.length c3],.agg #[.int .i64 1,.string (⟨#[]⟩ : ByteArray),.int .i64 x,.slice none 0 0],.agg #[.int .i64 1,.string (⟨#[]⟩ : ByteArray),.int .i64 (newV n),.slice none 0 0]] (by rfl) rfl rfl (by (try simp only [List.map_toArray,List.map_cons,List.map_nil]);first|done|rfl) ((IH1.out.go w w13 g Q_ A3 c3 HTB.out HR.out.bel HG.out hQg_ hbx_ (hQ_ _ (by simp))).mono ?_)
   rintro e_ w14 hq_
   unfold BPost at hq_
   obtain ⟨A51,c51,rfl,hr_,hc_,hb_,hk_⟩:=hq_
   replace HR:=asd (hput_ _ _ [(.slice A51 r1.f3.length c51,r1.f3)] hb_ hk_ hc_ (by intro z hz;obtain rfl:=List.mem_singleton.1 hz;exact hr_))
   clear hQg_ hbx_ hQ_ hput_ hr_ hc_ hb_ hk_ Q_
   refine ⟨_,rfl,⟨HR.out.c4 6 rfl,HR.out.c4 5 rfl,HR.out.c4 1 rfl,HR.out.d4 HX.out HNP.out⟩,fun hHeld => ?_⟩
   refine nm (by simp only [Act.put,sa,s0,s1];rfl) ?_
   exact nm (by simp only [putAll,Act.put,sa,s0,s1]) (hCont (A51,c51,gf) _ HR.out)
 rintro ⟨A51,c51,gf⟩ w15 hR_
 clear HR;have HR:=asd hR_;clear hR_;dsimp only at HR
 refine nm (by simp only [putAll,Act.put,sa,s0,s1];rfl) ?_
 obtain ⟨hz0_,hz1_,hz2_,hz3_⟩:=HR.out.c4 0 rfl;obtain ⟨fz0_,fz1_,fz2_,fz3_⟩:=HR.out.f4 0 rfl
 refine lsA HR 0 9 (bl 10 1023) HT_ (by kernel_rfl) rfl rfl (by decide) rfl [.int .i64 r1.f0,.string r1.f1,.int .i64 r1.f2,.slice A51 r1.f3.length c51] rfl (by rfl) (by first|(go_simp;done)|(go_simp;rfl)) ?_
 clear HR hz0_ hz1_ hz2_ hz3_ fz0_ fz1_ fz2_ fz3_;intro w16 HR
 refine done_ (done_of HT_.out (by kernel_rfl)) ?_
 go_wp2_with fail
 replace HR:=asd (HR.out.drew)
 refine start_ (n:=12) (S:=fun w' => C4 w' gf (.int .i64 r1.f0) (.string r1.f1) (.int .i64 r1.f2) (.slice A51 r1.f3.length c51) ∧ C4 w' ga (.int .i64 a0) (.string a1) (.int .i64 a2) (.slice (some ad) 2 c) ∧ C4 w' gz (.int .i64 1) (.string (⟨#[]⟩ : ByteArray)) (.int .i64 (newV n)) (.slice none 0 0) ∧ C4 w' gy (.int .i64 1) (.string (⟨#[]⟩ : ByteArray)) (.int .i64 y) (.slice none 0 0) ∧ E4 w' ad (.int .i64 q.f0) (.string q.f1) (.int .i64 q.f2) (.slice A7 q.f3.length c7)) (ds:=[11]) (bl 12 0) (by kernel_rfl) rfl rfl ⟨HR.out.c4 0 rfl,HR.out.c4 6 rfl,HR.out.c4 1 rfl,HR.out.c4 4 rfl,HR.out.e4 HY.out HNP.out⟩ (fun hHeld => ?_);refine with_tabW implb5_tab implb5_bits (fun HT_ HW_ => ?_)
 generalize w16.drew = w17 at HR hHeld ⊢
 refine tk 0 34 (bl 12 1) HT_ HW_ (by kernel_rfl) rfl rfl (by rfl) (fun _ _ _ h => h) hHeld (by rintro w' ⟨⟨s0,s1,s2,s3⟩,⟨s4,s5,s6,s7⟩,⟨s8,s9,s10,s11⟩,⟨s12,s13,s14,s15⟩,⟨s16,s17,s18,s19⟩⟩;go_simp;with_reducible rfl) (by simp only [Act.put,sa,s0,s1];rfl) ?_
 refine pu 1 35 (bl 12 3) HT_ (by kernel_rfl) rfl rfl (by rfl) (fun _ _ _ h => h) (by intro w';go_simp;with_reducible rfl) (by simp only [Act.put,sa,s0,s1];rfl) ?_
 refine pu 2 36 (bl 12 7) HT_ (by kernel_rfl) rfl rfl (by rfl) (fun _ _ _ h => h) (by intro w';go_simp;with_reducible rfl) (by simp only [Act.put,sa,s0,s1];rfl) ?_
 refine tk 3 37 (bl 12 15) HT_ HW_ (by kernel_rfl) rfl rfl (by rfl) (fun _ _ _ h => h) hHeld (by rintro w' ⟨⟨s0,s1,s2,s3⟩,⟨s4,s5,s6,s7⟩,⟨s8,s9,s10,s11⟩,⟨s12,s13,s14,s15⟩,⟨s16,s17,s18,s19⟩⟩;go_simp;with_reducible rfl) (by simp only [Act.put,sa,s0,s1];rfl) ?_
 refine pu 4 38 (bl 12 31) HT_ (by kernel_rfl) rfl rfl (by rfl) (fun _ _ _ h => h) (by intro w';go_simp;with_reducible rfl) (by simp only [Act.put,sa,s0,s1];rfl) ?_
 refine tk 5 39 (bl 12 63) HT_ HW_ (by kernel_rfl) rfl rfl (by rfl) (fun _ _ _ h => h) hHeld (by rintro w' ⟨⟨s0,s1,s2,s3⟩,⟨s4,s5,s6,s7⟩,⟨s8,s9,s10,s11⟩,⟨s12,s13,s14,s15⟩,⟨s16,s17,s18,s19⟩⟩;go_simp;with_reducible rfl) (by simp only [Act.put,sa,s0,s1];rfl) ?_
 refine tk 6 40 (bl 12 127) HT_ HW_ (by kernel_rfl) rfl rfl (by rfl) (fun _ _ _ h => h) hHeld (by rintro w' ⟨⟨s0,s1,s2,s3⟩,⟨s4,s5,s6,s7⟩,⟨s8,s9,s10,s11⟩,⟨s12,s13,s14,s15⟩,⟨s16,s17,s18,s19⟩⟩;go_simp;with_reducible rfl) (by simp only [Act.put,sa,s0,s1];rfl) ?_
 refine tk 7 41 (bl 12 255) HT_ HW_ (by kernel_rfl) rfl rfl (by rfl) (fun _ _ _ h => h) hHeld (by rintro w' ⟨⟨s0,s1,s2,s3⟩,⟨s4,s5,s6,s7⟩,⟨s8,s9,s10,s11⟩,⟨s12,s13,s14,s15⟩,⟨s16,s17,s18,s19⟩⟩;go_simp;with_reducible rfl) (by simp only [Act.put,sa,s0,s1];rfl) ?_
 refine on 8 (some 42) (bl 12 511) HT_ (by kernel_rfl) rfl rfl (by decide) ?_
 obtain ⟨Q_,hQg_,hbx_,hQ_,hput_⟩:=HR.out.ask HP.out 7 8 rfl rfl (by decide)
 refine clS Tryd.func79 (by kernel_rfl) rfl #[.pointer (some ⟨g,0,none⟩),.agg #[.int .i64 q.f0,.string q.f1,.int .i64 q.f2,.slice A7 q.f3.length c7],.agg #[.int .i64 1,.string (⟨#[]⟩ : ByteArray),.int .i64 (newV n),.slice none 0 0],.agg #[.int .i64 1,.string (⟨#[]⟩ : ByteArray),.int .i64 y,.slice none 0 0]] (by rfl) rfl rfl (by (try simp only [List.map_toArray,List.map_cons,List.map_nil]);first|done|rfl) ((IH2.out.go w w17 g Q_ A7 c7 HTB.out HR.out.bel HG.out hQg_ hbx_ (hQ_ _ (by simp))).mono ?_)
 rintro e_ w18 hq_
 unfold BPost at hq_
 obtain ⟨A52,c52,rfl,hr_,hc_,hb_,hk_⟩:=hq_
 replace HR:=asd (hput_ _ _ [(.slice A52 r2.f3.length c52,r2.f3)] hb_ hk_ hc_ (by intro z hz;obtain rfl:=List.mem_singleton.1 hz;exact hr_))
 clear hQg_ hbx_ hQ_ hput_ hr_ hc_ hb_ hk_ Q_
 refine ⟨_,rfl,⟨HR.out.c4 0 rfl,HR.out.c4 6 rfl,HR.out.c4 1 rfl,HR.out.c4 4 rfl,HR.out.e4 HY.out HNP.out⟩,fun hHeld => ?_⟩
 refine nm (by simp only [Act.put,sa,s0,s1];rfl) ?_
 refine on 9 (some 43) (bl 12 1023) HT_ (by kernel_rfl) rfl rfl (by decide) ?_
 refine ltS HR 43 2 (cs:=#[.int .i64 r1.f0,.string r1.f1,.int .i64 r1.f2,.slice A51 r1.f3.length c51,.int .i64 r2.f0,.string r2.f1,.int .i64 r2.f2,.slice A52 r2.f3.length c52]) (t:=29) (by rfl) rfl (by first|(go_simp;done)|(go_simp;rfl)) ?_
 clear HR;intro gq w19 HR
 refine ⟨⟨HR.out.c4 1 rfl,HR.out.c4 7 rfl,HR.out.c4 2 rfl,HR.out.c4 5 rfl,HR.out.e4 HY.out HNP.out⟩,fun hHeld => ?_⟩
 refine nm (by simp only [Act.put,sa,s0,s1];rfl) ?_
 refine on 10 (some 44) (bl 12 2047) HT_ (by kernel_rfl) rfl rfl (by decide) ?_
 refine clS Tryd.func62 (by kernel_rfl) rfl #[.string (⟨#[44]⟩ : ByteArray),.slice (some ⟨gq,0,none⟩) 2 2] (by rfl) rfl rfl (by (try simp only [List.map_toArray,List.map_cons,List.map_nil]);first|done|rfl) ((struct_calls (⟨#[44]⟩ : ByteArray) (some ⟨gq,0,none⟩) 2 2 w19).mono ?_)
 rintro e_ w20 ⟨rfl,hb⟩
 replace HR:=asd (HR.out.step hb)
 clear hb
 refine ⟨_,rfl,⟨HR.out.c4 1 rfl,HR.out.c4 7 rfl,HR.out.c4 2 rfl,HR.out.c4 5 rfl,HR.out.e4 HY.out HNP.out⟩,fun hHeld => ?_⟩
 refine nm (by simp only [Act.put,sa,s0,s1];rfl) ?_
 obtain ⟨hz0_,hz1_,hz2_,hz3_⟩:=HR.out.c4 4 rfl;obtain ⟨fz0_,fz1_,fz2_,fz3_⟩:=HR.out.f4 4 rfl
 refine lsA HR 4 11 (bl 12 4095) HT_ (by kernel_rfl) rfl rfl (by decide) rfl [.int .i64 4,.string (⟨#[44]⟩ : ByteArray),.int .i64 0,.slice (some ⟨gq,0,none⟩) 2 2] rfl (by rfl) (by first|(go_simp;done)|(go_simp;rfl)) ?_
 clear HR hz0_ hz1_ hz2_ hz3_ fz0_ fz1_ fz2_ fz3_;intro w21 HR
 refine done_ (done_of HT_.out (by kernel_rfl)) ?_
 try go_wp2
 refine bodyPost_ret (results_cell_row rfl _ _ gr 29 #[.int .i64 4,.string (⟨#[44]⟩ : ByteArray),.int .i64 0,.slice (some ⟨gq,0,none⟩) 2 2] (0,0) _ rfl (HR.out.has 4 rfl).2 Tryd.underlying29 rfl (by kernel_rfl)) rfl ?_
 have HP0:=(HR.out).pool_lit 8 0 rfl rfl (by decide) [r1,r2] 2 rfl (by decide) (lit2_ok (va:=.slice A51 r1.f3.length c51) (vb:=.slice A52 r2.f3.length c52) (by simp) (by simp))
 exact ⟨some ⟨gq,0,none⟩,2,rfl,HP0.pool_out HP.out 8 rfl 9 rfl (by decide) (fun k hk => hk) _ (List.mem_cons_self),(HR.out.has 9 rfl).2,HR.out.below,HR.out.kept⟩
set_option maxHeartbeats 16000000 in
set_option maxRecDepth 100000 in
theorem impl_b_or (a0 : Int) (a1 : ByteArray) (a2 : Int) (p q : S29) (x y n : Int) (b : Bool) (r0 : S29) (rb : Bool) (r1 : S29) (n1 : Int) (b1 : Bool) (r2 : S29) (n2 : Int) (b2 : Bool) (w u : World) (g : Nat) (P : Nat → Prop) (ad : Addr) (c : Nat) (tb : Tb w) (old : Below w.heap.size w u) (hg : w.heap.size ≤ g) (hP : ¬ P g) (hb : u.heap[g]? = some (.cells #[.int .i64 n,.bool b] 92 (0,0))) (ht : FootRow u P (.slice (some ad) 2 c,[p,q]))
  (hrow : RowC 103 (.slice (some ad) 2 c) (.agg #[.int .i64 a0,.string a1,.int .i64 a2,.slice (some ad) 2 c]) [p,q] (.agg #[.int .i64 1,.string (⟨#[]⟩ : ByteArray),.int .i64 y,.slice none 0 0]) r0 rb) (h1 : IsC 61 (some ad) 2 [p,q] (.agg #[.int .i64 a0,.string a1,.int .i64 a2,.slice (some ad) 2 c]) (⟨#[44]⟩ : ByteArray) 2 false) (h2 : IsC 61 (some ad) 2 [p,q] (.agg #[.int .i64 a0,.string a1,.int .i64 a2,.slice (some ad) 2 c]) (⟨#[59]⟩ : ByteArray) 2 true) (ih1 : BodyOk 79 92 p x y n b r1 n1 b1) (ih2 : BodyOk 79 92 q x y n1 b1 r2 n2 b2) :
  Calls Tryd.prog 79 #[.pointer (some ⟨g,0,none⟩),.agg #[.int .i64 a0,.string a1,.int .i64 a2,.slice (some ad) 2 c],.agg #[.int .i64 1,.string (⟨#[]⟩ : ByteArray),.int .i64 x,.slice none 0 0],.agg #[.int .i64 1,.string (⟨#[]⟩ : ByteArray),.int .i64 y,.slice none 0 0]] u fun e u' => BPost 92 w u g P (twoT SEMI r1 r2) n2 b2 e u':=by
 obtain ⟨A3,c3,A7,c7,hn,hx,hy,hfx,hfy⟩:=kid2 ht
 have HR:=asd ((run_fun (a:=As.box g 92 #[.int .i64 n,.bool b]) (ok:=fun k => k = g) old (fun k hk => hk ▸ hg) ⟨rfl,hb⟩).push (As.pool u P [(.slice none 0 0,[]),(.slice (some ad) 2 c,[p,q]),(.slice A3 p.f3.length c3,p.f3),(.slice A7 q.f3.length c7,q.f3)]) (Below.refl _ _) (pool_in (by intro z hz;simp only [List.mem_cons,List.not_mem_nil,or_false] at hz;rcases hz with rfl|rfl|rfl|rfl <;> first|exact foot_nil _ _|exact ht|exact hfx|exact hfy)))
 have HP:=asd (show ∀ k,P k → ¬ (k = g) from fun k hk e => hP (e ▸ hk))
 have HG:=asd hg
 have HTB:=asd tb
 have HNP:=asd (show ¬ (ad.block = g) from fun e => hP (e ▸ hn))
 have HX:=asd hx
 have HY:=asd hy
 have HROW:=asd hrow
 have H1:=asd h1
 have H2:=asd h2
 have IH1:=asd ih1
 have IH2:=asd ih2
 clear tb old hg hP hb ht hn hfx hfy hx hy hrow h1 h2 ih1 ih2
 go_enter Tryd.func79,Tryd.ntmps79
 go_wp2_with (first
  | ((with_reducible refine gate_dst (N:=5) rfl ?_);refine nb HR 5 (cs:=#[.int .i64 a0,.string a1,.int .i64 a2,.slice (some ad) 2 c]) (t:=29) rfl rfl (by first | (go_simp;done) | (go_simp;rfl)) ?_;clear HR;intro ga w1 HR)
  | ((with_reducible refine gate_dst (N:=6) rfl ?_);refine nb HR 6 (cs:=#[.int .i64 1,.string (⟨#[]⟩ : ByteArray),.int .i64 x,.slice none 0 0]) (t:=29) rfl rfl (by first | (go_simp;done) | (go_simp;rfl)) ?_;clear HR;intro gx w2 HR)
  | ((with_reducible refine gate_dst (N:=7) rfl ?_);refine nb HR 7 (cs:=#[.int .i64 1,.string (⟨#[]⟩ : ByteArray),.int .i64 y,.slice none 0 0]) (t:=29) rfl rfl (by first | (go_simp;done) | (go_simp;rfl)) ?_;clear HR;intro gy w3 HR)
  | ((with_reducible refine gate_dst (N:=8) rfl ?_);refine nb HR 8 (cs:=#[.int .i64 0,.string (⟨#[]⟩ : ByteArray),.int .i64 0,.slice none 0 0]) (t:=29) rfl rfl (by first | (go_simp;done) | (go_simp;rfl)) ?_;clear HR;intro gr w4 HR;obtain ⟨c4ga0,c4ga1,c4ga2,c4ga3⟩:=HR.out.c4 3 rfl;obtain ⟨c4gy0,c4gy1,c4gy2,c4gy3⟩:=HR.out.c4 1 rfl)
  | (go_at_call 103;obtain ⟨Q_,hQ_,hput_⟩:=HR.out.ask0 HP.out 4 rfl;(with_reducible refine (HROW.out.go w4 Q_ (hQ_ _ (by simp))).mono ?_);rintro e_ w5 ⟨A50,c50,rfl,hr_,hb_⟩;replace HR:=asd (hput_ _ [(.slice A50 r0.f3.length c50,r0.f3)] hb_ (by intro z hz;obtain rfl:=List.mem_singleton.1 hz;exact hr_));clear hQ_ hput_ hb_ Q_ hr_;clear c4ga0 c4ga1 c4ga2 c4ga3 c4gy0 c4gy1 c4gy2 c4gy3)
  | ((with_reducible refine gate_dst (N:=9) rfl ?_);refine nb HR 9 (cs:=#[.int .i64 0,.string (⟨#[]⟩ : ByteArray),.int .i64 0,.slice none 0 0]) (t:=29) rfl rfl (by first | (go_simp;done) | (go_simp;rfl)) ?_;clear HR;intro gl w6 HR;obtain ⟨c6gl0,c6gl1,c6gl2,c6gl3⟩:=HR.out.c4 0 rfl;obtain ⟨f6gl0,f6gl1,f6gl2,f6gl3⟩:=HR.out.f4 0 rfl)
  | ((with_reducible refine gate_store (t:=29) (p:=9) rfl ?_);refine stA HR 0 rfl [.int .i64 r0.f0,.string r0.f1,.int .i64 r0.f2,.slice A50 r0.f3.length c50] rfl rfl rfl rfl (by first | (go_simp;done) | (go_simp;rfl)) ?_;clear HR;intro w7 HR;clear c6gl0 c6gl1 c6gl2 c6gl3 f6gl0 f6gl1 f6gl2 f6gl3;obtain ⟨c7ga0,c7ga1,c7ga2,c7ga3⟩:=HR.out.c4 4 rfl)
  | (go_at_call 61;have hc_ : Kd.C k29 w7 (some ad) 2 [p,q]:=HR.out.poolC HP.out 5 rfl (c:=c) (by simp);(with_reducible refine (H1.out.go w7 hc_).mono ?_);rintro e_ w8 ⟨rfl,hb⟩;clear hc_;replace HR:=asd (HR.out.step hb);clear hb;clear c7ga0 c7ga1 c7ga2 c7ga3;obtain ⟨c8ga0,c8ga1,c8ga2,c8ga3⟩:=HR.out.c4 4 rfl)
  | (go_at_call 61;have hc_ : Kd.C k29 w8 (some ad) 2 [p,q]:=HR.out.poolC HP.out 5 rfl (c:=c) (by simp);(with_reducible refine (H2.out.go w8 hc_).mono ?_);rintro e_ w9 ⟨rfl,hb⟩;clear hc_;replace HR:=asd (HR.out.step hb);clear hb;clear c8ga0 c8ga1 c8ga2 c8ga3))
 replace HR:=asd (HR.out.drew)
 refine start_ (n:=10) (S:=fun w' => C4 w' ga (.int .i64 a0) (.string a1) (.int .i64 a2) (.slice (some ad) 2 c) ∧ C4 w' gx (.int .i64 1) (.string (⟨#[]⟩ : ByteArray)) (.int .i64 x) (.slice none 0 0) ∧ C4 w' gy (.int .i64 1) (.string (⟨#[]⟩ : ByteArray)) (.int .i64 y) (.slice none 0 0) ∧ D4 w' ad (.int .i64 p.f0) (.string p.f1) (.int .i64 p.f2) (.slice A3 p.f3.length c3)) (ds:=[9]) (bl 10 0) (by kernel_rfl) rfl rfl ⟨HR.out.c4 4 rfl,HR.out.c4 3 rfl,HR.out.c4 2 rfl,HR.out.d4 HX.out HNP.out⟩ (fun hHeld => ?_);refine with_tabW implb7_tab implb7_bits (fun HT_ HW_ => ?_)
 generalize w9.drew = w10 at HR hHeld ⊢
 refine pu 0 48 (bl 10 1) HT_ (by kernel_rfl) rfl rfl (by rfl) (fun _ _ _ h => h) (by intro w';go_simp;with_reducible rfl) (by simp only [Act.put,sa,s0,s1];rfl) ?_
 refine pu 1 49 (bl 10 3) HT_ (by kernel_rfl) rfl rfl (by rfl) (fun _ _ _ h => h) (by intro w';go_simp;with_reducible rfl) (by simp only [Act.put,sa,s0,s1];rfl) ?_
 refine tk 2 50 (bl 10 7) HT_ HW_ (by kernel_rfl) rfl rfl (by rfl) (fun _ _ _ h => h) hHeld (by rintro w' ⟨⟨s0,s1,s2,s3⟩,⟨s4,s5,s6,s7⟩,⟨s8,s9,s10,s11⟩,⟨s12,s13,s14,s15⟩⟩;go_simp;with_reducible rfl) (by simp only [Act.put,sa,s0,s1];rfl) ?_
 refine pu 3 51 (bl 10 15) HT_ (by kernel_rfl) rfl rfl (by rfl) (fun _ _ _ h => h) (by intro w';go_simp;with_reducible rfl) (by simp only [Act.put,sa,s0,s1];rfl) ?_
 refine tk 4 52 (bl 10 31) HT_ HW_ (by kernel_rfl) rfl rfl (by rfl) (fun _ _ _ h => h) hHeld (by rintro w' ⟨⟨s0,s1,s2,s3⟩,⟨s4,s5,s6,s7⟩,⟨s8,s9,s10,s11⟩,⟨s12,s13,s14,s15⟩⟩;go_simp;with_reducible rfl) (by simp only [Act.put,sa,s0,s1];rfl) ?_
 refine tk 5 53 (bl 10 63) HT_ HW_ (by kernel_rfl) rfl rfl (by rfl) (fun _ _ _ h => h) hHeld (by rintro w' ⟨⟨s0,s1,s2,s3⟩,⟨s4,s5,s6,s7⟩,⟨s8,s9,s10,s11⟩,⟨s12,s13,s14,s15⟩⟩;go_simp;with_reducible rfl) (by simp only [Act.put,sa,s0,s1];rfl) ?_
 refine tk 6 54 (bl 10 127) HT_ HW_ (by kernel_rfl) rfl rfl (by rfl) (fun _ _ _ h => h) hHeld (by rintro w' ⟨⟨s0,s1,s2,s3⟩,⟨s4,s5,s6,s7⟩,⟨s8,s9,s10,s11⟩,⟨s12,s13,s14,s15⟩⟩;go_simp;with_reducible rfl) (by simp only [Act.put,sa,s0,s1];rfl) ?_
 refine join_ (σ:=Option Addr × Nat × Nat) 1 (bl 10 511) (fun s => let ⟨A51,c51,gf⟩:=s;[(55,.agg #[.int .i64 r1.f0,.string r1.f1,.int .i64 r1.f2,.slice A51 r1.f3.length c51]),(13,.pointer (some ⟨gf,0,none⟩))]) (fun s w' => let ⟨A51,c51,gf⟩:=s;Run w u (fun k => k = g) [As.box gf 29 #[.int .i64 0,.string (⟨#[]⟩ : ByteArray),.int .i64 0,.slice none 0 0],As.box gl 29 #[.int .i64 r0.f0,.string r0.f1,.int .i64 r0.f2,.slice A50 r0.f3.length c50],As.box gr 29 #[.int .i64 0,.string (⟨#[]⟩ : ByteArray),.int .i64 0,.slice none 0 0],As.box gy 29 #[.int .i64 1,.string (⟨#[]⟩ : ByteArray),.int .i64 y,.slice none 0 0],As.box gx 29 #[.int .i64 1,.string (⟨#[]⟩ : ByteArray),.int .i64 x,.slice none 0 0],As.box ga 29 #[.int .i64 a0,.string a1,.int .i64 a2,.slice (some ad) 2 c],As.pool u P ([(.slice A51 r1.f3.length c51,r1.f3)] ++ ([(.slice A50 r0.f3.length c50,r0.f3)] ++ [(.slice none 0 0,[]),(.slice (some ad) 2 c,[p,q]),(.slice A3 p.f3.length c3,p.f3),(.slice A7 q.f3.length c7,q.f3)])),As.box g 92 #[.int .i64 n1,.bool b1]] w') ?_ ?_
 rotate_left
 ·intro hCont
  refine tw 7 8 (some 55) (some 13) (bl 10 255) (bl 10 383) HT_ (by kernel_rfl) rfl rfl rfl rfl (by decide) (by decide) ?_ ?_
  ·skip
   obtain ⟨Q_,hQg_,hbx_,hQ_,hput_⟩:=HR.out.ask HP.out 5 6 rfl rfl (by decide)
   refine clS Tryd.func79 (by kernel_rfl) rfl #[.pointer (some ⟨g,0,none⟩),.agg #[.int .i64 p.f0,.string p.f1,.int .i64 p.f2,.slice A3 p.f3.length c3],.agg #[.int .i64 1,.string (⟨#[]⟩ : ByteArray),.int .i64 x,.slice none 0 0],.agg #[.int .i64 1,.string (⟨#[]⟩ : ByteArray),.int .i64 y,.slice none 0 0]] (by rfl) rfl rfl (by (try simp only [List.map_toArray,List.map_cons,List.map_nil]);first|done|rfl) ((IH1.out.go w w10 g Q_ A3 c3 HTB.out HR.out.bel HG.out hQg_ hbx_ (hQ_ _ (by simp))).mono ?_)
   rintro e_ w11 hq_
   unfold BPost at hq_
   obtain ⟨A51,c51,rfl,hr_,hc_,hb_,hk_⟩:=hq_
   replace HR:=asd (hput_ _ _ [(.slice A51 r1.f3.length c51,r1.f3)] hb_ hk_ hc_ (by intro z hz;obtain rfl:=List.mem_singleton.1 hz;exact hr_))
   clear hQg_ hbx_ hQ_ hput_ hr_ hc_ hb_ hk_ Q_
   refine ⟨_,rfl,⟨HR.out.c4 4 rfl,HR.out.c4 3 rfl,HR.out.c4 2 rfl,HR.out.d4 HX.out HNP.out⟩,fun hHeld => ?_⟩
   refine nm (by simp only [Act.put,sa,s0,s1];rfl) ?_
   refine on 8 (some 13) (bl 10 511) HT_ (by kernel_rfl) rfl rfl (by decide) ?_
   refine nbS HR 13 (cs:=#[.int .i64 0,.string (⟨#[]⟩ : ByteArray),.int .i64 0,.slice none 0 0]) (t:=29) (by rfl) rfl (by first|(go_simp;done)|(go_simp;rfl)) ?_
   clear HR;intro gf w12 HR
   refine ⟨⟨HR.out.c4 5 rfl,HR.out.c4 4 rfl,HR.out.c4 3 rfl,HR.out.d4 HX.out HNP.out⟩,fun hHeld => ?_⟩
   refine nm (by simp only [Act.put,sa,s0,s1];rfl) ?_
   exact nm (by simp only [putAll,Act.put,sa,s0,s1]) (hCont (A51,c51,gf) _ HR.out)
  ·skip
   refine nbS HR 13 (cs:=#[.int .i64 0,.string (⟨#[]⟩ : ByteArray),.int .i64 0,.slice none 0 0]) (t:=29) (by rfl) rfl (by first|(go_simp;done)|(go_simp;rfl)) ?_
   clear HR;intro gf w11 HR
   refine ⟨⟨HR.out.c4 5 rfl,HR.out.c4 4 rfl,HR.out.c4 3 rfl,HR.out.d4 HX.out HNP.out⟩,fun hHeld => ?_⟩
   refine nm (by simp only [Act.put,sa,s0,s1];rfl) ?_
   refine on 7 (some 55) (bl 10 511) HT_ (by kernel_rfl) rfl rfl (by decide) ?_
   obtain ⟨Q_,hQg_,hbx_,hQ_,hput_⟩:=HR.out.ask HP.out 6 7 rfl rfl (by decide)
   refine clS Tryd.func79 (by kernel_rfl) rfl #[.pointer (some ⟨g,0,none⟩),.agg #[.int .i64 p.f0,.string p.f1,.int .i64 p.f2,.slice A3 p.f3.length c3],.agg #[.int .i64 1,.string (⟨#[]⟩ : ByteArray),.int .i64 x,.slice none 0 0],.agg #[.int .i64 1,.string (⟨#[]⟩ : ByteArray),.int .i64 y,.slice none 0 0]] (by rfl) rfl rfl (by (try simp only [List.map_toArray,List.map_cons,List.map_nil]);first|done|rfl) ((IH1.out.go w w11 g Q_ A3 c3 HTB.out HR.out.bel HG.out hQg_ hbx_ (hQ_ _ (by simp))).mono ?_)
   rintro e_ w12 hq_
   unfold BPost at hq_
   obtain ⟨A51,c51,rfl,hr_,hc_,hb_,hk_⟩:=hq_
   replace HR:=asd (hput_ _ _ [(.slice A51 r1.f3.length c51,r1.f3)] hb_ hk_ hc_ (by intro z hz;obtain rfl:=List.mem_singleton.1 hz;exact hr_))
   clear hQg_ hbx_ hQ_ hput_ hr_ hc_ hb_ hk_ Q_
   refine ⟨_,rfl,⟨HR.out.c4 5 rfl,HR.out.c4 4 rfl,HR.out.c4 3 rfl,HR.out.d4 HX.out HNP.out⟩,fun hHeld => ?_⟩
   refine nm (by simp only [Act.put,sa,s0,s1];rfl) ?_
   exact nm (by simp only [putAll,Act.put,sa,s0,s1]) (hCont (A51,c51,gf) _ HR.out)
 rintro ⟨A51,c51,gf⟩ w13 hR_
 clear HR;have HR:=asd hR_;clear hR_;dsimp only at HR
 refine nm (by simp only [putAll,Act.put,sa,s0,s1];rfl) ?_
 obtain ⟨hz0_,hz1_,hz2_,hz3_⟩:=HR.out.c4 0 rfl;obtain ⟨fz0_,fz1_,fz2_,fz3_⟩:=HR.out.f4 0 rfl
 refine lsA HR 0 9 (bl 10 1023) HT_ (by kernel_rfl) rfl rfl (by decide) rfl [.int .i64 r1.f0,.string r1.f1,.int .i64 r1.f2,.slice A51 r1.f3.length c51] rfl (by rfl) (by first|(go_simp;done)|(go_simp;rfl)) ?_
 clear HR hz0_ hz1_ hz2_ hz3_ fz0_ fz1_ fz2_ fz3_;intro w14 HR
 refine done_ (done_of HT_.out (by kernel_rfl)) ?_
 go_wp2_with fail
 replace HR:=asd (HR.out.drew)
 refine start_ (n:=12) (S:=fun w' => C4 w' gf (.int .i64 r1.f0) (.string r1.f1) (.int .i64 r1.f2) (.slice A51 r1.f3.length c51) ∧ C4 w' ga (.int .i64 a0) (.string a1) (.int .i64 a2) (.slice (some ad) 2 c) ∧ C4 w' gx (.int .i64 1) (.string (⟨#[]⟩ : ByteArray)) (.int .i64 x) (.slice none 0 0) ∧ C4 w' gy (.int .i64 1) (.string (⟨#[]⟩ : ByteArray)) (.int .i64 y) (.slice none 0 0) ∧ E4 w' ad (.int .i64 q.f0) (.string q.f1) (.int .i64 q.f2) (.slice A7 q.f3.length c7)) (ds:=[11]) (bl 12 0) (by kernel_rfl) rfl rfl ⟨HR.out.c4 0 rfl,HR.out.c4 5 rfl,HR.out.c4 4 rfl,HR.out.c4 3 rfl,HR.out.e4 HY.out HNP.out⟩ (fun hHeld => ?_);refine with_tabW implb8_tab implb8_bits (fun HT_ HW_ => ?_)
 generalize w14.drew = w15 at HR hHeld ⊢
 refine tk 0 56 (bl 12 1) HT_ HW_ (by kernel_rfl) rfl rfl (by rfl) (fun _ _ _ h => h) hHeld (by rintro w' ⟨⟨s0,s1,s2,s3⟩,⟨s4,s5,s6,s7⟩,⟨s8,s9,s10,s11⟩,⟨s12,s13,s14,s15⟩,⟨s16,s17,s18,s19⟩⟩;go_simp;with_reducible rfl) (by simp only [Act.put,sa,s0,s1];rfl) ?_
 refine pu 1 57 (bl 12 3) HT_ (by kernel_rfl) rfl rfl (by rfl) (fun _ _ _ h => h) (by intro w';go_simp;with_reducible rfl) (by simp only [Act.put,sa,s0,s1];rfl) ?_
 refine pu 2 58 (bl 12 7) HT_ (by kernel_rfl) rfl rfl (by rfl) (fun _ _ _ h => h) (by intro w';go_simp;with_reducible rfl) (by simp only [Act.put,sa,s0,s1];rfl) ?_
 refine tk 3 59 (bl 12 15) HT_ HW_ (by kernel_rfl) rfl rfl (by rfl) (fun _ _ _ h => h) hHeld (by rintro w' ⟨⟨s0,s1,s2,s3⟩,⟨s4,s5,s6,s7⟩,⟨s8,s9,s10,s11⟩,⟨s12,s13,s14,s15⟩,⟨s16,s17,s18,s19⟩⟩;go_simp;with_reducible rfl) (by simp only [Act.put,sa,s0,s1];rfl) ?_
 refine pu 4 60 (bl 12 31) HT_ (by kernel_rfl) rfl rfl (by rfl) (fun _ _ _ h => h) (by intro w';go_simp;with_reducible rfl) (by simp only [Act.put,sa,s0,s1];rfl) ?_
 refine tk 5 61 (bl 12 63) HT_ HW_ (by kernel_rfl) rfl rfl (by rfl) (fun _ _ _ h => h) hHeld (by rintro w' ⟨⟨s0,s1,s2,s3⟩,⟨s4,s5,s6,s7⟩,⟨s8,s9,s10,s11⟩,⟨s12,s13,s14,s15⟩,⟨s16,s17,s18,s19⟩⟩;go_simp;with_reducible rfl) (by simp only [Act.put,sa,s0,s1];rfl) ?_
 refine tk 6 62 (bl 12 127) HT_ HW_ (by kernel_rfl) rfl rfl (by rfl) (fun _ _ _ h => h) hHeld (by rintro w' ⟨⟨s0,s1,s2,s3⟩,⟨s4,s5,s6,s7⟩,⟨s8,s9,s10,s11⟩,⟨s12,s13,s14,s15⟩,⟨s16,s17,s18,s19⟩⟩;go_simp;with_reducible rfl) (by simp only [Act.put,sa,s0,s1];rfl) ?_
 refine tk 7 63 (bl 12 255) HT_ HW_ (by kernel_rfl) rfl rfl (by rfl) (fun _ _ _ h => h) hHeld (by rintro w' ⟨⟨s0,s1,s2,s3⟩,⟨s4,s5,s6,s7⟩,⟨s8,s9,s10,s11⟩,⟨s12,s13,s14,s15⟩,⟨s16,s17,s18,s19⟩⟩;go_simp;with_reducible rfl) (by simp only [Act.put,sa,s0,s1];rfl) ?_
 refine on 8 (some 64) (bl 12 511) HT_ (by kernel_rfl) rfl rfl (by decide) ?_
 obtain ⟨Q_,hQg_,hbx_,hQ_,hput_⟩:=HR.out.ask HP.out 6 7 rfl rfl (by decide)
 refine clS Tryd.func79 (by kernel_rfl) rfl #[.pointer (some ⟨g,0,none⟩),.agg #[.int .i64 q.f0,.string q.f1,.int .i64 q.f2,.slice A7 q.f3.length c7],.agg #[.int .i64 1,.string (⟨#[]⟩ : ByteArray),.int .i64 x,.slice none 0 0],.agg #[.int .i64 1,.string (⟨#[]⟩ : ByteArray),.int .i64 y,.slice none 0 0]] (by rfl) rfl rfl (by (try simp only [List.map_toArray,List.map_cons,List.map_nil]);first|done|rfl) ((IH2.out.go w w15 g Q_ A7 c7 HTB.out HR.out.bel HG.out hQg_ hbx_ (hQ_ _ (by simp))).mono ?_)
 rintro e_ w16 hq_
 unfold BPost at hq_
 obtain ⟨A52,c52,rfl,hr_,hc_,hb_,hk_⟩:=hq_
 replace HR:=asd (hput_ _ _ [(.slice A52 r2.f3.length c52,r2.f3)] hb_ hk_ hc_ (by intro z hz;obtain rfl:=List.mem_singleton.1 hz;exact hr_))
 clear hQg_ hbx_ hQ_ hput_ hr_ hc_ hb_ hk_ Q_
 refine ⟨_,rfl,⟨HR.out.c4 0 rfl,HR.out.c4 5 rfl,HR.out.c4 4 rfl,HR.out.c4 3 rfl,HR.out.e4 HY.out HNP.out⟩,fun hHeld => ?_⟩
 refine nm (by simp only [Act.put,sa,s0,s1];rfl) ?_
 refine on 9 (some 65) (bl 12 1023) HT_ (by kernel_rfl) rfl rfl (by decide) ?_
 refine ltS HR 65 2 (cs:=#[.int .i64 r1.f0,.string r1.f1,.int .i64 r1.f2,.slice A51 r1.f3.length c51,.int .i64 r2.f0,.string r2.f1,.int .i64 r2.f2,.slice A52 r2.f3.length c52]) (t:=29) (by rfl) rfl (by first|(go_simp;done)|(go_simp;rfl)) ?_
 clear HR;intro gq w17 HR
 refine ⟨⟨HR.out.c4 1 rfl,HR.out.c4 6 rfl,HR.out.c4 5 rfl,HR.out.c4 4 rfl,HR.out.e4 HY.out HNP.out⟩,fun hHeld => ?_⟩
 refine nm (by simp only [Act.put,sa,s0,s1];rfl) ?_
 refine on 10 (some 66) (bl 12 2047) HT_ (by kernel_rfl) rfl rfl (by decide) ?_
 refine clS Tryd.func62 (by kernel_rfl) rfl #[.string (⟨#[59]⟩ : ByteArray),.slice (some ⟨gq,0,none⟩) 2 2] (by rfl) rfl rfl (by (try simp only [List.map_toArray,List.map_cons,List.map_nil]);first|done|rfl) ((struct_calls (⟨#[59]⟩ : ByteArray) (some ⟨gq,0,none⟩) 2 2 w17).mono ?_)
 rintro e_ w18 ⟨rfl,hb⟩
 replace HR:=asd (HR.out.step hb)
 clear hb
 refine ⟨_,rfl,⟨HR.out.c4 1 rfl,HR.out.c4 6 rfl,HR.out.c4 5 rfl,HR.out.c4 4 rfl,HR.out.e4 HY.out HNP.out⟩,fun hHeld => ?_⟩
 refine nm (by simp only [Act.put,sa,s0,s1];rfl) ?_
 obtain ⟨hz0_,hz1_,hz2_,hz3_⟩:=HR.out.c4 3 rfl;obtain ⟨fz0_,fz1_,fz2_,fz3_⟩:=HR.out.f4 3 rfl
 refine lsA HR 3 11 (bl 12 4095) HT_ (by kernel_rfl) rfl rfl (by decide) rfl [.int .i64 4,.string (⟨#[59]⟩ : ByteArray),.int .i64 0,.slice (some ⟨gq,0,none⟩) 2 2] rfl (by rfl) (by first|(go_simp;done)|(go_simp;rfl)) ?_
 clear HR hz0_ hz1_ hz2_ hz3_ fz0_ fz1_ fz2_ fz3_;intro w19 HR
 refine done_ (done_of HT_.out (by kernel_rfl)) ?_
 try go_wp2
 refine bodyPost_ret (results_cell_row rfl _ _ gr 29 #[.int .i64 4,.string (⟨#[59]⟩ : ByteArray),.int .i64 0,.slice (some ⟨gq,0,none⟩) 2 2] (0,0) _ rfl (HR.out.has 3 rfl).2 Tryd.underlying29 rfl (by kernel_rfl)) rfl ?_
 have HP0:=(HR.out).pool_lit 7 0 rfl rfl (by decide) [r1,r2] 2 rfl (by decide) (lit2_ok (va:=.slice A51 r1.f3.length c51) (vb:=.slice A52 r2.f3.length c52) (by simp) (by simp))
 exact ⟨some ⟨gq,0,none⟩,2,rfl,HP0.pool_out HP.out 7 rfl 8 rfl (by decide) (fun k hk => hk) _ (List.mem_cons_self),(HR.out.has 8 rfl).2,HR.out.below,HR.out.kept⟩
set_option maxHeartbeats 16000000 in
set_option maxRecDepth 100000 in
theorem impl_b_not (a0 : Int) (a1 : ByteArray) (a2 : Int) (p : S29) (x y n : Int) (b : Bool) (r0 : S29) (rb : Bool) (r1 : S29) (n1 : Int) (b1 : Bool) (w u : World) (g : Nat) (P : Nat → Prop) (ad : Addr) (c : Nat) (tb : Tb w) (old : Below w.heap.size w u) (hg : w.heap.size ≤ g) (hP : ¬ P g) (hb : u.heap[g]? = some (.cells #[.int .i64 n,.bool b] 92 (0,0))) (ht : FootRow u P (.slice (some ad) 1 c,[p]))
  (hrow : RowC 103 (.slice (some ad) 1 c) (.agg #[.int .i64 a0,.string a1,.int .i64 a2,.slice (some ad) 1 c]) [p] (.agg #[.int .i64 1,.string (⟨#[]⟩ : ByteArray),.int .i64 y,.slice none 0 0]) r0 rb) (h1 : IsC 61 (some ad) 1 [p] (.agg #[.int .i64 a0,.string a1,.int .i64 a2,.slice (some ad) 1 c]) (⟨#[44]⟩ : ByteArray) 2 false) (h2 : IsC 61 (some ad) 1 [p] (.agg #[.int .i64 a0,.string a1,.int .i64 a2,.slice (some ad) 1 c]) (⟨#[59]⟩ : ByteArray) 2 false) (h3 : IsC 61 (some ad) 1 [p] (.agg #[.int .i64 a0,.string a1,.int .i64 a2,.slice (some ad) 1 c]) (⟨#[92,43]⟩ : ByteArray) 1 true) (ih1 : BodyOk 79 92 p x (newV n) (nxt n) b r1 n1 b1) :
  Calls Tryd.prog 79 #[.pointer (some ⟨g,0,none⟩),.agg #[.int .i64 a0,.string a1,.int .i64 a2,.slice (some ad) 1 c],.agg #[.int .i64 1,.string (⟨#[]⟩ : ByteArray),.int .i64 x,.slice none 0 0],.agg #[.int .i64 1,.string (⟨#[]⟩ : ByteArray),.int .i64 y,.slice none 0 0]] u fun e u' => BPost 92 w u g P (twoT COMMA ⟨4,NOT,0,[r1]⟩ (twoT EQ1 (varT x) (varT y))) n1 b1 e u':=by
 obtain ⟨A3,c3,hn,hx,hfx⟩:=kid1 ht
 have HR:=asd ((run_fun (a:=As.box g 92 #[.int .i64 n,.bool b]) (ok:=fun k => k = g) old (fun k hk => hk ▸ hg) ⟨rfl,hb⟩).push (As.pool u P [(.slice none 0 0,[]),(.slice (some ad) 1 c,[p]),(.slice A3 p.f3.length c3,p.f3)]) (Below.refl _ _) (pool_in (by intro z hz;simp only [List.mem_cons,List.not_mem_nil,or_false] at hz;rcases hz with rfl|rfl|rfl <;> first|exact foot_nil _ _|exact ht|exact hfx)))
 have HP:=asd (show ∀ k,P k → ¬ (k = g) from fun k hk e => hP (e ▸ hk))
 have HG:=asd hg
 have HTB:=asd tb
 have HNP:=asd (show ¬ (ad.block = g) from fun e => hP (e ▸ hn))
 have HX:=asd hx
 have HROW:=asd hrow
 have H1:=asd h1
 have H2:=asd h2
 have H3:=asd h3
 have IH1:=asd ih1
 clear tb old hg hP hb ht hn hfx hx hrow h1 h2 h3 ih1
 go_enter Tryd.func79,Tryd.ntmps79
 go_wp2_with (first
  | ((with_reducible refine gate_dst (N:=5) rfl ?_);refine nb HR 5 (cs:=#[.int .i64 a0,.string a1,.int .i64 a2,.slice (some ad) 1 c]) (t:=29) rfl rfl (by first | (go_simp;done) | (go_simp;rfl)) ?_;clear HR;intro ga w1 HR)
  | ((with_reducible refine gate_dst (N:=6) rfl ?_);refine nb HR 6 (cs:=#[.int .i64 1,.string (⟨#[]⟩ : ByteArray),.int .i64 x,.slice none 0 0]) (t:=29) rfl rfl (by first | (go_simp;done) | (go_simp;rfl)) ?_;clear HR;intro gx w2 HR)
  | ((with_reducible refine gate_dst (N:=7) rfl ?_);refine nb HR 7 (cs:=#[.int .i64 1,.string (⟨#[]⟩ : ByteArray),.int .i64 y,.slice none 0 0]) (t:=29) rfl rfl (by first | (go_simp;done) | (go_simp;rfl)) ?_;clear HR;intro gy w3 HR)
  | ((with_reducible refine gate_dst (N:=8) rfl ?_);refine nb HR 8 (cs:=#[.int .i64 0,.string (⟨#[]⟩ : ByteArray),.int .i64 0,.slice none 0 0]) (t:=29) rfl rfl (by first | (go_simp;done) | (go_simp;rfl)) ?_;clear HR;intro gr w4 HR;obtain ⟨c4ga0,c4ga1,c4ga2,c4ga3⟩:=HR.out.c4 3 rfl;obtain ⟨c4gy0,c4gy1,c4gy2,c4gy3⟩:=HR.out.c4 1 rfl)
  | (go_at_call 103;obtain ⟨Q_,hQ_,hput_⟩:=HR.out.ask0 HP.out 4 rfl;(with_reducible refine (HROW.out.go w4 Q_ (hQ_ _ (by simp))).mono ?_);rintro e_ w5 ⟨A50,c50,rfl,hr_,hb_⟩;replace HR:=asd (hput_ _ [(.slice A50 r0.f3.length c50,r0.f3)] hb_ (by intro z hz;obtain rfl:=List.mem_singleton.1 hz;exact hr_));clear hQ_ hput_ hb_ Q_ hr_;clear c4ga0 c4ga1 c4ga2 c4ga3 c4gy0 c4gy1 c4gy2 c4gy3)
  | ((with_reducible refine gate_dst (N:=9) rfl ?_);refine nb HR 9 (cs:=#[.int .i64 0,.string (⟨#[]⟩ : ByteArray),.int .i64 0,.slice none 0 0]) (t:=29) rfl rfl (by first | (go_simp;done) | (go_simp;rfl)) ?_;clear HR;intro gl w6 HR;obtain ⟨c6gl0,c6gl1,c6gl2,c6gl3⟩:=HR.out.c4 0 rfl;obtain ⟨f6gl0,f6gl1,f6gl2,f6gl3⟩:=HR.out.f4 0 rfl)
  | ((with_reducible refine gate_store (t:=29) (p:=9) rfl ?_);refine stA HR 0 rfl [.int .i64 r0.f0,.string r0.f1,.int .i64 r0.f2,.slice A50 r0.f3.length c50] rfl rfl rfl rfl (by first | (go_simp;done) | (go_simp;rfl)) ?_;clear HR;intro w7 HR;clear c6gl0 c6gl1 c6gl2 c6gl3 f6gl0 f6gl1 f6gl2 f6gl3;obtain ⟨c7ga0,c7ga1,c7ga2,c7ga3⟩:=HR.out.c4 4 rfl)
  | (go_at_call 61;have hc_ : Kd.C k29 w7 (some ad) 1 [p]:=HR.out.poolC HP.out 5 rfl (c:=c) (by simp);(with_reducible refine (H1.out.go w7 hc_).mono ?_);rintro e_ w8 ⟨rfl,hb⟩;clear hc_;replace HR:=asd (HR.out.step hb);clear hb;clear c7ga0 c7ga1 c7ga2 c7ga3;obtain ⟨c8ga0,c8ga1,c8ga2,c8ga3⟩:=HR.out.c4 4 rfl)
  | (go_at_call 61;have hc_ : Kd.C k29 w8 (some ad) 1 [p]:=HR.out.poolC HP.out 5 rfl (c:=c) (by simp);(with_reducible refine (H2.out.go w8 hc_).mono ?_);rintro e_ w9 ⟨rfl,hb⟩;clear hc_;replace HR:=asd (HR.out.step hb);clear hb;clear c8ga0 c8ga1 c8ga2 c8ga3;obtain ⟨c9ga0,c9ga1,c9ga2,c9ga3⟩:=HR.out.c4 4 rfl)
  | (go_at_call 61;have hc_ : Kd.C k29 w9 (some ad) 1 [p]:=HR.out.poolC HP.out 5 rfl (c:=c) (by simp);(with_reducible refine (H3.out.go w9 hc_).mono ?_);rintro e_ w10 ⟨rfl,hb⟩;clear hc_;replace HR:=asd (HR.out.step hb);clear hb;clear c9ga0 c9ga1 c9ga2 c9ga3)
  | (go_at_call 77;obtain ⟨Q_,hQg_,hbx_,hQ_,hput_⟩:=HR.out.ask HP.out 5 6 rfl rfl (by decide);(with_reducible refine (impl_fresh w w10 g n b HR.out.bel HG.out hbx_).mono ?_);rintro e_ w11 ⟨rfl,hc_,hb_,hk_⟩;replace HR:=asd (hput_ _ _ [] hb_ hk_ hc_ (by intro z hz;exact absurd hz List.not_mem_nil));clear hQg_ hbx_ hQ_ hput_ hb_ hk_ hc_ Q_)
  | ((with_reducible refine gate_dst (N:=14) rfl ?_);refine nb HR 14 (cs:=#[.int .i64 0,.string (⟨#[]⟩ : ByteArray),.int .i64 0,.slice none 0 0]) (t:=29) rfl rfl (by first | (go_simp;done) | (go_simp;rfl)) ?_;clear HR;intro gz w12 HR;obtain ⟨c12gz0,c12gz1,c12gz2,c12gz3⟩:=HR.out.c4 0 rfl;obtain ⟨f12gz0,f12gz1,f12gz2,f12gz3⟩:=HR.out.f4 0 rfl)
  | ((with_reducible refine gate_store (t:=29) (p:=14) rfl ?_);refine stA HR 0 rfl [.int .i64 1,.string (⟨#[]⟩ : ByteArray),.int .i64 (newV n),.slice none 0 0] rfl rfl rfl rfl (by first | (go_simp;done) | (go_simp;rfl)) ?_;clear HR;intro w13 HR;clear c12gz0 c12gz1 c12gz2 c12gz3 f12gz0 f12gz1 f12gz2 f12gz3))
 replace HR:=asd (HR.out.drew)
 refine start_ (n:=17) (S:=fun w' => C4 w' ga (.int .i64 a0) (.string a1) (.int .i64 a2) (.slice (some ad) 1 c) ∧ C4 w' gx (.int .i64 1) (.string (⟨#[]⟩ : ByteArray)) (.int .i64 x) (.slice none 0 0) ∧ C4 w' gz (.int .i64 1) (.string (⟨#[]⟩ : ByteArray)) (.int .i64 (newV n)) (.slice none 0 0) ∧ C4 w' gy (.int .i64 1) (.string (⟨#[]⟩ : ByteArray)) (.int .i64 y) (.slice none 0 0) ∧ D4 w' ad (.int .i64 p.f0) (.string p.f1) (.int .i64 p.f2) (.slice A3 p.f3.length c3)) (ds:=[16]) (bl 17 0) (by kernel_rfl) rfl rfl ⟨HR.out.c4 5 rfl,HR.out.c4 4 rfl,HR.out.c4 0 rfl,HR.out.c4 3 rfl,HR.out.d4 HX.out HNP.out⟩ (fun hHeld => ?_);refine with_tabW implb11_tab implb11_bits (fun HT_ HW_ => ?_)
 generalize w13.drew = w14 at HR hHeld ⊢
 refine pu 0 72 (bl 17 1) HT_ (by kernel_rfl) rfl rfl (by rfl) (fun _ _ _ h => h) (by intro w';go_simp;with_reducible rfl) (by simp only [Act.put,sa,s0,s1];rfl) ?_
 refine pu 1 73 (bl 17 3) HT_ (by kernel_rfl) rfl rfl (by rfl) (fun _ _ _ h => h) (by intro w';go_simp;with_reducible rfl) (by simp only [Act.put,sa,s0,s1];rfl) ?_
 refine tk 2 74 (bl 17 7) HT_ HW_ (by kernel_rfl) rfl rfl (by rfl) (fun _ _ _ h => h) hHeld (by rintro w' ⟨⟨s0,s1,s2,s3⟩,⟨s4,s5,s6,s7⟩,⟨s8,s9,s10,s11⟩,⟨s12,s13,s14,s15⟩,⟨s16,s17,s18,s19⟩⟩;go_simp;with_reducible rfl) (by simp only [Act.put,sa,s0,s1];rfl) ?_
 refine pu 3 75 (bl 17 15) HT_ (by kernel_rfl) rfl rfl (by rfl) (fun _ _ _ h => h) (by intro w';go_simp;with_reducible rfl) (by simp only [Act.put,sa,s0,s1];rfl) ?_
 refine tk 4 76 (bl 17 31) HT_ HW_ (by kernel_rfl) rfl rfl (by rfl) (fun _ _ _ h => h) hHeld (by rintro w' ⟨⟨s0,s1,s2,s3⟩,⟨s4,s5,s6,s7⟩,⟨s8,s9,s10,s11⟩,⟨s12,s13,s14,s15⟩,⟨s16,s17,s18,s19⟩⟩;go_simp;with_reducible rfl) (by simp only [Act.put,sa,s0,s1];rfl) ?_
 refine tk 5 77 (bl 17 63) HT_ HW_ (by kernel_rfl) rfl rfl (by rfl) (fun _ _ _ h => h) hHeld (by rintro w' ⟨⟨s0,s1,s2,s3⟩,⟨s4,s5,s6,s7⟩,⟨s8,s9,s10,s11⟩,⟨s12,s13,s14,s15⟩,⟨s16,s17,s18,s19⟩⟩;go_simp;with_reducible rfl) (by simp only [Act.put,sa,s0,s1];rfl) ?_
 refine tk 6 78 (bl 17 127) HT_ HW_ (by kernel_rfl) rfl rfl (by rfl) (fun _ _ _ h => h) hHeld (by rintro w' ⟨⟨s0,s1,s2,s3⟩,⟨s4,s5,s6,s7⟩,⟨s8,s9,s10,s11⟩,⟨s12,s13,s14,s15⟩,⟨s16,s17,s18,s19⟩⟩;go_simp;with_reducible rfl) (by simp only [Act.put,sa,s0,s1];rfl) ?_
 refine tk 10 82 (bl 17 1151) HT_ HW_ (by kernel_rfl) rfl rfl (by rfl) (fun _ _ _ h => h) hHeld (by rintro w' ⟨⟨s0,s1,s2,s3⟩,⟨s4,s5,s6,s7⟩,⟨s8,s9,s10,s11⟩,⟨s12,s13,s14,s15⟩,⟨s16,s17,s18,s19⟩⟩;go_simp;with_reducible rfl) (by simp only [Act.put,sa,s0,s1];rfl) ?_
 refine tk 11 83 (bl 17 3199) HT_ HW_ (by kernel_rfl) rfl rfl (by rfl) (fun _ _ _ h => h) hHeld (by rintro w' ⟨⟨s0,s1,s2,s3⟩,⟨s4,s5,s6,s7⟩,⟨s8,s9,s10,s11⟩,⟨s12,s13,s14,s15⟩,⟨s16,s17,s18,s19⟩⟩;go_simp;with_reducible rfl) (by simp only [Act.put,sa,s0,s1];rfl) ?_
 refine join_ (σ:=Option Addr × Nat × Nat × Nat) 4 (bl 17 8191) (fun s => let ⟨A51,c51,gq,ge⟩:=s;[(79,.agg #[.int .i64 r1.f0,.string r1.f1,.int .i64 r1.f2,.slice A51 r1.f3.length c51]),(80,.slice (some ⟨gq,0,none⟩) 1 1),(81,.agg #[.int .i64 4,.string (⟨#[92,43]⟩ : ByteArray),.int .i64 0,.slice (some ⟨gq,0,none⟩) 1 1]),(84,.slice (some ⟨ge,0,none⟩) 2 2)]) (fun s w' => let ⟨A51,c51,gq,ge⟩:=s;Run w u (fun k => k = g) [As.box ge 29 #[.int .i64 1,.string (⟨#[]⟩ : ByteArray),.int .i64 x,.slice none 0 0,.int .i64 1,.string (⟨#[]⟩ : ByteArray),.int .i64 y,.slice none 0 0],As.box gq 29 #[.int .i64 r1.f0,.string r1.f1,.int .i64 r1.f2,.slice A51 r1.f3.length c51],As.box gz 29 #[.int .i64 1,.string (⟨#[]⟩ : ByteArray),.int .i64 (newV n),.slice none 0 0],As.box gl 29 #[.int .i64 r0.f0,.string r0.f1,.int .i64 r0.f2,.slice A50 r0.f3.length c50],As.box gr 29 #[.int .i64 0,.string (⟨#[]⟩ : ByteArray),.int .i64 0,.slice none 0 0],As.box gy 29 #[.int .i64 1,.string (⟨#[]⟩ : ByteArray),.int .i64 y,.slice none 0 0],As.box gx 29 #[.int .i64 1,.string (⟨#[]⟩ : ByteArray),.int .i64 x,.slice none 0 0],As.box ga 29 #[.int .i64 a0,.string a1,.int .i64 a2,.slice (some ad) 1 c],As.pool u P ([(.slice A51 r1.f3.length c51,r1.f3)] ++ ([] ++ ([(.slice A50 r0.f3.length c50,r0.f3)] ++ [(.slice none 0 0,[]),(.slice (some ad) 1 c,[p]),(.slice A3 p.f3.length c3,p.f3)]))),As.box g 92 #[.int .i64 n1,.bool b1]] w') ?_ ?_
 rotate_left
 ·intro hCont
  refine tw 7 12 (some 79) (some 84) (bl 17 3327) (bl 17 7295) HT_ (by kernel_rfl) rfl rfl rfl rfl (by decide) (by decide) ?_ ?_
  ·skip
   obtain ⟨Q_,hQg_,hbx_,hQ_,hput_⟩:=HR.out.ask HP.out 6 7 rfl rfl (by decide)
   refine clS Tryd.func79 (by kernel_rfl) rfl #[.pointer (some ⟨g,0,none⟩),.agg #[.int .i64 p.f0,.string p.f1,.int .i64 p.f2,.slice A3 p.f3.length c3],.agg #[.int .i64 1,.string (⟨#[]⟩ : ByteArray),.int .i64 x,.slice none 0 0],.agg #[.int .i64 1,.string (⟨#[]⟩ : ByteArray),.int .i64 (newV n),.slice none 0 0]] (by rfl) rfl rfl (by (try simp only [List.map_toArray,List.map_cons,List.map_nil]);first|done|rfl) ((IH1.out.go w w14 g Q_ A3 c3 HTB.out HR.out.bel HG.out hQg_ hbx_ (hQ_ _ (by simp))).mono ?_)
   rintro e_ w15 hq_
   unfold BPost at hq_
   obtain ⟨A51,c51,rfl,hr_,hc_,hb_,hk_⟩:=hq_
   replace HR:=asd (hput_ _ _ [(.slice A51 r1.f3.length c51,r1.f3)] hb_ hk_ hc_ (by intro z hz;obtain rfl:=List.mem_singleton.1 hz;exact hr_))
   clear hQg_ hbx_ hQ_ hput_ hr_ hc_ hb_ hk_ Q_
   refine ⟨_,rfl,⟨HR.out.c4 5 rfl,HR.out.c4 4 rfl,HR.out.c4 0 rfl,HR.out.c4 3 rfl,HR.out.d4 HX.out HNP.out⟩,fun hHeld => ?_⟩
   refine nm (by simp only [Act.put,sa,s0,s1];rfl) ?_
   refine tw 8 12 (some 80) (some 84) (bl 17 3583) (bl 17 7423) HT_ (by kernel_rfl) rfl rfl rfl rfl (by decide) (by decide) ?_ ?_
   ·skip
    refine ltS HR 80 1 (cs:=#[.int .i64 r1.f0,.string r1.f1,.int .i64 r1.f2,.slice A51 r1.f3.length c51]) (t:=29) (by rfl) rfl (by first|(go_simp;done)|(go_simp;rfl)) ?_
    clear HR;intro gq w16 HR
    refine ⟨⟨HR.out.c4 6 rfl,HR.out.c4 5 rfl,HR.out.c4 1 rfl,HR.out.c4 4 rfl,HR.out.d4 HX.out HNP.out⟩,fun hHeld => ?_⟩
    refine nm (by simp only [Act.put,sa,s0,s1];rfl) ?_
    refine tw 9 12 (some 81) (some 84) (bl 17 4095) (bl 17 7679) HT_ (by kernel_rfl) rfl rfl rfl rfl (by decide) (by decide) ?_ ?_
    ·skip
     refine clS Tryd.func62 (by kernel_rfl) rfl #[.string (⟨#[92,43]⟩ : ByteArray),.slice (some ⟨gq,0,none⟩) 1 1] (by rfl) rfl rfl (by (try simp only [List.map_toArray,List.map_cons,List.map_nil]);first|done|rfl) ((struct_calls (⟨#[92,43]⟩ : ByteArray) (some ⟨gq,0,none⟩) 1 1 w16).mono ?_)
     rintro e_ w17 ⟨rfl,hb⟩
     replace HR:=asd (HR.out.step hb)
     clear hb
     refine ⟨_,rfl,⟨HR.out.c4 6 rfl,HR.out.c4 5 rfl,HR.out.c4 1 rfl,HR.out.c4 4 rfl,HR.out.d4 HX.out HNP.out⟩,fun hHeld => ?_⟩
     refine nm (by simp only [Act.put,sa,s0,s1];rfl) ?_
     refine on 12 (some 84) (bl 17 8191) HT_ (by kernel_rfl) rfl rfl (by decide) ?_
     refine ltS HR 84 2 (cs:=#[.int .i64 1,.string (⟨#[]⟩ : ByteArray),.int .i64 x,.slice none 0 0,.int .i64 1,.string (⟨#[]⟩ : ByteArray),.int .i64 y,.slice none 0 0]) (t:=29) (by rfl) rfl (by first|(go_simp;done)|(go_simp;rfl)) ?_
     clear HR;intro ge w18 HR
     refine ⟨⟨HR.out.c4 7 rfl,HR.out.c4 6 rfl,HR.out.c4 2 rfl,HR.out.c4 5 rfl,HR.out.d4 HX.out HNP.out⟩,fun hHeld => ?_⟩
     refine nm (by simp only [Act.put,sa,s0,s1];rfl) ?_
     exact nm (by simp only [putAll,Act.put,sa,s0,s1]) (hCont (A51,c51,gq,ge) _ HR.out)
    ·skip
     refine ltS HR 84 2 (cs:=#[.int .i64 1,.string (⟨#[]⟩ : ByteArray),.int .i64 x,.slice none 0 0,.int .i64 1,.string (⟨#[]⟩ : ByteArray),.int .i64 y,.slice none 0 0]) (t:=29) (by rfl) rfl (by first|(go_simp;done)|(go_simp;rfl)) ?_
     clear HR;intro ge w17 HR
     refine ⟨⟨HR.out.c4 7 rfl,HR.out.c4 6 rfl,HR.out.c4 2 rfl,HR.out.c4 5 rfl,HR.out.d4 HX.out HNP.out⟩,fun hHeld => ?_⟩
     refine nm (by simp only [Act.put,sa,s0,s1];rfl) ?_
     refine on 9 (some 81) (bl 17 8191) HT_ (by kernel_rfl) rfl rfl (by decide) ?_
     refine clS Tryd.func62 (by kernel_rfl) rfl #[.string (⟨#[92,43]⟩ : ByteArray),.slice (some ⟨gq,0,none⟩) 1 1] (by rfl) rfl rfl (by (try simp only [List.map_toArray,List.map_cons,List.map_nil]);first|done|rfl) ((struct_calls (⟨#[92,43]⟩ : ByteArray) (some ⟨gq,0,none⟩) 1 1 w17).mono ?_)
     rintro e_ w18 ⟨rfl,hb⟩
     replace HR:=asd (HR.out.step hb)
     clear hb
     refine ⟨_,rfl,⟨HR.out.c4 7 rfl,HR.out.c4 6 rfl,HR.out.c4 2 rfl,HR.out.c4 5 rfl,HR.out.d4 HX.out HNP.out⟩,fun hHeld => ?_⟩
     refine nm (by simp only [Act.put,sa,s0,s1];rfl) ?_
     exact nm (by simp only [putAll,Act.put,sa,s0,s1]) (hCont (A51,c51,gq,ge) _ HR.out)
   ·skip
    refine ltS HR 84 2 (cs:=#[.int .i64 1,.string (⟨#[]⟩ : ByteArray),.int .i64 x,.slice none 0 0,.int .i64 1,.string (⟨#[]⟩ : ByteArray),.int .i64 y,.slice none 0 0]) (t:=29) (by rfl) rfl (by first|(go_simp;done)|(go_simp;rfl)) ?_
    clear HR;intro ge w16 HR
    refine ⟨⟨HR.out.c4 6 rfl,HR.out.c4 5 rfl,HR.out.c4 1 rfl,HR.out.c4 4 rfl,HR.out.d4 HX.out HNP.out⟩,fun hHeld => ?_⟩
    refine nm (by simp only [Act.put,sa,s0,s1];rfl) ?_
    refine on 8 (some 80) (bl 17 7679) HT_ (by kernel_rfl) rfl rfl (by decide) ?_
    refine ltS HR 80 1 (cs:=#[.int .i64 r1.f0,.string r1.f1,.int .i64 r1.f2,.slice A51 r1.f3.length c51]) (t:=29) (by rfl) rfl (by first|(go_simp;done)|(go_simp;rfl)) ?_
    clear HR;intro gq w17 HR
    refine ⟨⟨HR.out.c4 7 rfl,HR.out.c4 6 rfl,HR.out.c4 2 rfl,HR.out.c4 5 rfl,HR.out.d4 HX.out HNP.out⟩,fun hHeld => ?_⟩
    refine nm (by simp only [Act.put,sa,s0,s1];rfl) ?_
    refine on 9 (some 81) (bl 17 8191) HT_ (by kernel_rfl) rfl rfl (by decide) ?_
    refine clS Tryd.func62 (by kernel_rfl) rfl #[.string (⟨#[92,43]⟩ : ByteArray),.slice (some ⟨gq,0,none⟩) 1 1] (by rfl) rfl rfl (by (try simp only [List.map_toArray,List.map_cons,List.map_nil]);first|done|rfl) ((struct_calls (⟨#[92,43]⟩ : ByteArray) (some ⟨gq,0,none⟩) 1 1 w17).mono ?_)
    rintro e_ w18 ⟨rfl,hb⟩
    replace HR:=asd (HR.out.step hb)
    clear hb
    refine ⟨_,rfl,⟨HR.out.c4 7 rfl,HR.out.c4 6 rfl,HR.out.c4 2 rfl,HR.out.c4 5 rfl,HR.out.d4 HX.out HNP.out⟩,fun hHeld => ?_⟩
    refine nm (by simp only [Act.put,sa,s0,s1];rfl) ?_
    exact nm (by simp only [putAll,Act.put,sa,s0,s1]) (hCont (A51,c51,gq,ge) _ (HR.out.pick [1,0,2,3,4,5,6,7,8,9] (by decide)))
  ·skip
   refine ltS HR 84 2 (cs:=#[.int .i64 1,.string (⟨#[]⟩ : ByteArray),.int .i64 x,.slice none 0 0,.int .i64 1,.string (⟨#[]⟩ : ByteArray),.int .i64 y,.slice none 0 0]) (t:=29) (by rfl) rfl (by first|(go_simp;done)|(go_simp;rfl)) ?_
   clear HR;intro ge w15 HR
   refine ⟨⟨HR.out.c4 6 rfl,HR.out.c4 5 rfl,HR.out.c4 1 rfl,HR.out.c4 4 rfl,HR.out.d4 HX.out HNP.out⟩,fun hHeld => ?_⟩
   refine nm (by simp only [Act.put,sa,s0,s1];rfl) ?_
   refine on 7 (some 79) (bl 17 7423) HT_ (by kernel_rfl) rfl rfl (by decide) ?_
   obtain ⟨Q_,hQg_,hbx_,hQ_,hput_⟩:=HR.out.ask HP.out 7 8 rfl rfl (by decide)
   refine clS Tryd.func79 (by kernel_rfl) rfl #[.pointer (some ⟨g,0,none⟩),.agg #[.int .i64 p.f0,.string p.f1,.int .i64 p.f2,.slice A3 p.f3.length c3],.agg #[.int .i64 1,.string (⟨#[]⟩ : ByteArray),.int .i64 x,.slice none 0 0],.agg #[.int .i64 1,.string (⟨#[]⟩ : ByteArray),.int .i64 (newV n),.slice none 0 0]] (by rfl) rfl rfl (by (try simp only [List.map_toArray,List.map_cons,List.map_nil]);first|done|rfl) ((IH1.out.go w w15 g Q_ A3 c3 HTB.out HR.out.bel HG.out hQg_ hbx_ (hQ_ _ (by simp))).mono ?_)
   rintro e_ w16 hq_
   unfold BPost at hq_
   obtain ⟨A51,c51,rfl,hr_,hc_,hb_,hk_⟩:=hq_
   replace HR:=asd (hput_ _ _ [(.slice A51 r1.f3.length c51,r1.f3)] hb_ hk_ hc_ (by intro z hz;obtain rfl:=List.mem_singleton.1 hz;exact hr_))
   clear hQg_ hbx_ hQ_ hput_ hr_ hc_ hb_ hk_ Q_
   refine ⟨_,rfl,⟨HR.out.c4 6 rfl,HR.out.c4 5 rfl,HR.out.c4 1 rfl,HR.out.c4 4 rfl,HR.out.d4 HX.out HNP.out⟩,fun hHeld => ?_⟩
   refine nm (by simp only [Act.put,sa,s0,s1];rfl) ?_
   refine on 8 (some 80) (bl 17 7679) HT_ (by kernel_rfl) rfl rfl (by decide) ?_
   refine ltS HR 80 1 (cs:=#[.int .i64 r1.f0,.string r1.f1,.int .i64 r1.f2,.slice A51 r1.f3.length c51]) (t:=29) (by rfl) rfl (by first|(go_simp;done)|(go_simp;rfl)) ?_
   clear HR;intro gq w17 HR
   refine ⟨⟨HR.out.c4 7 rfl,HR.out.c4 6 rfl,HR.out.c4 2 rfl,HR.out.c4 5 rfl,HR.out.d4 HX.out HNP.out⟩,fun hHeld => ?_⟩
   refine nm (by simp only [Act.put,sa,s0,s1];rfl) ?_
   refine on 9 (some 81) (bl 17 8191) HT_ (by kernel_rfl) rfl rfl (by decide) ?_
   refine clS Tryd.func62 (by kernel_rfl) rfl #[.string (⟨#[92,43]⟩ : ByteArray),.slice (some ⟨gq,0,none⟩) 1 1] (by rfl) rfl rfl (by (try simp only [List.map_toArray,List.map_cons,List.map_nil]);first|done|rfl) ((struct_calls (⟨#[92,43]⟩ : ByteArray) (some ⟨gq,0,none⟩) 1 1 w17).mono ?_)
   rintro e_ w18 ⟨rfl,hb⟩
   replace HR:=asd (HR.out.step hb)
   clear hb
   refine ⟨_,rfl,⟨HR.out.c4 7 rfl,HR.out.c4 6 rfl,HR.out.c4 2 rfl,HR.out.c4 5 rfl,HR.out.d4 HX.out HNP.out⟩,fun hHeld => ?_⟩
   refine nm (by simp only [Act.put,sa,s0,s1];rfl) ?_
   exact nm (by simp only [putAll,Act.put,sa,s0,s1]) (hCont (A51,c51,gq,ge) _ (HR.out.pick [1,0,2,3,4,5,6,7,8,9] (by decide)))
 rintro ⟨A51,c51,gq,ge⟩ w19 hR_
 clear HR;have HR:=asd hR_;clear hR_;dsimp only at HR
 refine nm (by simp only [putAll,Act.put,sa,s0,s1];rfl) ?_
 refine on 13 (some 85) (bl 17 16383) HT_ (by kernel_rfl) rfl rfl (by decide) ?_
 refine clS Tryd.func62 (by kernel_rfl) rfl #[.string (⟨#[61]⟩ : ByteArray),.slice (some ⟨ge,0,none⟩) 2 2] (by rfl) rfl rfl (by (try simp only [List.map_toArray,List.map_cons,List.map_nil]);first|done|rfl) ((struct_calls (⟨#[61]⟩ : ByteArray) (some ⟨ge,0,none⟩) 2 2 w19).mono ?_)
 rintro e_ w20 ⟨rfl,hb⟩
 replace HR:=asd (HR.out.step hb)
 clear hb
 refine ⟨_,rfl,⟨HR.out.c4 7 rfl,HR.out.c4 6 rfl,HR.out.c4 2 rfl,HR.out.c4 5 rfl,HR.out.d4 HX.out HNP.out⟩,fun hHeld => ?_⟩
 refine nm (by simp only [Act.put,sa,s0,s1];rfl) ?_
 refine on 14 (some 86) (bl 17 32767) HT_ (by kernel_rfl) rfl rfl (by decide) ?_
 refine ltS HR 86 2 (cs:=#[.int .i64 4,.string (⟨#[92,43]⟩ : ByteArray),.int .i64 0,.slice (some ⟨gq,0,none⟩) 1 1,.int .i64 4,.string (⟨#[61]⟩ : ByteArray),.int .i64 0,.slice (some ⟨ge,0,none⟩) 2 2]) (t:=29) (by rfl) rfl (by first|(go_simp;done)|(go_simp;rfl)) ?_
 clear HR;intro gt w21 HR
 refine ⟨⟨HR.out.c4 8 rfl,HR.out.c4 7 rfl,HR.out.c4 3 rfl,HR.out.c4 6 rfl,HR.out.d4 HX.out HNP.out⟩,fun hHeld => ?_⟩
 refine nm (by simp only [Act.put,sa,s0,s1];rfl) ?_
 refine on 15 (some 87) (bl 17 65535) HT_ (by kernel_rfl) rfl rfl (by decide) ?_
 refine clS Tryd.func62 (by kernel_rfl) rfl #[.string (⟨#[44]⟩ : ByteArray),.slice (some ⟨gt,0,none⟩) 2 2] (by rfl) rfl rfl (by (try simp only [List.map_toArray,List.map_cons,List.map_nil]);first|done|rfl) ((struct_calls (⟨#[44]⟩ : ByteArray) (some ⟨gt,0,none⟩) 2 2 w21).mono ?_)
 rintro e_ w22 ⟨rfl,hb⟩
 replace HR:=asd (HR.out.step hb)
 clear hb
 refine ⟨_,rfl,⟨HR.out.c4 8 rfl,HR.out.c4 7 rfl,HR.out.c4 3 rfl,HR.out.c4 6 rfl,HR.out.d4 HX.out HNP.out⟩,fun hHeld => ?_⟩
 refine nm (by simp only [Act.put,sa,s0,s1];rfl) ?_
 obtain ⟨hz0_,hz1_,hz2_,hz3_⟩:=HR.out.c4 5 rfl;obtain ⟨fz0_,fz1_,fz2_,fz3_⟩:=HR.out.f4 5 rfl
 refine lsA HR 5 16 (bl 17 131071) HT_ (by kernel_rfl) rfl rfl (by decide) rfl [.int .i64 4,.string (⟨#[44]⟩ : ByteArray),.int .i64 0,.slice (some ⟨gt,0,none⟩) 2 2] rfl (by rfl) (by first|(go_simp;done)|(go_simp;rfl)) ?_
 clear HR hz0_ hz1_ hz2_ hz3_ fz0_ fz1_ fz2_ fz3_;intro w23 HR
 refine done_ (done_of HT_.out (by kernel_rfl)) ?_
 try go_wp2
 refine bodyPost_ret (results_cell_row rfl _ _ gr 29 #[.int .i64 4,.string (⟨#[44]⟩ : ByteArray),.int .i64 0,.slice (some ⟨gt,0,none⟩) 2 2] (0,0) _ rfl (HR.out.has 5 rfl).2 Tryd.underlying29 rfl (by kernel_rfl)) rfl ?_
 have HP0:=(HR.out).pool_lit 9 2 rfl rfl (by decide) [r1] 1 rfl (by decide) (lit1_ok (va:=.slice A51 r1.f3.length c51) (by simp))
 have HP1:=(HP0).pool_lit 9 1 rfl rfl (by decide) [varT x,varT y] 2 rfl (by decide) (lit2_ok (va:=.slice none 0 0) (vb:=.slice none 0 0) (show (_,([] : List S29)) ∈ _ by simp) (show (_,([] : List S29)) ∈ _ by simp))
 have HP2:=(HP1).pool_lit 9 0 rfl rfl (by decide) [⟨4,NOT,0,[r1]⟩,twoT EQ1 (varT x) (varT y)] 2 rfl (by decide) (lit2_ok (va:=.slice (some ⟨gq,0,none⟩) 1 1) (vb:=.slice (some ⟨ge,0,none⟩) 2 2) (show (_,[r1]) ∈ _ by simp) (show (_,[varT x,varT y]) ∈ _ by simp))
 exact ⟨some ⟨gt,0,none⟩,2,rfl,HP2.pool_out HP.out 9 rfl 10 rfl (by decide) (fun k hk => hk) _ (List.mem_cons_self),(HR.out.has 10 rfl).2,HR.out.below,HR.out.kept⟩
set_option maxHeartbeats 16000000 in
set_option maxRecDepth 100000 in
theorem impl_b_do (a0 : Int) (a1 : ByteArray) (a2 : Int) (p : S29) (x y n : Int) (b : Bool) (r0 : S29) (rb : Bool) (w u : World) (g : Nat) (P : Nat → Prop) (ad : Addr) (c : Nat) (tb : Tb w) (old : Below w.heap.size w u) (hg : w.heap.size ≤ g) (hP : ¬ P g) (hb : u.heap[g]? = some (.cells #[.int .i64 n,.bool b] 92 (0,0))) (ht : FootRow u P (.slice (some ad) 1 c,[p]))
  (hrow : RowC 103 (.slice (some ad) 1 c) (.agg #[.int .i64 a0,.string a1,.int .i64 a2,.slice (some ad) 1 c]) [p] (.agg #[.int .i64 1,.string (⟨#[]⟩ : ByteArray),.int .i64 y,.slice none 0 0]) r0 rb) (h1 : IsC 61 (some ad) 1 [p] (.agg #[.int .i64 a0,.string a1,.int .i64 a2,.slice (some ad) 1 c]) (⟨#[44]⟩ : ByteArray) 2 false) (h2 : IsC 61 (some ad) 1 [p] (.agg #[.int .i64 a0,.string a1,.int .i64 a2,.slice (some ad) 1 c]) (⟨#[59]⟩ : ByteArray) 2 false) (h3 : IsC 61 (some ad) 1 [p] (.agg #[.int .i64 a0,.string a1,.int .i64 a2,.slice (some ad) 1 c]) (⟨#[92,43]⟩ : ByteArray) 1 false) (h4 : IsC 61 (some ad) 1 [p] (.agg #[.int .i64 a0,.string a1,.int .i64 a2,.slice (some ad) 1 c]) (⟨#[100,111]⟩ : ByteArray) 1 true) :
  Calls Tryd.prog 79 #[.pointer (some ⟨g,0,none⟩),.agg #[.int .i64 a0,.string a1,.int .i64 a2,.slice (some ad) 1 c],.agg #[.int .i64 1,.string (⟨#[]⟩ : ByteArray),.int .i64 x,.slice none 0 0],.agg #[.int .i64 1,.string (⟨#[]⟩ : ByteArray),.int .i64 y,.slice none 0 0]] u fun e u' => BPost 92 w u g P (twoT COMMA p (twoT EQ1 (varT x) (varT y))) n b e u':=by
 obtain ⟨A3,c3,hn,hx,hfx⟩:=kid1 ht
 have HR:=asd ((run_fun (a:=As.box g 92 #[.int .i64 n,.bool b]) (ok:=fun k => k = g) old (fun k hk => hk ▸ hg) ⟨rfl,hb⟩).push (As.pool u P [(.slice none 0 0,[]),(.slice (some ad) 1 c,[p]),(.slice A3 p.f3.length c3,p.f3)]) (Below.refl _ _) (pool_in (by intro z hz;simp only [List.mem_cons,List.not_mem_nil,or_false] at hz;rcases hz with rfl|rfl|rfl <;> first|exact foot_nil _ _|exact ht|exact hfx)))
 have HP:=asd (show ∀ k,P k → ¬ (k = g) from fun k hk e => hP (e ▸ hk))
 have HG:=asd hg
 have HTB:=asd tb
 have HNP:=asd (show ¬ (ad.block = g) from fun e => hP (e ▸ hn))
 have HX:=asd hx
 have HROW:=asd hrow
 have H1:=asd h1
 have H2:=asd h2
 have H3:=asd h3
 have H4:=asd h4
 clear tb old hg hP hb ht hn hfx hx hrow h1 h2 h3 h4
 go_enter Tryd.func79,Tryd.ntmps79
 go_wp2_with (first
  | ((with_reducible refine gate_dst (N:=5) rfl ?_);refine nb HR 5 (cs:=#[.int .i64 a0,.string a1,.int .i64 a2,.slice (some ad) 1 c]) (t:=29) rfl rfl (by first | (go_simp;done) | (go_simp;rfl)) ?_;clear HR;intro ga w1 HR)
  | ((with_reducible refine gate_dst (N:=6) rfl ?_);refine nb HR 6 (cs:=#[.int .i64 1,.string (⟨#[]⟩ : ByteArray),.int .i64 x,.slice none 0 0]) (t:=29) rfl rfl (by first | (go_simp;done) | (go_simp;rfl)) ?_;clear HR;intro gx w2 HR)
  | ((with_reducible refine gate_dst (N:=7) rfl ?_);refine nb HR 7 (cs:=#[.int .i64 1,.string (⟨#[]⟩ : ByteArray),.int .i64 y,.slice none 0 0]) (t:=29) rfl rfl (by first | (go_simp;done) | (go_simp;rfl)) ?_;clear HR;intro gy w3 HR)
  | ((with_reducible refine gate_dst (N:=8) rfl ?_);refine nb HR 8 (cs:=#[.int .i64 0,.string (⟨#[]⟩ : ByteArray),.int .i64 0,.slice none 0 0]) (t:=29) rfl rfl (by first | (go_simp;done) | (go_simp;rfl)) ?_;clear HR;intro gr w4 HR;obtain ⟨c4ga0,c4ga1,c4ga2,c4ga3⟩:=HR.out.c4 3 rfl;obtain ⟨c4gy0,c4gy1,c4gy2,c4gy3⟩:=HR.out.c4 1 rfl)
  | (go_at_call 103;obtain ⟨Q_,hQ_,hput_⟩:=HR.out.ask0 HP.out 4 rfl;(with_reducible refine (HROW.out.go w4 Q_ (hQ_ _ (by simp))).mono ?_);rintro e_ w5 ⟨A50,c50,rfl,hr_,hb_⟩;replace HR:=asd (hput_ _ [(.slice A50 r0.f3.length c50,r0.f3)] hb_ (by intro z hz;obtain rfl:=List.mem_singleton.1 hz;exact hr_));clear hQ_ hput_ hb_ Q_ hr_;clear c4ga0 c4ga1 c4ga2 c4ga3 c4gy0 c4gy1 c4gy2 c4gy3)
  | ((with_reducible refine gate_dst (N:=9) rfl ?_);refine nb HR 9 (cs:=#[.int .i64 0,.string (⟨#[]⟩ : ByteArray),.int .i64 0,.slice none 0 0]) (t:=29) rfl rfl (by first | (go_simp;done) | (go_simp;rfl)) ?_;clear HR;intro gl w6 HR;obtain ⟨c6gl0,c6gl1,c6gl2,c6gl3⟩:=HR.out.c4 0 rfl;obtain ⟨f6gl0,f6gl1,f6gl2,f6gl3⟩:=HR.out.f4 0 rfl)
  | ((with_reducible refine gate_store (t:=29) (p:=9) rfl ?_);refine stA HR 0 rfl [.int .i64 r0.f0,.string r0.f1,.int .i64 r0.f2,.slice A50 r0.f3.length c50] rfl rfl rfl rfl (by first | (go_simp;done) | (go_simp;rfl)) ?_;clear HR;intro w7 HR;clear c6gl0 c6gl1 c6gl2 c6gl3 f6gl0 f6gl1 f6gl2 f6gl3;obtain ⟨c7ga0,c7ga1,c7ga2,c7ga3⟩:=HR.out.c4 4 rfl)
  | (go_at_call 61;have hc_ : Kd.C k29 w7 (some ad) 1 [p]:=HR.out.poolC HP.out 5 rfl (c:=c) (by simp);(with_reducible refine (H1.out.go w7 hc_).mono ?_);rintro e_ w8 ⟨rfl,hb⟩;clear hc_;replace HR:=asd (HR.out.step hb);clear hb;clear c7ga0 c7ga1 c7ga2 c7ga3;obtain ⟨c8ga0,c8ga1,c8ga2,c8ga3⟩:=HR.out.c4 4 rfl)
  | (go_at_call 61;have hc_ : Kd.C k29 w8 (some ad) 1 [p]:=HR.out.poolC HP.out 5 rfl (c:=c) (by simp);(with_reducible refine (H2.out.go w8 hc_).mono ?_);rintro e_ w9 ⟨rfl,hb⟩;clear hc_;replace HR:=asd (HR.out.step hb);clear hb;clear c8ga0 c8ga1 c8ga2 c8ga3;obtain ⟨c9ga0,c9ga1,c9ga2,c9ga3⟩:=HR.out.c4 4 rfl)
  | (go_at_call 61;have hc_ : Kd.C k29 w9 (some ad) 1 [p]:=HR.out.poolC HP.out 5 rfl (c:=c) (by simp);(with_reducible refine (H3.out.go w9 hc_).mono ?_);rintro e_ w10 ⟨rfl,hb⟩;clear hc_;replace HR:=asd (HR.out.step hb);clear hb;clear c9ga0 c9ga1 c9ga2 c9ga3;obtain ⟨c10ga0,c10ga1,c10ga2,c10ga3⟩:=HR.out.c4 4 rfl)
  | (go_at_call 61;have hc_ : Kd.C k29 w10 (some ad) 1 [p]:=HR.out.poolC HP.out 5 rfl (c:=c) (by simp);(with_reducible refine (H4.out.go w10 hc_).mono ?_);rintro e_ w11 ⟨rfl,hb⟩;clear hc_;replace HR:=asd (HR.out.step hb);clear hb;clear c10ga0 c10ga1 c10ga2 c10ga3))
 replace HR:=asd (HR.out.drew)
 refine start_ (n:=11) (S:=fun w' => C4 w' ga (.int .i64 a0) (.string a1) (.int .i64 a2) (.slice (some ad) 1 c) ∧ C4 w' gx (.int .i64 1) (.string (⟨#[]⟩ : ByteArray)) (.int .i64 x) (.slice none 0 0) ∧ C4 w' gy (.int .i64 1) (.string (⟨#[]⟩ : ByteArray)) (.int .i64 y) (.slice none 0 0) ∧ D4 w' ad (.int .i64 p.f0) (.string p.f1) (.int .i64 p.f2) (.slice A3 p.f3.length c3)) (ds:=[10]) (bl 11 0) (by kernel_rfl) rfl rfl ⟨HR.out.c4 4 rfl,HR.out.c4 3 rfl,HR.out.c4 2 rfl,HR.out.d4 HX.out HNP.out⟩ (fun hHeld => ?_);refine with_tabW implb13_tab implb13_bits (fun HT_ HW_ => ?_)
 generalize w11.drew = w12 at HR hHeld ⊢
 refine pu 0 91 (bl 11 1) HT_ (by kernel_rfl) rfl rfl (by rfl) (fun _ _ _ h => h) (by intro w';go_simp;with_reducible rfl) (by simp only [Act.put,sa,s0,s1];rfl) ?_
 refine tk 1 92 (bl 11 3) HT_ HW_ (by kernel_rfl) rfl rfl (by rfl) (fun _ _ _ h => h) hHeld (by rintro w' ⟨⟨s0,s1,s2,s3⟩,⟨s4,s5,s6,s7⟩,⟨s8,s9,s10,s11⟩,⟨s12,s13,s14,s15⟩⟩;go_simp;with_reducible rfl) (by simp only [Act.put,sa,s0,s1];rfl) ?_
 refine pu 2 93 (bl 11 7) HT_ (by kernel_rfl) rfl rfl (by rfl) (fun _ _ _ h => h) (by intro w';go_simp;with_reducible rfl) (by simp only [Act.put,sa,s0,s1];rfl) ?_
 refine tk 3 94 (bl 11 15) HT_ HW_ (by kernel_rfl) rfl rfl (by rfl) (fun _ _ _ h => h) hHeld (by rintro w' ⟨⟨s0,s1,s2,s3⟩,⟨s4,s5,s6,s7⟩,⟨s8,s9,s10,s11⟩,⟨s12,s13,s14,s15⟩⟩;go_simp;with_reducible rfl) (by simp only [Act.put,sa,s0,s1];rfl) ?_
 refine tk 4 95 (bl 11 31) HT_ HW_ (by kernel_rfl) rfl rfl (by rfl) (fun _ _ _ h => h) hHeld (by rintro w' ⟨⟨s0,s1,s2,s3⟩,⟨s4,s5,s6,s7⟩,⟨s8,s9,s10,s11⟩,⟨s12,s13,s14,s15⟩⟩;go_simp;with_reducible rfl) (by simp only [Act.put,sa,s0,s1];rfl) ?_
 refine tk 5 96 (bl 11 63) HT_ HW_ (by kernel_rfl) rfl rfl (by rfl) (fun _ _ _ h => h) hHeld (by rintro w' ⟨⟨s0,s1,s2,s3⟩,⟨s4,s5,s6,s7⟩,⟨s8,s9,s10,s11⟩,⟨s12,s13,s14,s15⟩⟩;go_simp;with_reducible rfl) (by simp only [Act.put,sa,s0,s1];rfl) ?_
 refine on 6 (some 97) (bl 11 127) HT_ (by kernel_rfl) rfl rfl (by decide) ?_
 refine ltS HR 97 2 (cs:=#[.int .i64 1,.string (⟨#[]⟩ : ByteArray),.int .i64 x,.slice none 0 0,.int .i64 1,.string (⟨#[]⟩ : ByteArray),.int .i64 y,.slice none 0 0]) (t:=29) (by rfl) rfl (by first|(go_simp;done)|(go_simp;rfl)) ?_
 clear HR;intro ge w13 HR
 refine ⟨⟨HR.out.c4 5 rfl,HR.out.c4 4 rfl,HR.out.c4 3 rfl,HR.out.d4 HX.out HNP.out⟩,fun hHeld => ?_⟩
 refine nm (by simp only [Act.put,sa,s0,s1];rfl) ?_
 refine on 7 (some 98) (bl 11 255) HT_ (by kernel_rfl) rfl rfl (by decide) ?_
 refine clS Tryd.func62 (by kernel_rfl) rfl #[.string (⟨#[61]⟩ : ByteArray),.slice (some ⟨ge,0,none⟩) 2 2] (by rfl) rfl rfl (by (try simp only [List.map_toArray,List.map_cons,List.map_nil]);first|done|rfl) ((struct_calls (⟨#[61]⟩ : ByteArray) (some ⟨ge,0,none⟩) 2 2 w13).mono ?_)
 rintro e_ w14 ⟨rfl,hb⟩
 replace HR:=asd (HR.out.step hb)
 clear hb
 refine ⟨_,rfl,⟨HR.out.c4 5 rfl,HR.out.c4 4 rfl,HR.out.c4 3 rfl,HR.out.d4 HX.out HNP.out⟩,fun hHeld => ?_⟩
 refine nm (by simp only [Act.put,sa,s0,s1];rfl) ?_
 refine on 8 (some 99) (bl 11 511) HT_ (by kernel_rfl) rfl rfl (by decide) ?_
 refine ltS HR 99 2 (cs:=#[.int .i64 p.f0,.string p.f1,.int .i64 p.f2,.slice A3 p.f3.length c3,.int .i64 4,.string (⟨#[61]⟩ : ByteArray),.int .i64 0,.slice (some ⟨ge,0,none⟩) 2 2]) (t:=29) (by rfl) rfl (by first|(go_simp;done)|(go_simp;rfl)) ?_
 clear HR;intro gt w15 HR
 refine ⟨⟨HR.out.c4 6 rfl,HR.out.c4 5 rfl,HR.out.c4 4 rfl,HR.out.d4 HX.out HNP.out⟩,fun hHeld => ?_⟩
 refine nm (by simp only [Act.put,sa,s0,s1];rfl) ?_
 refine on 9 (some 100) (bl 11 1023) HT_ (by kernel_rfl) rfl rfl (by decide) ?_
 refine clS Tryd.func62 (by kernel_rfl) rfl #[.string (⟨#[44]⟩ : ByteArray),.slice (some ⟨gt,0,none⟩) 2 2] (by rfl) rfl rfl (by (try simp only [List.map_toArray,List.map_cons,List.map_nil]);first|done|rfl) ((struct_calls (⟨#[44]⟩ : ByteArray) (some ⟨gt,0,none⟩) 2 2 w15).mono ?_)
 rintro e_ w16 ⟨rfl,hb⟩
 replace HR:=asd (HR.out.step hb)
 clear hb
 refine ⟨_,rfl,⟨HR.out.c4 6 rfl,HR.out.c4 5 rfl,HR.out.c4 4 rfl,HR.out.d4 HX.out HNP.out⟩,fun hHeld => ?_⟩
 refine nm (by simp only [Act.put,sa,s0,s1];rfl) ?_
 obtain ⟨hz0_,hz1_,hz2_,hz3_⟩:=HR.out.c4 3 rfl;obtain ⟨fz0_,fz1_,fz2_,fz3_⟩:=HR.out.f4 3 rfl
 refine lsA HR 3 10 (bl 11 2047) HT_ (by kernel_rfl) rfl rfl (by decide) rfl [.int .i64 4,.string (⟨#[44]⟩ : ByteArray),.int .i64 0,.slice (some ⟨gt,0,none⟩) 2 2] rfl (by rfl) (by first|(go_simp;done)|(go_simp;rfl)) ?_
 clear HR hz0_ hz1_ hz2_ hz3_ fz0_ fz1_ fz2_ fz3_;intro w17 HR
 refine done_ (done_of HT_.out (by kernel_rfl)) ?_
 try go_wp2
 refine bodyPost_ret (results_cell_row rfl _ _ gr 29 #[.int .i64 4,.string (⟨#[44]⟩ : ByteArray),.int .i64 0,.slice (some ⟨gt,0,none⟩) 2 2] (0,0) _ rfl (HR.out.has 3 rfl).2 Tryd.underlying29 rfl (by kernel_rfl)) rfl ?_
 have HP0:=(HR.out).pool_lit 7 1 rfl rfl (by decide) [varT x,varT y] 2 rfl (by decide) (lit2_ok (va:=.slice none 0 0) (vb:=.slice none 0 0) (show (_,([] : List S29)) ∈ _ by simp) (show (_,([] : List S29)) ∈ _ by simp))
 have HP1:=(HP0).pool_lit 7 0 rfl rfl (by decide) [p,twoT EQ1 (varT x) (varT y)] 2 rfl (by decide) (lit2_ok (va:=.slice A3 p.f3.length c3) (vb:=.slice (some ⟨ge,0,none⟩) 2 2) (show (_,p.f3) ∈ _ by simp) (show (_,[varT x,varT y]) ∈ _ by simp))
 exact ⟨some ⟨gt,0,none⟩,2,rfl,HP1.pool_out HP.out 7 rfl 8 rfl (by decide) (fun k hk => hk) _ (List.mem_cons_self),(HR.out.has 8 rfl).2,HR.out.below,HR.out.kept⟩
set_option maxHeartbeats 16000000 in
set_option maxRecDepth 100000 in
theorem impl_b_row (t : S29) (x y n : Int) (b : Bool) (r0 : S29) (w u : World) (g : Nat) (P : Nat → Prop) (A : Option Addr) (c : Nat) (tb : Tb w) (old : Below w.heap.size w u) (hg : w.heap.size ≤ g) (hP : ¬ P g) (hb : u.heap[g]? = some (.cells #[.int .i64 n,.bool b] 92 (0,0))) (ht : FootRow u P (.slice A t.f3.length c,t.f3))
  (hrow : RowC 103 (.slice A t.f3.length c) (.agg #[.int .i64 t.f0,.string t.f1,.int .i64 t.f2,.slice A t.f3.length c]) t.f3 (.agg #[.int .i64 1,.string (⟨#[]⟩ : ByteArray),.int .i64 y,.slice none 0 0]) r0 true) (h1 : IsC 61 A t.f3.length t.f3 (.agg #[.int .i64 t.f0,.string t.f1,.int .i64 t.f2,.slice A t.f3.length c]) (⟨#[44]⟩ : ByteArray) 2 false) (h2 : IsC 61 A t.f3.length t.f3 (.agg #[.int .i64 t.f0,.string t.f1,.int .i64 t.f2,.slice A t.f3.length c]) (⟨#[59]⟩ : ByteArray) 2 false) (h3 : IsC 61 A t.f3.length t.f3 (.agg #[.int .i64 t.f0,.string t.f1,.int .i64 t.f2,.slice A t.f3.length c]) (⟨#[92,43]⟩ : ByteArray) 1 false) (h4 : IsC 61 A t.f3.length t.f3 (.agg #[.int .i64 t.f0,.string t.f1,.int .i64 t.f2,.slice A t.f3.length c]) (⟨#[100,111]⟩ : ByteArray) 1 false) :
  Calls Tryd.prog 79 #[.pointer (some ⟨g,0,none⟩),.agg #[.int .i64 t.f0,.string t.f1,.int .i64 t.f2,.slice A t.f3.length c],.agg #[.int .i64 1,.string (⟨#[]⟩ : ByteArray),.int .i64 x,.slice none 0 0],.agg #[.int .i64 1,.string (⟨#[]⟩ : ByteArray),.int .i64 y,.slice none 0 0]] u fun e u' => BPost 92 w u g P (twoT EQ1 (varT x) r0) n b e u':=by
 have HR:=asd ((run_fun (a:=As.box g 92 #[.int .i64 n,.bool b]) (ok:=fun k => k = g) old (fun k hk => hk ▸ hg) ⟨rfl,hb⟩).push (As.pool u P [(.slice none 0 0,[]),(.slice A t.f3.length c,t.f3)]) (Below.refl _ _) (pool_in (by intro z hz;simp only [List.mem_cons,List.not_mem_nil,or_false] at hz;rcases hz with rfl|rfl <;> first|exact foot_nil _ _|exact ht)))
 have HP:=asd (show ∀ k,P k → ¬ (k = g) from fun k hk e => hP (e ▸ hk))
 have HG:=asd hg
 have HTB:=asd tb
 have HROW:=asd hrow
 have H1:=asd h1
 have H2:=asd h2
 have H3:=asd h3
 have H4:=asd h4
 clear tb old hg hP hb ht hrow h1 h2 h3 h4
 go_enter Tryd.func79,Tryd.ntmps79
 go_wp2_with (first
  | ((with_reducible refine gate_dst (N:=5) rfl ?_);refine nb HR 5 (cs:=#[.int .i64 t.f0,.string t.f1,.int .i64 t.f2,.slice A t.f3.length c]) (t:=29) rfl rfl (by first | (go_simp;done) | (go_simp;rfl)) ?_;clear HR;intro ga w1 HR)
  | ((with_reducible refine gate_dst (N:=6) rfl ?_);refine nb HR 6 (cs:=#[.int .i64 1,.string (⟨#[]⟩ : ByteArray),.int .i64 x,.slice none 0 0]) (t:=29) rfl rfl (by first | (go_simp;done) | (go_simp;rfl)) ?_;clear HR;intro gx w2 HR)
  | ((with_reducible refine gate_dst (N:=7) rfl ?_);refine nb HR 7 (cs:=#[.int .i64 1,.string (⟨#[]⟩ : ByteArray),.int .i64 y,.slice none 0 0]) (t:=29) rfl rfl (by first | (go_simp;done) | (go_simp;rfl)) ?_;clear HR;intro gy w3 HR)
  | ((with_reducible refine gate_dst (N:=8) rfl ?_);refine nb HR 8 (cs:=#[.int .i64 0,.string (⟨#[]⟩ : ByteArray),.int .i64 0,.slice none 0 0]) (t:=29) rfl rfl (by first | (go_simp;done) | (go_simp;rfl)) ?_;clear HR;intro gr w4 HR;obtain ⟨c4ga0,c4ga1,c4ga2,c4ga3⟩:=HR.out.c4 3 rfl;obtain ⟨c4gy0,c4gy1,c4gy2,c4gy3⟩:=HR.out.c4 1 rfl)
  | (go_at_call 103;obtain ⟨Q_,hQ_,hput_⟩:=HR.out.ask0 HP.out 4 rfl;(with_reducible refine (HROW.out.go w4 Q_ (hQ_ _ (by simp))).mono ?_);rintro e_ w5 ⟨A50,c50,rfl,hr_,hb_⟩;replace HR:=asd (hput_ _ [(.slice A50 r0.f3.length c50,r0.f3)] hb_ (by intro z hz;obtain rfl:=List.mem_singleton.1 hz;exact hr_));clear hQ_ hput_ hb_ Q_ hr_;clear c4ga0 c4ga1 c4ga2 c4ga3 c4gy0 c4gy1 c4gy2 c4gy3)
  | ((with_reducible refine gate_dst (N:=9) rfl ?_);refine nb HR 9 (cs:=#[.int .i64 0,.string (⟨#[]⟩ : ByteArray),.int .i64 0,.slice none 0 0]) (t:=29) rfl rfl (by first | (go_simp;done) | (go_simp;rfl)) ?_;clear HR;intro gl w6 HR;obtain ⟨c6gl0,c6gl1,c6gl2,c6gl3⟩:=HR.out.c4 0 rfl;obtain ⟨f6gl0,f6gl1,f6gl2,f6gl3⟩:=HR.out.f4 0 rfl)
  | ((with_reducible refine gate_store (t:=29) (p:=9) rfl ?_);refine stA HR 0 rfl [.int .i64 r0.f0,.string r0.f1,.int .i64 r0.f2,.slice A50 r0.f3.length c50] rfl rfl rfl rfl (by first | (go_simp;done) | (go_simp;rfl)) ?_;clear HR;intro w7 HR;clear c6gl0 c6gl1 c6gl2 c6gl3 f6gl0 f6gl1 f6gl2 f6gl3;obtain ⟨c7ga0,c7ga1,c7ga2,c7ga3⟩:=HR.out.c4 4 rfl)
  | (go_at_call 61;have hc_ : Kd.C k29 w7 A t.f3.length t.f3:=HR.out.poolC HP.out 5 rfl (c:=c) (by simp);(with_reducible refine (H1.out.go w7 hc_).mono ?_);rintro e_ w8 ⟨rfl,hb⟩;clear hc_;replace HR:=asd (HR.out.step hb);clear hb;clear c7ga0 c7ga1 c7ga2 c7ga3;obtain ⟨c8ga0,c8ga1,c8ga2,c8ga3⟩:=HR.out.c4 4 rfl)
  | (go_at_call 61;have hc_ : Kd.C k29 w8 A t.f3.length t.f3:=HR.out.poolC HP.out 5 rfl (c:=c) (by simp);(with_reducible refine (H2.out.go w8 hc_).mono ?_);rintro e_ w9 ⟨rfl,hb⟩;clear hc_;replace HR:=asd (HR.out.step hb);clear hb;clear c8ga0 c8ga1 c8ga2 c8ga3;obtain ⟨c9ga0,c9ga1,c9ga2,c9ga3⟩:=HR.out.c4 4 rfl)
  | (go_at_call 61;have hc_ : Kd.C k29 w9 A t.f3.length t.f3:=HR.out.poolC HP.out 5 rfl (c:=c) (by simp);(with_reducible refine (H3.out.go w9 hc_).mono ?_);rintro e_ w10 ⟨rfl,hb⟩;clear hc_;replace HR:=asd (HR.out.step hb);clear hb;clear c9ga0 c9ga1 c9ga2 c9ga3;obtain ⟨c10ga0,c10ga1,c10ga2,c10ga3⟩:=HR.out.c4 4 rfl)
  | (go_at_call 61;have hc_ : Kd.C k29 w10 A t.f3.length t.f3:=HR.out.poolC HP.out 5 rfl (c:=c) (by simp);(with_reducible refine (H4.out.go w10 hc_).mono ?_);rintro e_ w11 ⟨rfl,hb⟩;clear hc_;replace HR:=asd (HR.out.step hb);clear hb;clear c10ga0 c10ga1 c10ga2 c10ga3;obtain ⟨c11gx0,c11gx1,c11gx2,c11gx3⟩:=HR.out.c4 3 rfl;obtain ⟨c11gl0,c11gl1,c11gl2,c11gl3⟩:=HR.out.c4 0 rfl)
  | ((with_reducible refine gate_dst (N:=105) rfl ?_);refine lt HR 105 2 (cs:=#[.int .i64 1,.string (⟨#[]⟩ : ByteArray),.int .i64 x,.slice none 0 0,.int .i64 r0.f0,.string r0.f1,.int .i64 r0.f2,.slice A50 r0.f3.length c50]) (t:=29) rfl rfl (by first | (go_simp;done) | (go_simp;rfl)) ?_;clear HR;intro gq w12 HR;clear c11gx0 c11gx1 c11gx2 c11gx3 c11gl0 c11gl1 c11gl2 c11gl3)
  | (go_at_call 62;(with_reducible refine (struct_calls (⟨#[61]⟩ : ByteArray) (some ⟨gq,0,none⟩) 2 2 w12).mono ?_);rintro e_ w13 ⟨rfl,hb⟩;replace HR:=asd (HR.out.step hb);clear hb;obtain ⟨c13gr0,c13gr1,c13gr2,c13gr3⟩:=HR.out.c4 2 rfl;obtain ⟨f13gr0,f13gr1,f13gr2,f13gr3⟩:=HR.out.f4 2 rfl)
  | ((with_reducible refine gate_store (t:=29) (p:=8) rfl ?_);refine stA HR 2 rfl [.int .i64 4,.string (⟨#[61]⟩ : ByteArray),.int .i64 0,.slice (some ⟨gq,0,none⟩) 2 2] rfl rfl rfl rfl (by first | (go_simp;done) | (go_simp;rfl)) ?_;clear HR;intro w14 HR;clear c13gr0 c13gr1 c13gr2 c13gr3 f13gr0 f13gr1 f13gr2 f13gr3))
 try go_wp2
 refine bodyPost_ret (results_cell_row rfl _ _ gr 29 #[.int .i64 4,.string (⟨#[61]⟩ : ByteArray),.int .i64 0,.slice (some ⟨gq,0,none⟩) 2 2] (0,0) _ rfl (HR.out.has 2 rfl).2 Tryd.underlying29 rfl (by kernel_rfl)) rfl ?_
 have HP0:=(HR.out).pool_lit 6 0 rfl rfl (by decide) [varT x,r0] 2 rfl (by decide) (lit2_ok (va:=.slice none 0 0) (vb:=.slice A50 r0.f3.length c50) (show (_,([] : List S29)) ∈ _ by simp) (by simp))
 exact ⟨some ⟨gq,0,none⟩,2,rfl,HP0.pool_out HP.out 6 rfl 7 rfl (by decide) (fun k hk => hk) _ (List.mem_cons_self),(HR.out.has 7 rfl).2,HR.out.below,HR.out.kept⟩
set_option maxHeartbeats 16000000 in
set_option maxRecDepth 100000 in
theorem impl_b_non (t : S29) (x y n : Int) (b : Bool) (r0 : S29) (r1 : S29) (n1 : Int) (b1 : Bool) (w u : World) (g : Nat) (P : Nat → Prop) (A : Option Addr) (c : Nat) (tb : Tb w) (old : Below w.heap.size w u) (hg : w.heap.size ≤ g) (hP : ¬ P g) (hb : u.heap[g]? = some (.cells #[.int .i64 n,.bool b] 92 (0,0))) (ht : FootRow u P (.slice A t.f3.length c,t.f3))
  (hrow : RowC 103 (.slice A t.f3.length c) (.agg #[.int .i64 t.f0,.string t.f1,.int .i64 t.f2,.slice A t.f3.length c]) t.f3 (.agg #[.int .i64 1,.string (⟨#[]⟩ : ByteArray),.int .i64 y,.slice none 0 0]) r0 false) (h1 : IsC 61 A t.f3.length t.f3 (.agg #[.int .i64 t.f0,.string t.f1,.int .i64 t.f2,.slice A t.f3.length c]) (⟨#[44]⟩ : ByteArray) 2 false) (h2 : IsC 61 A t.f3.length t.f3 (.agg #[.int .i64 t.f0,.string t.f1,.int .i64 t.f2,.slice A t.f3.length c]) (⟨#[59]⟩ : ByteArray) 2 false) (h3 : IsC 61 A t.f3.length t.f3 (.agg #[.int .i64 t.f0,.string t.f1,.int .i64 t.f2,.slice A t.f3.length c]) (⟨#[92,43]⟩ : ByteArray) 1 false) (h4 : IsC 61 A t.f3.length t.f3 (.agg #[.int .i64 t.f0,.string t.f1,.int .i64 t.f2,.slice A t.f3.length c]) (⟨#[100,111]⟩ : ByteArray) 1 false) (ih1 : BodyOk 78 92 t x y n b r1 n1 b1) :
  Calls Tryd.prog 79 #[.pointer (some ⟨g,0,none⟩),.agg #[.int .i64 t.f0,.string t.f1,.int .i64 t.f2,.slice A t.f3.length c],.agg #[.int .i64 1,.string (⟨#[]⟩ : ByteArray),.int .i64 x,.slice none 0 0],.agg #[.int .i64 1,.string (⟨#[]⟩ : ByteArray),.int .i64 y,.slice none 0 0]] u fun e u' => BPost 92 w u g P r1 n1 b1 e u':=by
 have HR:=asd ((run_fun (a:=As.box g 92 #[.int .i64 n,.bool b]) (ok:=fun k => k = g) old (fun k hk => hk ▸ hg) ⟨rfl,hb⟩).push (As.pool u P [(.slice none 0 0,[]),(.slice A t.f3.length c,t.f3)]) (Below.refl _ _) (pool_in (by intro z hz;simp only [List.mem_cons,List.not_mem_nil,or_false] at hz;rcases hz with rfl|rfl <;> first|exact foot_nil _ _|exact ht)))
 have HP:=asd (show ∀ k,P k → ¬ (k = g) from fun k hk e => hP (e ▸ hk))
 have HG:=asd hg
 have HTB:=asd tb
 have HROW:=asd hrow
 have H1:=asd h1
 have H2:=asd h2
 have H3:=asd h3
 have H4:=asd h4
 have IH1:=asd ih1
 clear tb old hg hP hb ht hrow h1 h2 h3 h4 ih1
 go_enter Tryd.func79,Tryd.ntmps79
 go_wp2_with (first
  | ((with_reducible refine gate_dst (N:=5) rfl ?_);refine nb HR 5 (cs:=#[.int .i64 t.f0,.string t.f1,.int .i64 t.f2,.slice A t.f3.length c]) (t:=29) rfl rfl (by first | (go_simp;done) | (go_simp;rfl)) ?_;clear HR;intro ga w1 HR)
  | ((with_reducible refine gate_dst (N:=6) rfl ?_);refine nb HR 6 (cs:=#[.int .i64 1,.string (⟨#[]⟩ : ByteArray),.int .i64 x,.slice none 0 0]) (t:=29) rfl rfl (by first | (go_simp;done) | (go_simp;rfl)) ?_;clear HR;intro gx w2 HR)
  | ((with_reducible refine gate_dst (N:=7) rfl ?_);refine nb HR 7 (cs:=#[.int .i64 1,.string (⟨#[]⟩ : ByteArray),.int .i64 y,.slice none 0 0]) (t:=29) rfl rfl (by first | (go_simp;done) | (go_simp;rfl)) ?_;clear HR;intro gy w3 HR)
  | ((with_reducible refine gate_dst (N:=8) rfl ?_);refine nb HR 8 (cs:=#[.int .i64 0,.string (⟨#[]⟩ : ByteArray),.int .i64 0,.slice none 0 0]) (t:=29) rfl rfl (by first | (go_simp;done) | (go_simp;rfl)) ?_;clear HR;intro gr w4 HR;obtain ⟨c4ga0,c4ga1,c4ga2,c4ga3⟩:=HR.out.c4 3 rfl;obtain ⟨c4gy0,c4gy1,c4gy2,c4gy3⟩:=HR.out.c4 1 rfl)
  | (go_at_call 103;obtain ⟨Q_,hQ_,hput_⟩:=HR.out.ask0 HP.out 4 rfl;(with_reducible refine (HROW.out.go w4 Q_ (hQ_ _ (by simp))).mono ?_);rintro e_ w5 ⟨A50,c50,rfl,hr_,hb_⟩;replace HR:=asd (hput_ _ [(.slice A50 r0.f3.length c50,r0.f3)] hb_ (by intro z hz;obtain rfl:=List.mem_singleton.1 hz;exact hr_));clear hQ_ hput_ hb_ Q_ hr_;clear c4ga0 c4ga1 c4ga2 c4ga3 c4gy0 c4gy1 c4gy2 c4gy3)
  | ((with_reducible refine gate_dst (N:=9) rfl ?_);refine nb HR 9 (cs:=#[.int .i64 0,.string (⟨#[]⟩ : ByteArray),.int .i64 0,.slice none 0 0]) (t:=29) rfl rfl (by first | (go_simp;done) | (go_simp;rfl)) ?_;clear HR;intro gl w6 HR;obtain ⟨c6gl0,c6gl1,c6gl2,c6gl3⟩:=HR.out.c4 0 rfl;obtain ⟨f6gl0,f6gl1,f6gl2,f6gl3⟩:=HR.out.f4 0 rfl)
  | ((with_reducible refine gate_store (t:=29) (p:=9) rfl ?_);refine stA HR 0 rfl [.int .i64 r0.f0,.string r0.f1,.int .i64 r0.f2,.slice A50 r0.f3.length c50] rfl rfl rfl rfl (by first | (go_simp;done) | (go_simp;rfl)) ?_;clear HR;intro w7 HR;clear c6gl0 c6gl1 c6gl2 c6gl3 f6gl0 f6gl1 f6gl2 f6gl3;obtain ⟨c7ga0,c7ga1,c7ga2,c7ga3⟩:=HR.out.c4 4 rfl)
  | (go_at_call 61;have hc_ : Kd.C k29 w7 A t.f3.length t.f3:=HR.out.poolC HP.out 5 rfl (c:=c) (by simp);(with_reducible refine (H1.out.go w7 hc_).mono ?_);rintro e_ w8 ⟨rfl,hb⟩;clear hc_;replace HR:=asd (HR.out.step hb);clear hb;clear c7ga0 c7ga1 c7ga2 c7ga3;obtain ⟨c8ga0,c8ga1,c8ga2,c8ga3⟩:=HR.out.c4 4 rfl)
  | (go_at_call 61;have hc_ : Kd.C k29 w8 A t.f3.length t.f3:=HR.out.poolC HP.out 5 rfl (c:=c) (by simp);(with_reducible refine (H2.out.go w8 hc_).mono ?_);rintro e_ w9 ⟨rfl,hb⟩;clear hc_;replace HR:=asd (HR.out.step hb);clear hb;clear c8ga0 c8ga1 c8ga2 c8ga3;obtain ⟨c9ga0,c9ga1,c9ga2,c9ga3⟩:=HR.out.c4 4 rfl)
  | (go_at_call 61;have hc_ : Kd.C k29 w9 A t.f3.length t.f3:=HR.out.poolC HP.out 5 rfl (c:=c) (by simp);(with_reducible refine (H3.out.go w9 hc_).mono ?_);rintro e_ w10 ⟨rfl,hb⟩;clear hc_;replace HR:=asd (HR.out.step hb);clear hb;clear c9ga0 c9ga1 c9ga2 c9ga3;obtain ⟨c10ga0,c10ga1,c10ga2,c10ga3⟩:=HR.out.c4 4 rfl)
  | (go_at_call 61;have hc_ : Kd.C k29 w10 A t.f3.length t.f3:=HR.out.poolC HP.out 5 rfl (c:=c) (by simp);(with_reducible refine (H4.out.go w10 hc_).mono ?_);rintro e_ w11 ⟨rfl,hb⟩;clear hc_;replace HR:=asd (HR.out.step hb);clear hb;clear c10ga0 c10ga1 c10ga2 c10ga3;obtain ⟨c11ga0,c11ga1,c11ga2,c11ga3⟩:=HR.out.c4 4 rfl;obtain ⟨c11gx0,c11gx1,c11gx2,c11gx3⟩:=HR.out.c4 3 rfl;obtain ⟨c11gy0,c11gy1,c11gy2,c11gy3⟩:=HR.out.c4 2 rfl)
  | (go_at_call 78;obtain ⟨Q_,hQg_,hbx_,hQ_,hput_⟩:=HR.out.ask HP.out 5 6 rfl rfl (by decide);(with_reducible refine (IH1.out.go w w11 g Q_ A c HTB.out HR.out.bel HG.out hQg_ hbx_ (hQ_ _ (by simp))).mono ?_);rintro e_ w12 hq_;unfold BPost at hq_;obtain ⟨A51,c51,rfl,hr_,hc_,hb_,hk_⟩:=hq_;replace HR:=asd (hput_ _ _ [(.slice A51 r1.f3.length c51,r1.f3)] hb_ hk_ hc_ (by intro z hz;obtain rfl:=List.mem_singleton.1 hz;exact hr_));clear hQg_ hbx_ hQ_ hput_ hb_ hk_ hc_ Q_ hr_;clear c11ga0 c11ga1 c11ga2 c11ga3 c11gx0 c11gx1 c11gx2 c11gx3 c11gy0 c11gy1 c11gy2 c11gy3;obtain ⟨c12gr0,c12gr1,c12gr2,c12gr3⟩:=HR.out.c4 1 rfl;obtain ⟨f12gr0,f12gr1,f12gr2,f12gr3⟩:=HR.out.f4 1 rfl)
  | ((with_reducible refine gate_store (t:=29) (p:=8) rfl ?_);refine stA HR 1 rfl [.int .i64 r1.f0,.string r1.f1,.int .i64 r1.f2,.slice A51 r1.f3.length c51] rfl rfl rfl rfl (by first | (go_simp;done) | (go_simp;rfl)) ?_;clear HR;intro w13 HR;clear c12gr0 c12gr1 c12gr2 c12gr3 f12gr0 f12gr1 f12gr2 f12gr3))
 try go_wp2
 refine bodyPost_ret (results_cell_row rfl _ _ gr 29 #[.int .i64 r1.f0,.string r1.f1,.int .i64 r1.f2,.slice A51 r1.f3.length c51] (0,0) _ rfl (HR.out.has 1 rfl).2 Tryd.underlying29 rfl (by kernel_rfl)) rfl ?_
 exact ⟨A51,c51,rfl,HR.out.pool_out HP.out 5 rfl 6 rfl (by decide) (fun k hk => hk) _ (by simp),(HR.out.has 6 rfl).2,HR.out.below,HR.out.kept⟩
end
end Go.Proofs.YtojedbogbodkiaaDoor.KGr
