/- Of this claim's own making;what nothing names is struck (fewall.py). -/
import Derived.Test.YtojedbogbodkiaaDoorKGrx8
import Derived.Test.YtojedbogbodkiaaDoorGrC
import Derived.Test.YtojedbogbodkiaaDoorKS
set_option linter.unusedVariables false
set_option linter.unusedSimpArgs false
namespace Go.Proofs.YtojedbogbodkiaaDoor.KGr
open Go.RowKit Go.Proofs.YtojedbogbodkiaaDoorW.PrintWords Go.Proofs.YtojedbogbodkiaaDoorW.PrintLast Go.Proofs.YtojedbogbodkiaaDoorW.PrintMore
section
set_option linter.unusedSectionVars false
variable [fk_laws_szTerm] [fk_laws_eqTerm] [fk_spec_l34Term] [fk_strconv_Itoa]
def specb4_T : Bool × List (List Nat × List Nat):=(true,[([],[]),([],[]),([1],[1]),([2],[2]),([3],[3]),([],[]),([],[]),([0,4,5,6],[0,4,5,6]),([],[]),([8,7,7,0,1,2,3,4,5,6,7,8],[7,8])])
def specb4_B : List Nat:=[0,0,2,6,14,0,0,127,0,511]
theorem specb4_tab : rtab .any (opsOf Tryd.f99 4) = specb4_T:=by kernel_rfl
theorem specb4_bits : waitsOk specb4_T.2 specb4_B = true:=by kernel_rfl
def specb5_T : Bool × List (List Nat × List Nat):=(true,[([],[]),([],[]),([],[]),([2],[2]),([3],[3]),([4],[4]),([],[]),([],[]),([1,5,6,7],[1,5,6,7]),([0,8,8],[0,8]),([9,9,0,1,2,3,4,5,6,7,8,9],[9])])
def specb5_B : List Nat:=[0,0,0,4,12,28,0,0,254,511,1023]
theorem specb5_tab : rtab .any (opsOf Tryd.f99 5) = specb5_T:=by kernel_rfl
theorem specb5_bits : waitsOk specb5_T.2 specb5_B = true:=by kernel_rfl
def specb7_T : Bool × List (List Nat × List Nat):=(true,[([],[]),([],[]),([1],[1]),([2],[2]),([3],[3]),([],[]),([],[]),([0,4,5,6],[0,4,5,6]),([],[]),([8,7,7,0,1,2,3,4,5,6,7,8],[7,8])])
def specb7_B : List Nat:=[0,0,2,6,14,0,0,127,0,511]
theorem specb7_tab : rtab .any (opsOf Tryd.f99 7) = specb7_T:=by kernel_rfl
theorem specb7_bits : waitsOk specb7_T.2 specb7_B = true:=by kernel_rfl
def specb8_T : Bool × List (List Nat × List Nat):=(true,[([],[]),([],[]),([],[]),([2],[2]),([3],[3]),([4],[4]),([],[]),([],[]),([1,5,6,7],[1,5,6,7]),([0,8,8],[0,8]),([9,9,0,1,2,3,4,5,6,7,8,9],[9])])
def specb8_B : List Nat:=[0,0,0,4,12,28,0,0,254,511,1023]
theorem specb8_tab : rtab .any (opsOf Tryd.f99 8) = specb8_T:=by kernel_rfl
theorem specb8_bits : waitsOk specb8_T.2 specb8_B = true:=by kernel_rfl
def specb11_T : Bool × List (List Nat × List Nat):=(true,[([],[]),([],[]),([1],[1]),([2],[2]),([3],[3]),([],[]),([],[]),([0,4,5,6],[0,4,5,6]),([7],[7]),([8],[8]),([],[]),([10,9,7,0,1,2,3,4,5,6,7,8,9,10],[9,10])])
def specb11_B : List Nat:=[0,0,2,6,14,0,0,127,255,511,0,2047]
theorem specb11_tab : rtab .any (opsOf Tryd.f99 11) = specb11_T:=by kernel_rfl
theorem specb11_bits : waitsOk specb11_T.2 specb11_B = true:=by kernel_rfl
def specb12_T : Bool × List (List Nat × List Nat):=(true,[([],[]),([],[]),([],[]),([1,2],[1,2]),([0,3,3],[0,3]),([4,4,0,1,2,3,4],[4])])
def specb12_B : List Nat:=[0,0,0,6,15,31]
theorem specb12_tab : rtab .any (opsOf Tryd.f99 12) = specb12_T:=by kernel_rfl
theorem specb12_bits : waitsOk specb12_T.2 specb12_B = true:=by kernel_rfl
def specb14_T : Bool × List (List Nat × List Nat):=(true,[([],[]),([0],[0]),([1],[1]),([2],[2]),([],[]),([],[]),([4,5],[4,5]),([3,6,6],[3,6]),([7,7,0,1,2,3,4,5,6,7],[7])])
def specb14_B : List Nat:=[0,1,3,7,0,0,48,127,255]
theorem specb14_tab : rtab .any (opsOf Tryd.f99 14) = specb14_T:=by kernel_rfl
theorem specb14_bits : waitsOk specb14_T.2 specb14_B = true:=by kernel_rfl
theorem two_sl (s : ByteArray) (a b : S29) (A : Option Addr) (n c : Nat) (A2 : Option Addr) (n2 c2 : Nat) (w : World) : Calls Tryd.prog 97 #[.string s,.agg #[.int .i64 a.f0,.string a.f1,.int .i64 a.f2,.slice A n c],.agg #[.int .i64 b.f0,.string b.f1,.int .i64 b.f2,.slice A2 n2 c2]] w fun e w' => ∃ g,e = .returned (.agg #[.int .i64 4,.string s,.int .i64 0,.slice (some ⟨g,0,none⟩) 2 2]) ∧ (w.heap.size ≤ g ∧ w'.heap[g]? = some (.cells #[.int .i64 a.f0,.string a.f1,.int .i64 a.f2,.slice A n c,.int .i64 b.f0,.string b.f1,.int .i64 b.f2,.slice A2 n2 c2] 29 (0,0))) ∧ Below w.heap.size w w':=two_calls s a b (.slice A n c) (.slice A2 n2 c2) rfl rfl rfl rfl w
set_option maxHeartbeats 16000000 in
set_option maxRecDepth 100000 in
theorem spec_b_and (a0 : Int) (a1 : ByteArray) (a2 : Int) (p q : S29) (x y n : Int) (b : Bool) (r0 : S29) (rb : Bool) (r1 : S29) (n1 : Int) (b1 : Bool) (r2 : S29) (n2 : Int) (b2 : Bool) (w u : World) (g : Nat) (P : Nat → Prop) (ad : Addr) (c : Nat) (tb : Tb w) (old : Below w.heap.size w u) (hg : w.heap.size ≤ g) (hP : ¬ P g) (hb : u.heap[g]? = some (.cells #[.int .i64 n,.bool b] 102 (0,0))) (ht : FootRow u P (.slice (some ad) 2 c,[p,q]))
  (hrow : RowC 114 (.slice (some ad) 2 c) (.agg #[.int .i64 a0,.string a1,.int .i64 a2,.slice (some ad) 2 c]) [p,q] (.agg #[.int .i64 1,.string (⟨#[]⟩ : ByteArray),.int .i64 y,.slice none 0 0]) r0 rb) (h1 : IsC 90 (some ad) 2 [p,q] (.agg #[.int .i64 a0,.string a1,.int .i64 a2,.slice (some ad) 2 c]) (⟨#[44]⟩ : ByteArray) 2 true) (ih1 : BodyOk 99 102 p x (newV n) (nxt n) b r1 n1 b1) (ih2 : BodyOk 99 102 q (newV n) y n1 b1 r2 n2 b2) :
  Calls Tryd.prog 99 #[.pointer (some ⟨g,0,none⟩),.agg #[.int .i64 a0,.string a1,.int .i64 a2,.slice (some ad) 2 c],.agg #[.int .i64 1,.string (⟨#[]⟩ : ByteArray),.int .i64 x,.slice none 0 0],.agg #[.int .i64 1,.string (⟨#[]⟩ : ByteArray),.int .i64 y,.slice none 0 0]] u fun e u' => BPost 102 w u g P (twoT COMMA r1 r2) n2 b2 e u':=by
 obtain ⟨A3,c3,A7,c7,hn,hx,hy,hfx,hfy⟩:=kid2 ht
 have HR:=asd ((run_fun (a:=As.box g 102 #[.int .i64 n,.bool b]) (ok:=fun k => k = g) old (fun k hk => hk ▸ hg) ⟨rfl,hb⟩).push (As.pool u P [(.slice none 0 0,[]),(.slice (some ad) 2 c,[p,q]),(.slice A3 p.f3.length c3,p.f3),(.slice A7 q.f3.length c7,q.f3)]) (Below.refl _ _) (pool_in (by intro z hz;simp only [List.mem_cons,List.not_mem_nil,or_false] at hz;rcases hz with rfl|rfl|rfl|rfl <;> first|exact foot_nil _ _|exact ht|exact hfx|exact hfy)))
 have HP:=asd (show ∀ k,P k → ¬ (k = g) from fun k hk e => hP (e ▸ hk))
 have HG:=asd hg
 have HTB:=asd tb
 have HNP:=asd (show ¬ (ad.block = g) from fun e => hP (e ▸ hn))
 have HX:=asd hx
 have HY:=asd hy
 have HROW:=asd hrow
 have H1:=asd h1
 have IH1:=asd ih1
 have IH2:=asd ih2
 clear tb old hg hP hb ht hn hfx hfy hx hy hrow h1 ih1 ih2
 go_enter Tryd.func99,Tryd.ntmps99
 go_wp2_with (first
  | ((with_reducible refine gate_dst (N:=5) rfl ?_);refine nb HR 5 (cs:=#[.int .i64 a0,.string a1,.int .i64 a2,.slice (some ad) 2 c]) (t:=29) rfl rfl (by first | (go_simp;done) | (go_simp;rfl)) ?_;clear HR;intro ga w1 HR)
  | ((with_reducible refine gate_dst (N:=6) rfl ?_);refine nb HR 6 (cs:=#[.int .i64 1,.string (⟨#[]⟩ : ByteArray),.int .i64 x,.slice none 0 0]) (t:=29) rfl rfl (by first | (go_simp;done) | (go_simp;rfl)) ?_;clear HR;intro gx w2 HR)
  | ((with_reducible refine gate_dst (N:=7) rfl ?_);refine nb HR 7 (cs:=#[.int .i64 1,.string (⟨#[]⟩ : ByteArray),.int .i64 y,.slice none 0 0]) (t:=29) rfl rfl (by first | (go_simp;done) | (go_simp;rfl)) ?_;clear HR;intro gy w3 HR)
  | ((with_reducible refine gate_dst (N:=8) rfl ?_);refine nb HR 8 (cs:=#[.int .i64 0,.string (⟨#[]⟩ : ByteArray),.int .i64 0,.slice none 0 0]) (t:=29) rfl rfl (by first | (go_simp;done) | (go_simp;rfl)) ?_;clear HR;intro gr w4 HR;obtain ⟨c4ga0,c4ga1,c4ga2,c4ga3⟩:=HR.out.c4 3 rfl;obtain ⟨c4gy0,c4gy1,c4gy2,c4gy3⟩:=HR.out.c4 1 rfl)
  | (go_at_call 114;obtain ⟨Q_,hQ_,hput_⟩:=HR.out.ask0 HP.out 4 rfl;(with_reducible refine (HROW.out.go w4 Q_ (hQ_ _ (by simp))).mono ?_);rintro e_ w5 ⟨A50,c50,rfl,hr_,hb_⟩;replace HR:=asd (hput_ _ [(.slice A50 r0.f3.length c50,r0.f3)] hb_ (by intro z hz;obtain rfl:=List.mem_singleton.1 hz;exact hr_));clear hQ_ hput_ hb_ Q_ hr_;clear c4ga0 c4ga1 c4ga2 c4ga3 c4gy0 c4gy1 c4gy2 c4gy3)
  | ((with_reducible refine gate_dst (N:=9) rfl ?_);refine nb HR 9 (cs:=#[.int .i64 0,.string (⟨#[]⟩ : ByteArray),.int .i64 0,.slice none 0 0]) (t:=29) rfl rfl (by first | (go_simp;done) | (go_simp;rfl)) ?_;clear HR;intro gl w6 HR;obtain ⟨c6gl0,c6gl1,c6gl2,c6gl3⟩:=HR.out.c4 0 rfl;obtain ⟨f6gl0,f6gl1,f6gl2,f6gl3⟩:=HR.out.f4 0 rfl)
  | ((with_reducible refine gate_store (t:=29) (p:=9) rfl ?_);refine stA HR 0 rfl [.int .i64 r0.f0,.string r0.f1,.int .i64 r0.f2,.slice A50 r0.f3.length c50] rfl rfl rfl rfl (by first | (go_simp;done) | (go_simp;rfl)) ?_;clear HR;intro w7 HR;clear c6gl0 c6gl1 c6gl2 c6gl3 f6gl0 f6gl1 f6gl2 f6gl3;obtain ⟨c7ga0,c7ga1,c7ga2,c7ga3⟩:=HR.out.c4 4 rfl)
  | (go_at_call 90;have hc_ : Kd.C k29 w7 (some ad) 2 [p,q]:=HR.out.poolC HP.out 5 rfl (c:=c) (by simp);(with_reducible refine (H1.out.go w7 hc_).mono ?_);rintro e_ w8 ⟨rfl,hb⟩;clear hc_;replace HR:=asd (HR.out.step hb);clear hb;clear c7ga0 c7ga1 c7ga2 c7ga3)
  | (go_at_call 96;obtain ⟨Q_,hQg_,hbx_,hQ_,hput_⟩:=HR.out.ask HP.out 5 6 rfl rfl (by decide);(with_reducible refine (spec_fresh w w8 g n b HR.out.bel HG.out hbx_).mono ?_);rintro e_ w9 ⟨rfl,hc_,hb_,hk_⟩;replace HR:=asd (hput_ _ _ [] hb_ hk_ hc_ (by intro z hz;exact absurd hz List.not_mem_nil));clear hQg_ hbx_ hQ_ hput_ hb_ hk_ hc_ Q_)
  | ((with_reducible refine gate_dst (N:=11) rfl ?_);refine nb HR 11 (cs:=#[.int .i64 0,.string (⟨#[]⟩ : ByteArray),.int .i64 0,.slice none 0 0]) (t:=29) rfl rfl (by first | (go_simp;done) | (go_simp;rfl)) ?_;clear HR;intro gz w10 HR;obtain ⟨c10gz0,c10gz1,c10gz2,c10gz3⟩:=HR.out.c4 0 rfl;obtain ⟨f10gz0,f10gz1,f10gz2,f10gz3⟩:=HR.out.f4 0 rfl)
  | ((with_reducible refine gate_store (t:=29) (p:=11) rfl ?_);refine stA HR 0 rfl [.int .i64 1,.string (⟨#[]⟩ : ByteArray),.int .i64 (newV n),.slice none 0 0] rfl rfl rfl rfl (by first | (go_simp;done) | (go_simp;rfl)) ?_;clear HR;intro w11 HR;clear c10gz0 c10gz1 c10gz2 c10gz3 f10gz0 f10gz1 f10gz2 f10gz3))
 replace HR:=asd (HR.out.drew)
 refine start_ (n:=10) (S:=fun w' => C4 w' ga (.int .i64 a0) (.string a1) (.int .i64 a2) (.slice (some ad) 2 c) ∧ C4 w' gx (.int .i64 1) (.string (⟨#[]⟩ : ByteArray)) (.int .i64 x) (.slice none 0 0) ∧ C4 w' gz (.int .i64 1) (.string (⟨#[]⟩ : ByteArray)) (.int .i64 (newV n)) (.slice none 0 0) ∧ D4 w' ad (.int .i64 p.f0) (.string p.f1) (.int .i64 p.f2) (.slice A3 p.f3.length c3)) (ds:=[9]) (bl 10 0) (by kernel_rfl) rfl rfl ⟨HR.out.c4 5 rfl,HR.out.c4 4 rfl,HR.out.c4 0 rfl,HR.out.d4 HX.out HNP.out⟩ (fun hHeld => ?_);refine with_tabW specb4_tab specb4_bits (fun HT_ HW_ => ?_)
 generalize w11.drew = w12 at HR hHeld ⊢
 refine pu 0 27 (bl 10 1) HT_ (by kernel_rfl) rfl rfl (by rfl) (fun _ _ _ h => h) (by intro w';go_simp;with_reducible rfl) (by simp only [Act.put,sa,s0,s1];rfl) ?_
 refine pu 1 28 (bl 10 3) HT_ (by kernel_rfl) rfl rfl (by rfl) (fun _ _ _ h => h) (by intro w';go_simp;with_reducible rfl) (by simp only [Act.put,sa,s0,s1];rfl) ?_
 refine tk 2 29 (bl 10 7) HT_ HW_ (by kernel_rfl) rfl rfl (by rfl) (fun _ _ _ h => h) hHeld (by rintro w' ⟨⟨s0,s1,s2,s3⟩,⟨s4,s5,s6,s7⟩,⟨s8,s9,s10,s11⟩,⟨s12,s13,s14,s15⟩⟩;go_simp;with_reducible rfl) (by simp only [Act.put,sa,s0,s1];rfl) ?_
 refine pu 3 30 (bl 10 15) HT_ (by kernel_rfl) rfl rfl (by rfl) (fun _ _ _ h => h) (by intro w';go_simp;with_reducible rfl) (by simp only [Act.put,sa,s0,s1];rfl) ?_
 refine tk 4 31 (bl 10 31) HT_ HW_ (by kernel_rfl) rfl rfl (by rfl) (fun _ _ _ h => h) hHeld (by rintro w' ⟨⟨s0,s1,s2,s3⟩,⟨s4,s5,s6,s7⟩,⟨s8,s9,s10,s11⟩,⟨s12,s13,s14,s15⟩⟩;go_simp;with_reducible rfl) (by simp only [Act.put,sa,s0,s1];rfl) ?_
 refine tk 5 32 (bl 10 63) HT_ HW_ (by kernel_rfl) rfl rfl (by rfl) (fun _ _ _ h => h) hHeld (by rintro w' ⟨⟨s0,s1,s2,s3⟩,⟨s4,s5,s6,s7⟩,⟨s8,s9,s10,s11⟩,⟨s12,s13,s14,s15⟩⟩;go_simp;with_reducible rfl) (by simp only [Act.put,sa,s0,s1];rfl) ?_
 refine tk 6 33 (bl 10 127) HT_ HW_ (by kernel_rfl) rfl rfl (by rfl) (fun _ _ _ h => h) hHeld (by rintro w' ⟨⟨s0,s1,s2,s3⟩,⟨s4,s5,s6,s7⟩,⟨s8,s9,s10,s11⟩,⟨s12,s13,s14,s15⟩⟩;go_simp;with_reducible rfl) (by simp only [Act.put,sa,s0,s1];rfl) ?_
 refine join_ (σ:=Option Addr × Nat × Nat) 1 (bl 10 511) (fun s => let ⟨A51,c51,gf⟩:=s;[(34,.agg #[.int .i64 r1.f0,.string r1.f1,.int .i64 r1.f2,.slice A51 r1.f3.length c51]),(12,.pointer (some ⟨gf,0,none⟩))]) (fun s w' => let ⟨A51,c51,gf⟩:=s;Run w u (fun k => k = g) [As.box gf 29 #[.int .i64 0,.string (⟨#[]⟩ : ByteArray),.int .i64 0,.slice none 0 0],As.box gz 29 #[.int .i64 1,.string (⟨#[]⟩ : ByteArray),.int .i64 (newV n),.slice none 0 0],As.box gl 29 #[.int .i64 r0.f0,.string r0.f1,.int .i64 r0.f2,.slice A50 r0.f3.length c50],As.box gr 29 #[.int .i64 0,.string (⟨#[]⟩ : ByteArray),.int .i64 0,.slice none 0 0],As.box gy 29 #[.int .i64 1,.string (⟨#[]⟩ : ByteArray),.int .i64 y,.slice none 0 0],As.box gx 29 #[.int .i64 1,.string (⟨#[]⟩ : ByteArray),.int .i64 x,.slice none 0 0],As.box ga 29 #[.int .i64 a0,.string a1,.int .i64 a2,.slice (some ad) 2 c],As.pool u P ([(.slice A51 r1.f3.length c51,r1.f3)] ++ ([] ++ ([(.slice A50 r0.f3.length c50,r0.f3)] ++ [(.slice none 0 0,[]),(.slice (some ad) 2 c,[p,q]),(.slice A3 p.f3.length c3,p.f3),(.slice A7 q.f3.length c7,q.f3)]))),As.box g 102 #[.int .i64 n1,.bool b1]] w') ?_ ?_
 rotate_left
 ·intro hCont
  refine tw 7 8 (some 34) (some 12) (bl 10 255) (bl 10 383) HT_ (by kernel_rfl) rfl rfl rfl rfl (by decide) (by decide) ?_ ?_
  ·skip
   obtain ⟨Q_,hQg_,hbx_,hQ_,hput_⟩:=HR.out.ask HP.out 6 7 rfl rfl (by decide)
   refine clS Tryd.func99 (by kernel_rfl) rfl #[.pointer (some ⟨g,0,none⟩),.agg #[.int .i64 p.f0,.string p.f1,.int .i64 p.f2,.slice A3 p.f3.length c3],.agg #[.int .i64 1,.string (⟨#[]⟩ : ByteArray),.int .i64 x,.slice none 0 0],.agg #[.int .i64 1,.string (⟨#[]⟩ : ByteArray),.int .i64 (newV n),.slice none 0 0]] (by rfl) rfl rfl (by (try simp only [List.map_toArray,List.map_cons,List.map_nil]);first|done|rfl) ((IH1.out.go w w12 g Q_ A3 c3 HTB.out HR.out.bel HG.out hQg_ hbx_ (hQ_ _ (by simp))).mono ?_)
   rintro e_ w13 hq_
   unfold BPost at hq_
   obtain ⟨A51,c51,rfl,hr_,hc_,hb_,hk_⟩:=hq_
   replace HR:=asd (hput_ _ _ [(.slice A51 r1.f3.length c51,r1.f3)] hb_ hk_ hc_ (by intro z hz;obtain rfl:=List.mem_singleton.1 hz;exact hr_))
   clear hQg_ hbx_ hQ_ hput_ hr_ hc_ hb_ hk_ Q_
   refine ⟨_,rfl,⟨HR.out.c4 5 rfl,HR.out.c4 4 rfl,HR.out.c4 0 rfl,HR.out.d4 HX.out HNP.out⟩,fun hHeld => ?_⟩
   refine nm (by simp only [Act.put,sa,s0,s1];rfl) ?_
   refine on 8 (some 12) (bl 10 511) HT_ (by kernel_rfl) rfl rfl (by decide) ?_
   refine nbS HR 12 (cs:=#[.int .i64 0,.string (⟨#[]⟩ : ByteArray),.int .i64 0,.slice none 0 0]) (t:=29) (by rfl) rfl (by first|(go_simp;done)|(go_simp;rfl)) ?_
   clear HR;intro gf w14 HR
   refine ⟨⟨HR.out.c4 6 rfl,HR.out.c4 5 rfl,HR.out.c4 1 rfl,HR.out.d4 HX.out HNP.out⟩,fun hHeld => ?_⟩
   refine nm (by simp only [Act.put,sa,s0,s1];rfl) ?_
   exact nm (by simp only [putAll,Act.put,sa,s0,s1]) (hCont (A51,c51,gf) _ HR.out)
  ·skip
   refine nbS HR 12 (cs:=#[.int .i64 0,.string (⟨#[]⟩ : ByteArray),.int .i64 0,.slice none 0 0]) (t:=29) (by rfl) rfl (by first|(go_simp;done)|(go_simp;rfl)) ?_
   clear HR;intro gf w13 HR
   refine ⟨⟨HR.out.c4 6 rfl,HR.out.c4 5 rfl,HR.out.c4 1 rfl,HR.out.d4 HX.out HNP.out⟩,fun hHeld => ?_⟩
   refine nm (by simp only [Act.put,sa,s0,s1];rfl) ?_
   refine on 7 (some 34) (bl 10 511) HT_ (by kernel_rfl) rfl rfl (by decide) ?_
   obtain ⟨Q_,hQg_,hbx_,hQ_,hput_⟩:=HR.out.ask HP.out 7 8 rfl rfl (by decide)
   refine clS Tryd.func99 (by kernel_rfl) rfl #[.pointer (some ⟨g,0,none⟩),.agg #[.int .i64 p.f0,.string p.f1,.int .i64 p.f2,.slice A3 p.f3.length c3],.agg #[.int .i64 1,.string (⟨#[]⟩ : ByteArray),.int .i64 x,.slice none 0 0],.agg #[.int .i64 1,.string (⟨#[]⟩ : ByteArray),.int .i64 (newV n),.slice none 0 0]] (by rfl) rfl rfl (by (try simp only [List.map_toArray,List.map_cons,List.map_nil]);first|done|rfl) ((IH1.out.go w w13 g Q_ A3 c3 HTB.out HR.out.bel HG.out hQg_ hbx_ (hQ_ _ (by simp))).mono ?_)
   rintro e_ w14 hq_
   unfold BPost at hq_
   obtain ⟨A51,c51,rfl,hr_,hc_,hb_,hk_⟩:=hq_
   replace HR:=asd (hput_ _ _ [(.slice A51 r1.f3.length c51,r1.f3)] hb_ hk_ hc_ (by intro z hz;obtain rfl:=List.mem_singleton.1 hz;exact hr_))
   clear hQg_ hbx_ hQ_ hput_ hr_ hc_ hb_ hk_ Q_
   refine ⟨_,rfl,⟨HR.out.c4 6 rfl,HR.out.c4 5 rfl,HR.out.c4 1 rfl,HR.out.d4 HX.out HNP.out⟩,fun hHeld => ?_⟩
   refine nm (by simp only [Act.put,sa,s0,s1];rfl) ?_
   exact nm (by simp only [putAll,Act.put,sa,s0,s1]) (hCont (A51,c51,gf) _ HR.out)
 rintro ⟨A51,c51,gf⟩ w15 hR_
 clear HR;have HR:=asd hR_;clear hR_;dsimp only at HR
 refine nm (by simp only [putAll,Act.put,sa,s0,s1];rfl) ?_
 obtain ⟨hz0_,hz1_,hz2_,hz3_⟩:=HR.out.c4 0 rfl;obtain ⟨fz0_,fz1_,fz2_,fz3_⟩:=HR.out.f4 0 rfl
 refine lsA HR 0 9 (bl 10 1023) HT_ (by kernel_rfl) rfl rfl (by decide) rfl [.int .i64 r1.f0,.string r1.f1,.int .i64 r1.f2,.slice A51 r1.f3.length c51] rfl (by rfl) (by first|(go_simp;done)|(go_simp;rfl)) ?_
 clear HR hz0_ hz1_ hz2_ hz3_ fz0_ fz1_ fz2_ fz3_;intro w16 HR
 refine done_ (done_of HT_.out (by kernel_rfl)) ?_
 go_wp2_with fail
 replace HR:=asd (HR.out.drew)
 refine start_ (n:=11) (S:=fun w' => C4 w' gf (.int .i64 r1.f0) (.string r1.f1) (.int .i64 r1.f2) (.slice A51 r1.f3.length c51) ∧ C4 w' ga (.int .i64 a0) (.string a1) (.int .i64 a2) (.slice (some ad) 2 c) ∧ C4 w' gz (.int .i64 1) (.string (⟨#[]⟩ : ByteArray)) (.int .i64 (newV n)) (.slice none 0 0) ∧ C4 w' gy (.int .i64 1) (.string (⟨#[]⟩ : ByteArray)) (.int .i64 y) (.slice none 0 0) ∧ E4 w' ad (.int .i64 q.f0) (.string q.f1) (.int .i64 q.f2) (.slice A7 q.f3.length c7)) (ds:=[10]) (bl 11 0) (by kernel_rfl) rfl rfl ⟨HR.out.c4 0 rfl,HR.out.c4 6 rfl,HR.out.c4 1 rfl,HR.out.c4 4 rfl,HR.out.e4 HY.out HNP.out⟩ (fun hHeld => ?_);refine with_tabW specb5_tab specb5_bits (fun HT_ HW_ => ?_)
 generalize w16.drew = w17 at HR hHeld ⊢
 refine tk 0 35 (bl 11 1) HT_ HW_ (by kernel_rfl) rfl rfl (by rfl) (fun _ _ _ h => h) hHeld (by rintro w' ⟨⟨s0,s1,s2,s3⟩,⟨s4,s5,s6,s7⟩,⟨s8,s9,s10,s11⟩,⟨s12,s13,s14,s15⟩,⟨s16,s17,s18,s19⟩⟩;go_simp;with_reducible rfl) (by simp only [Act.put,sa,s0,s1];rfl) ?_
 refine pu 1 36 (bl 11 3) HT_ (by kernel_rfl) rfl rfl (by rfl) (fun _ _ _ h => h) (by intro w';go_simp;with_reducible rfl) (by simp only [Act.put,sa,s0,s1];rfl) ?_
 refine pu 2 37 (bl 11 7) HT_ (by kernel_rfl) rfl rfl (by rfl) (fun _ _ _ h => h) (by intro w';go_simp;with_reducible rfl) (by simp only [Act.put,sa,s0,s1];rfl) ?_
 refine tk 3 38 (bl 11 15) HT_ HW_ (by kernel_rfl) rfl rfl (by rfl) (fun _ _ _ h => h) hHeld (by rintro w' ⟨⟨s0,s1,s2,s3⟩,⟨s4,s5,s6,s7⟩,⟨s8,s9,s10,s11⟩,⟨s12,s13,s14,s15⟩,⟨s16,s17,s18,s19⟩⟩;go_simp;with_reducible rfl) (by simp only [Act.put,sa,s0,s1];rfl) ?_
 refine pu 4 39 (bl 11 31) HT_ (by kernel_rfl) rfl rfl (by rfl) (fun _ _ _ h => h) (by intro w';go_simp;with_reducible rfl) (by simp only [Act.put,sa,s0,s1];rfl) ?_
 refine tk 5 40 (bl 11 63) HT_ HW_ (by kernel_rfl) rfl rfl (by rfl) (fun _ _ _ h => h) hHeld (by rintro w' ⟨⟨s0,s1,s2,s3⟩,⟨s4,s5,s6,s7⟩,⟨s8,s9,s10,s11⟩,⟨s12,s13,s14,s15⟩,⟨s16,s17,s18,s19⟩⟩;go_simp;with_reducible rfl) (by simp only [Act.put,sa,s0,s1];rfl) ?_
 refine tk 6 41 (bl 11 127) HT_ HW_ (by kernel_rfl) rfl rfl (by rfl) (fun _ _ _ h => h) hHeld (by rintro w' ⟨⟨s0,s1,s2,s3⟩,⟨s4,s5,s6,s7⟩,⟨s8,s9,s10,s11⟩,⟨s12,s13,s14,s15⟩,⟨s16,s17,s18,s19⟩⟩;go_simp;with_reducible rfl) (by simp only [Act.put,sa,s0,s1];rfl) ?_
 refine tk 7 42 (bl 11 255) HT_ HW_ (by kernel_rfl) rfl rfl (by rfl) (fun _ _ _ h => h) hHeld (by rintro w' ⟨⟨s0,s1,s2,s3⟩,⟨s4,s5,s6,s7⟩,⟨s8,s9,s10,s11⟩,⟨s12,s13,s14,s15⟩,⟨s16,s17,s18,s19⟩⟩;go_simp;with_reducible rfl) (by simp only [Act.put,sa,s0,s1];rfl) ?_
 refine on 8 (some 43) (bl 11 511) HT_ (by kernel_rfl) rfl rfl (by decide) ?_
 obtain ⟨Q_,hQg_,hbx_,hQ_,hput_⟩:=HR.out.ask HP.out 7 8 rfl rfl (by decide)
 refine clS Tryd.func99 (by kernel_rfl) rfl #[.pointer (some ⟨g,0,none⟩),.agg #[.int .i64 q.f0,.string q.f1,.int .i64 q.f2,.slice A7 q.f3.length c7],.agg #[.int .i64 1,.string (⟨#[]⟩ : ByteArray),.int .i64 (newV n),.slice none 0 0],.agg #[.int .i64 1,.string (⟨#[]⟩ : ByteArray),.int .i64 y,.slice none 0 0]] (by rfl) rfl rfl (by (try simp only [List.map_toArray,List.map_cons,List.map_nil]);first|done|rfl) ((IH2.out.go w w17 g Q_ A7 c7 HTB.out HR.out.bel HG.out hQg_ hbx_ (hQ_ _ (by simp))).mono ?_)
 rintro e_ w18 hq_
 unfold BPost at hq_
 obtain ⟨A52,c52,rfl,hr_,hc_,hb_,hk_⟩:=hq_
 replace HR:=asd (hput_ _ _ [(.slice A52 r2.f3.length c52,r2.f3)] hb_ hk_ hc_ (by intro z hz;obtain rfl:=List.mem_singleton.1 hz;exact hr_))
 clear hQg_ hbx_ hQ_ hput_ hr_ hc_ hb_ hk_ Q_
 refine ⟨_,rfl,⟨HR.out.c4 0 rfl,HR.out.c4 6 rfl,HR.out.c4 1 rfl,HR.out.c4 4 rfl,HR.out.e4 HY.out HNP.out⟩,fun hHeld => ?_⟩
 refine nm (by simp only [Act.put,sa,s0,s1];rfl) ?_
 refine on 9 (some 44) (bl 11 1023) HT_ (by kernel_rfl) rfl rfl (by decide) ?_
 refine clS Tryd.func97 (by kernel_rfl) rfl #[.string (⟨#[44]⟩ : ByteArray),.agg #[.int .i64 r1.f0,.string r1.f1,.int .i64 r1.f2,.slice A51 r1.f3.length c51],.agg #[.int .i64 r2.f0,.string r2.f1,.int .i64 r2.f2,.slice A52 r2.f3.length c52]] (by rfl) rfl rfl (by (try simp only [List.map_toArray,List.map_cons,List.map_nil]);first|done|rfl) ((two_calls (⟨#[44]⟩ : ByteArray) r1 r2 (.slice A51 r1.f3.length c51) (.slice A52 r2.f3.length c52) rfl rfl rfl rfl w18).mono ?_)
 rintro e_ w19 ⟨gq,rfl,ho,hb⟩
 replace HR:=asd (HR.out.push (As.box gq 29 #[.int .i64 r1.f0,.string r1.f1,.int .i64 r1.f2,.slice A51 r1.f3.length c51,.int .i64 r2.f0,.string r2.f1,.int .i64 r2.f2,.slice A52 r2.f3.length c52]) hb ho)
 clear hb ho
 refine ⟨_,rfl,⟨HR.out.c4 1 rfl,HR.out.c4 7 rfl,HR.out.c4 2 rfl,HR.out.c4 5 rfl,HR.out.e4 HY.out HNP.out⟩,fun hHeld => ?_⟩
 refine nm (by simp only [Act.put,sa,s0,s1];rfl) ?_
 obtain ⟨hz0_,hz1_,hz2_,hz3_⟩:=HR.out.c4 4 rfl;obtain ⟨fz0_,fz1_,fz2_,fz3_⟩:=HR.out.f4 4 rfl
 refine lsA HR 4 10 (bl 11 2047) HT_ (by kernel_rfl) rfl rfl (by decide) rfl [.int .i64 4,.string (⟨#[44]⟩ : ByteArray),.int .i64 0,.slice (some ⟨gq,0,none⟩) 2 2] rfl (by rfl) (by first|(go_simp;done)|(go_simp;rfl)) ?_
 clear HR hz0_ hz1_ hz2_ hz3_ fz0_ fz1_ fz2_ fz3_;intro w20 HR
 refine done_ (done_of HT_.out (by kernel_rfl)) ?_
 try go_wp2
 refine bodyPost_ret (results_cell_row rfl _ _ gr 29 #[.int .i64 4,.string (⟨#[44]⟩ : ByteArray),.int .i64 0,.slice (some ⟨gq,0,none⟩) 2 2] (0,0) _ rfl (HR.out.has 4 rfl).2 Tryd.underlying29 rfl (by kernel_rfl)) rfl ?_
 have HP0:=(HR.out).pool_lit 8 0 rfl rfl (by decide) [r1,r2] 2 rfl (by decide) (lit2_ok (va:=.slice A51 r1.f3.length c51) (vb:=.slice A52 r2.f3.length c52) (by simp) (by simp))
 exact ⟨some ⟨gq,0,none⟩,2,rfl,HP0.pool_out HP.out 8 rfl 9 rfl (by decide) (fun k hk => hk) _ (List.mem_cons_self),(HR.out.has 9 rfl).2,HR.out.below,HR.out.kept⟩
set_option maxHeartbeats 16000000 in
set_option maxRecDepth 100000 in
theorem spec_b_or (a0 : Int) (a1 : ByteArray) (a2 : Int) (p q : S29) (x y n : Int) (b : Bool) (r0 : S29) (rb : Bool) (r1 : S29) (n1 : Int) (b1 : Bool) (r2 : S29) (n2 : Int) (b2 : Bool) (w u : World) (g : Nat) (P : Nat → Prop) (ad : Addr) (c : Nat) (tb : Tb w) (old : Below w.heap.size w u) (hg : w.heap.size ≤ g) (hP : ¬ P g) (hb : u.heap[g]? = some (.cells #[.int .i64 n,.bool b] 102 (0,0))) (ht : FootRow u P (.slice (some ad) 2 c,[p,q]))
  (hrow : RowC 114 (.slice (some ad) 2 c) (.agg #[.int .i64 a0,.string a1,.int .i64 a2,.slice (some ad) 2 c]) [p,q] (.agg #[.int .i64 1,.string (⟨#[]⟩ : ByteArray),.int .i64 y,.slice none 0 0]) r0 rb) (h1 : IsC 90 (some ad) 2 [p,q] (.agg #[.int .i64 a0,.string a1,.int .i64 a2,.slice (some ad) 2 c]) (⟨#[44]⟩ : ByteArray) 2 false) (h2 : IsC 90 (some ad) 2 [p,q] (.agg #[.int .i64 a0,.string a1,.int .i64 a2,.slice (some ad) 2 c]) (⟨#[59]⟩ : ByteArray) 2 true) (ih1 : BodyOk 99 102 p x y n b r1 n1 b1) (ih2 : BodyOk 99 102 q x y n1 b1 r2 n2 b2) :
  Calls Tryd.prog 99 #[.pointer (some ⟨g,0,none⟩),.agg #[.int .i64 a0,.string a1,.int .i64 a2,.slice (some ad) 2 c],.agg #[.int .i64 1,.string (⟨#[]⟩ : ByteArray),.int .i64 x,.slice none 0 0],.agg #[.int .i64 1,.string (⟨#[]⟩ : ByteArray),.int .i64 y,.slice none 0 0]] u fun e u' => BPost 102 w u g P (twoT SEMI r1 r2) n2 b2 e u':=by
 obtain ⟨A3,c3,A7,c7,hn,hx,hy,hfx,hfy⟩:=kid2 ht
 have HR:=asd ((run_fun (a:=As.box g 102 #[.int .i64 n,.bool b]) (ok:=fun k => k = g) old (fun k hk => hk ▸ hg) ⟨rfl,hb⟩).push (As.pool u P [(.slice none 0 0,[]),(.slice (some ad) 2 c,[p,q]),(.slice A3 p.f3.length c3,p.f3),(.slice A7 q.f3.length c7,q.f3)]) (Below.refl _ _) (pool_in (by intro z hz;simp only [List.mem_cons,List.not_mem_nil,or_false] at hz;rcases hz with rfl|rfl|rfl|rfl <;> first|exact foot_nil _ _|exact ht|exact hfx|exact hfy)))
 have HP:=asd (show ∀ k,P k → ¬ (k = g) from fun k hk e => hP (e ▸ hk))
 have HG:=asd hg
 have HTB:=asd tb
 have HNP:=asd (show ¬ (ad.block = g) from fun e => hP (e ▸ hn))
 have HX:=asd hx
 have HY:=asd hy
 have HROW:=asd hrow
 have H1:=asd h1
 have H2:=asd h2
 have IH1:=asd ih1
 have IH2:=asd ih2
 clear tb old hg hP hb ht hn hfx hfy hx hy hrow h1 h2 ih1 ih2
 go_enter Tryd.func99,Tryd.ntmps99
 go_wp2_with (first
  | ((with_reducible refine gate_dst (N:=5) rfl ?_);refine nb HR 5 (cs:=#[.int .i64 a0,.string a1,.int .i64 a2,.slice (some ad) 2 c]) (t:=29) rfl rfl (by first | (go_simp;done) | (go_simp;rfl)) ?_;clear HR;intro ga w1 HR)
  | ((with_reducible refine gate_dst (N:=6) rfl ?_);refine nb HR 6 (cs:=#[.int .i64 1,.string (⟨#[]⟩ : ByteArray),.int .i64 x,.slice none 0 0]) (t:=29) rfl rfl (by first | (go_simp;done) | (go_simp;rfl)) ?_;clear HR;intro gx w2 HR)
  | ((with_reducible refine gate_dst (N:=7) rfl ?_);refine nb HR 7 (cs:=#[.int .i64 1,.string (⟨#[]⟩ : ByteArray),.int .i64 y,.slice none 0 0]) (t:=29) rfl rfl (by first | (go_simp;done) | (go_simp;rfl)) ?_;clear HR;intro gy w3 HR)
  | ((with_reducible refine gate_dst (N:=8) rfl ?_);refine nb HR 8 (cs:=#[.int .i64 0,.string (⟨#[]⟩ : ByteArray),.int .i64 0,.slice none 0 0]) (t:=29) rfl rfl (by first | (go_simp;done) | (go_simp;rfl)) ?_;clear HR;intro gr w4 HR;obtain ⟨c4ga0,c4ga1,c4ga2,c4ga3⟩:=HR.out.c4 3 rfl;obtain ⟨c4gy0,c4gy1,c4gy2,c4gy3⟩:=HR.out.c4 1 rfl)
  | (go_at_call 114;obtain ⟨Q_,hQ_,hput_⟩:=HR.out.ask0 HP.out 4 rfl;(with_reducible refine (HROW.out.go w4 Q_ (hQ_ _ (by simp))).mono ?_);rintro e_ w5 ⟨A50,c50,rfl,hr_,hb_⟩;replace HR:=asd (hput_ _ [(.slice A50 r0.f3.length c50,r0.f3)] hb_ (by intro z hz;obtain rfl:=List.mem_singleton.1 hz;exact hr_));clear hQ_ hput_ hb_ Q_ hr_;clear c4ga0 c4ga1 c4ga2 c4ga3 c4gy0 c4gy1 c4gy2 c4gy3)
  | ((with_reducible refine gate_dst (N:=9) rfl ?_);refine nb HR 9 (cs:=#[.int .i64 0,.string (⟨#[]⟩ : ByteArray),.int .i64 0,.slice none 0 0]) (t:=29) rfl rfl (by first | (go_simp;done) | (go_simp;rfl)) ?_;clear HR;intro gl w6 HR;obtain ⟨c6gl0,c6gl1,c6gl2,c6gl3⟩:=HR.out.c4 0 rfl;obtain ⟨f6gl0,f6gl1,f6gl2,f6gl3⟩:=HR.out.f4 0 rfl)
  | ((with_reducible refine gate_store (t:=29) (p:=9) rfl ?_);refine stA HR 0 rfl [.int .i64 r0.f0,.string r0.f1,.int .i64 r0.f2,.slice A50 r0.f3.length c50] rfl rfl rfl rfl (by first | (go_simp;done) | (go_simp;rfl)) ?_;clear HR;intro w7 HR;clear c6gl0 c6gl1 c6gl2 c6gl3 f6gl0 f6gl1 f6gl2 f6gl3;obtain ⟨c7ga0,c7ga1,c7ga2,c7ga3⟩:=HR.out.c4 4 rfl)
  | (go_at_call 90;have hc_ : Kd.C k29 w7 (some ad) 2 [p,q]:=HR.out.poolC HP.out 5 rfl (c:=c) (by simp);(with_reducible refine (H1.out.go w7 hc_).mono ?_);rintro e_ w8 ⟨rfl,hb⟩;clear hc_;replace HR:=asd (HR.out.step hb);clear hb;clear c7ga0 c7ga1 c7ga2 c7ga3;obtain ⟨c8ga0,c8ga1,c8ga2,c8ga3⟩:=HR.out.c4 4 rfl)
  | (go_at_call 90;have hc_ : Kd.C k29 w8 (some ad) 2 [p,q]:=HR.out.poolC HP.out 5 rfl (c:=c) (by simp);(with_reducible refine (H2.out.go w8 hc_).mono ?_);rintro e_ w9 ⟨rfl,hb⟩;clear hc_;replace HR:=asd (HR.out.step hb);clear hb;clear c8ga0 c8ga1 c8ga2 c8ga3))
 replace HR:=asd (HR.out.drew)
 refine start_ (n:=10) (S:=fun w' => C4 w' ga (.int .i64 a0) (.string a1) (.int .i64 a2) (.slice (some ad) 2 c) ∧ C4 w' gx (.int .i64 1) (.string (⟨#[]⟩ : ByteArray)) (.int .i64 x) (.slice none 0 0) ∧ C4 w' gy (.int .i64 1) (.string (⟨#[]⟩ : ByteArray)) (.int .i64 y) (.slice none 0 0) ∧ D4 w' ad (.int .i64 p.f0) (.string p.f1) (.int .i64 p.f2) (.slice A3 p.f3.length c3)) (ds:=[9]) (bl 10 0) (by kernel_rfl) rfl rfl ⟨HR.out.c4 4 rfl,HR.out.c4 3 rfl,HR.out.c4 2 rfl,HR.out.d4 HX.out HNP.out⟩ (fun hHeld => ?_);refine with_tabW specb7_tab specb7_bits (fun HT_ HW_ => ?_)
 generalize w9.drew = w10 at HR hHeld ⊢
 refine pu 0 48 (bl 10 1) HT_ (by kernel_rfl) rfl rfl (by rfl) (fun _ _ _ h => h) (by intro w';go_simp;with_reducible rfl) (by simp only [Act.put,sa,s0,s1];rfl) ?_
 refine pu 1 49 (bl 10 3) HT_ (by kernel_rfl) rfl rfl (by rfl) (fun _ _ _ h => h) (by intro w';go_simp;with_reducible rfl) (by simp only [Act.put,sa,s0,s1];rfl) ?_
 refine tk 2 50 (bl 10 7) HT_ HW_ (by kernel_rfl) rfl rfl (by rfl) (fun _ _ _ h => h) hHeld (by rintro w' ⟨⟨s0,s1,s2,s3⟩,⟨s4,s5,s6,s7⟩,⟨s8,s9,s10,s11⟩,⟨s12,s13,s14,s15⟩⟩;go_simp;with_reducible rfl) (by simp only [Act.put,sa,s0,s1];rfl) ?_
 refine pu 3 51 (bl 10 15) HT_ (by kernel_rfl) rfl rfl (by rfl) (fun _ _ _ h => h) (by intro w';go_simp;with_reducible rfl) (by simp only [Act.put,sa,s0,s1];rfl) ?_
 refine tk 4 52 (bl 10 31) HT_ HW_ (by kernel_rfl) rfl rfl (by rfl) (fun _ _ _ h => h) hHeld (by rintro w' ⟨⟨s0,s1,s2,s3⟩,⟨s4,s5,s6,s7⟩,⟨s8,s9,s10,s11⟩,⟨s12,s13,s14,s15⟩⟩;go_simp;with_reducible rfl) (by simp only [Act.put,sa,s0,s1];rfl) ?_
 refine tk 5 53 (bl 10 63) HT_ HW_ (by kernel_rfl) rfl rfl (by rfl) (fun _ _ _ h => h) hHeld (by rintro w' ⟨⟨s0,s1,s2,s3⟩,⟨s4,s5,s6,s7⟩,⟨s8,s9,s10,s11⟩,⟨s12,s13,s14,s15⟩⟩;go_simp;with_reducible rfl) (by simp only [Act.put,sa,s0,s1];rfl) ?_
 refine tk 6 54 (bl 10 127) HT_ HW_ (by kernel_rfl) rfl rfl (by rfl) (fun _ _ _ h => h) hHeld (by rintro w' ⟨⟨s0,s1,s2,s3⟩,⟨s4,s5,s6,s7⟩,⟨s8,s9,s10,s11⟩,⟨s12,s13,s14,s15⟩⟩;go_simp;with_reducible rfl) (by simp only [Act.put,sa,s0,s1];rfl) ?_
 refine join_ (σ:=Option Addr × Nat × Nat) 1 (bl 10 511) (fun s => let ⟨A51,c51,gf⟩:=s;[(55,.agg #[.int .i64 r1.f0,.string r1.f1,.int .i64 r1.f2,.slice A51 r1.f3.length c51]),(13,.pointer (some ⟨gf,0,none⟩))]) (fun s w' => let ⟨A51,c51,gf⟩:=s;Run w u (fun k => k = g) [As.box gf 29 #[.int .i64 0,.string (⟨#[]⟩ : ByteArray),.int .i64 0,.slice none 0 0],As.box gl 29 #[.int .i64 r0.f0,.string r0.f1,.int .i64 r0.f2,.slice A50 r0.f3.length c50],As.box gr 29 #[.int .i64 0,.string (⟨#[]⟩ : ByteArray),.int .i64 0,.slice none 0 0],As.box gy 29 #[.int .i64 1,.string (⟨#[]⟩ : ByteArray),.int .i64 y,.slice none 0 0],As.box gx 29 #[.int .i64 1,.string (⟨#[]⟩ : ByteArray),.int .i64 x,.slice none 0 0],As.box ga 29 #[.int .i64 a0,.string a1,.int .i64 a2,.slice (some ad) 2 c],As.pool u P ([(.slice A51 r1.f3.length c51,r1.f3)] ++ ([(.slice A50 r0.f3.length c50,r0.f3)] ++ [(.slice none 0 0,[]),(.slice (some ad) 2 c,[p,q]),(.slice A3 p.f3.length c3,p.f3),(.slice A7 q.f3.length c7,q.f3)])),As.box g 102 #[.int .i64 n1,.bool b1]] w') ?_ ?_
 rotate_left
 ·intro hCont
  refine tw 7 8 (some 55) (some 13) (bl 10 255) (bl 10 383) HT_ (by kernel_rfl) rfl rfl rfl rfl (by decide) (by decide) ?_ ?_
  ·skip
   obtain ⟨Q_,hQg_,hbx_,hQ_,hput_⟩:=HR.out.ask HP.out 5 6 rfl rfl (by decide)
   refine clS Tryd.func99 (by kernel_rfl) rfl #[.pointer (some ⟨g,0,none⟩),.agg #[.int .i64 p.f0,.string p.f1,.int .i64 p.f2,.slice A3 p.f3.length c3],.agg #[.int .i64 1,.string (⟨#[]⟩ : ByteArray),.int .i64 x,.slice none 0 0],.agg #[.int .i64 1,.string (⟨#[]⟩ : ByteArray),.int .i64 y,.slice none 0 0]] (by rfl) rfl rfl (by (try simp only [List.map_toArray,List.map_cons,List.map_nil]);first|done|rfl) ((IH1.out.go w w10 g Q_ A3 c3 HTB.out HR.out.bel HG.out hQg_ hbx_ (hQ_ _ (by simp))).mono ?_)
   rintro e_ w11 hq_
   unfold BPost at hq_
   obtain ⟨A51,c51,rfl,hr_,hc_,hb_,hk_⟩:=hq_
   replace HR:=asd (hput_ _ _ [(.slice A51 r1.f3.length c51,r1.f3)] hb_ hk_ hc_ (by intro z hz;obtain rfl:=List.mem_singleton.1 hz;exact hr_))
   clear hQg_ hbx_ hQ_ hput_ hr_ hc_ hb_ hk_ Q_
   refine ⟨_,rfl,⟨HR.out.c4 4 rfl,HR.out.c4 3 rfl,HR.out.c4 2 rfl,HR.out.d4 HX.out HNP.out⟩,fun hHeld => ?_⟩
   refine nm (by simp only [Act.put,sa,s0,s1];rfl) ?_
   refine on 8 (some 13) (bl 10 511) HT_ (by kernel_rfl) rfl rfl (by decide) ?_
   refine nbS HR 13 (cs:=#[.int .i64 0,.string (⟨#[]⟩ : ByteArray),.int .i64 0,.slice none 0 0]) (t:=29) (by rfl) rfl (by first|(go_simp;done)|(go_simp;rfl)) ?_
   clear HR;intro gf w12 HR
   refine ⟨⟨HR.out.c4 5 rfl,HR.out.c4 4 rfl,HR.out.c4 3 rfl,HR.out.d4 HX.out HNP.out⟩,fun hHeld => ?_⟩
   refine nm (by simp only [Act.put,sa,s0,s1];rfl) ?_
   exact nm (by simp only [putAll,Act.put,sa,s0,s1]) (hCont (A51,c51,gf) _ HR.out)
  ·skip
   refine nbS HR 13 (cs:=#[.int .i64 0,.string (⟨#[]⟩ : ByteArray),.int .i64 0,.slice none 0 0]) (t:=29) (by rfl) rfl (by first|(go_simp;done)|(go_simp;rfl)) ?_
   clear HR;intro gf w11 HR
   refine ⟨⟨HR.out.c4 5 rfl,HR.out.c4 4 rfl,HR.out.c4 3 rfl,HR.out.d4 HX.out HNP.out⟩,fun hHeld => ?_⟩
   refine nm (by simp only [Act.put,sa,s0,s1];rfl) ?_
   refine on 7 (some 55) (bl 10 511) HT_ (by kernel_rfl) rfl rfl (by decide) ?_
   obtain ⟨Q_,hQg_,hbx_,hQ_,hput_⟩:=HR.out.ask HP.out 6 7 rfl rfl (by decide)
   refine clS Tryd.func99 (by kernel_rfl) rfl #[.pointer (some ⟨g,0,none⟩),.agg #[.int .i64 p.f0,.string p.f1,.int .i64 p.f2,.slice A3 p.f3.length c3],.agg #[.int .i64 1,.string (⟨#[]⟩ : ByteArray),.int .i64 x,.slice none 0 0],.agg #[.int .i64 1,.string (⟨#[]⟩ : ByteArray),.int .i64 y,.slice none 0 0]] (by rfl) rfl rfl (by (try simp only [List.map_toArray,List.map_cons,List.map_nil]);first|done|rfl) ((IH1.out.go w w11 g Q_ A3 c3 HTB.out HR.out.bel HG.out hQg_ hbx_ (hQ_ _ (by simp))).mono ?_)
   rintro e_ w12 hq_
   unfold BPost at hq_
   obtain ⟨A51,c51,rfl,hr_,hc_,hb_,hk_⟩:=hq_
   replace HR:=asd (hput_ _ _ [(.slice A51 r1.f3.length c51,r1.f3)] hb_ hk_ hc_ (by intro z hz;obtain rfl:=List.mem_singleton.1 hz;exact hr_))
   clear hQg_ hbx_ hQ_ hput_ hr_ hc_ hb_ hk_ Q_
   refine ⟨_,rfl,⟨HR.out.c4 5 rfl,HR.out.c4 4 rfl,HR.out.c4 3 rfl,HR.out.d4 HX.out HNP.out⟩,fun hHeld => ?_⟩
   refine nm (by simp only [Act.put,sa,s0,s1];rfl) ?_
   exact nm (by simp only [putAll,Act.put,sa,s0,s1]) (hCont (A51,c51,gf) _ HR.out)
 rintro ⟨A51,c51,gf⟩ w13 hR_
 clear HR;have HR:=asd hR_;clear hR_;dsimp only at HR
 refine nm (by simp only [putAll,Act.put,sa,s0,s1];rfl) ?_
 obtain ⟨hz0_,hz1_,hz2_,hz3_⟩:=HR.out.c4 0 rfl;obtain ⟨fz0_,fz1_,fz2_,fz3_⟩:=HR.out.f4 0 rfl
 refine lsA HR 0 9 (bl 10 1023) HT_ (by kernel_rfl) rfl rfl (by decide) rfl [.int .i64 r1.f0,.string r1.f1,.int .i64 r1.f2,.slice A51 r1.f3.length c51] rfl (by rfl) (by first|(go_simp;done)|(go_simp;rfl)) ?_
 clear HR hz0_ hz1_ hz2_ hz3_ fz0_ fz1_ fz2_ fz3_;intro w14 HR
 refine done_ (done_of HT_.out (by kernel_rfl)) ?_
 go_wp2_with fail
 replace HR:=asd (HR.out.drew)
 refine start_ (n:=11) (S:=fun w' => C4 w' gf (.int .i64 r1.f0) (.string r1.f1) (.int .i64 r1.f2) (.slice A51 r1.f3.length c51) ∧ C4 w' ga (.int .i64 a0) (.string a1) (.int .i64 a2) (.slice (some ad) 2 c) ∧ C4 w' gx (.int .i64 1) (.string (⟨#[]⟩ : ByteArray)) (.int .i64 x) (.slice none 0 0) ∧ C4 w' gy (.int .i64 1) (.string (⟨#[]⟩ : ByteArray)) (.int .i64 y) (.slice none 0 0) ∧ E4 w' ad (.int .i64 q.f0) (.string q.f1) (.int .i64 q.f2) (.slice A7 q.f3.length c7)) (ds:=[10]) (bl 11 0) (by kernel_rfl) rfl rfl ⟨HR.out.c4 0 rfl,HR.out.c4 5 rfl,HR.out.c4 4 rfl,HR.out.c4 3 rfl,HR.out.e4 HY.out HNP.out⟩ (fun hHeld => ?_);refine with_tabW specb8_tab specb8_bits (fun HT_ HW_ => ?_)
 generalize w14.drew = w15 at HR hHeld ⊢
 refine tk 0 56 (bl 11 1) HT_ HW_ (by kernel_rfl) rfl rfl (by rfl) (fun _ _ _ h => h) hHeld (by rintro w' ⟨⟨s0,s1,s2,s3⟩,⟨s4,s5,s6,s7⟩,⟨s8,s9,s10,s11⟩,⟨s12,s13,s14,s15⟩,⟨s16,s17,s18,s19⟩⟩;go_simp;with_reducible rfl) (by simp only [Act.put,sa,s0,s1];rfl) ?_
 refine pu 1 57 (bl 11 3) HT_ (by kernel_rfl) rfl rfl (by rfl) (fun _ _ _ h => h) (by intro w';go_simp;with_reducible rfl) (by simp only [Act.put,sa,s0,s1];rfl) ?_
 refine pu 2 58 (bl 11 7) HT_ (by kernel_rfl) rfl rfl (by rfl) (fun _ _ _ h => h) (by intro w';go_simp;with_reducible rfl) (by simp only [Act.put,sa,s0,s1];rfl) ?_
 refine tk 3 59 (bl 11 15) HT_ HW_ (by kernel_rfl) rfl rfl (by rfl) (fun _ _ _ h => h) hHeld (by rintro w' ⟨⟨s0,s1,s2,s3⟩,⟨s4,s5,s6,s7⟩,⟨s8,s9,s10,s11⟩,⟨s12,s13,s14,s15⟩,⟨s16,s17,s18,s19⟩⟩;go_simp;with_reducible rfl) (by simp only [Act.put,sa,s0,s1];rfl) ?_
 refine pu 4 60 (bl 11 31) HT_ (by kernel_rfl) rfl rfl (by rfl) (fun _ _ _ h => h) (by intro w';go_simp;with_reducible rfl) (by simp only [Act.put,sa,s0,s1];rfl) ?_
 refine tk 5 61 (bl 11 63) HT_ HW_ (by kernel_rfl) rfl rfl (by rfl) (fun _ _ _ h => h) hHeld (by rintro w' ⟨⟨s0,s1,s2,s3⟩,⟨s4,s5,s6,s7⟩,⟨s8,s9,s10,s11⟩,⟨s12,s13,s14,s15⟩,⟨s16,s17,s18,s19⟩⟩;go_simp;with_reducible rfl) (by simp only [Act.put,sa,s0,s1];rfl) ?_
 refine tk 6 62 (bl 11 127) HT_ HW_ (by kernel_rfl) rfl rfl (by rfl) (fun _ _ _ h => h) hHeld (by rintro w' ⟨⟨s0,s1,s2,s3⟩,⟨s4,s5,s6,s7⟩,⟨s8,s9,s10,s11⟩,⟨s12,s13,s14,s15⟩,⟨s16,s17,s18,s19⟩⟩;go_simp;with_reducible rfl) (by simp only [Act.put,sa,s0,s1];rfl) ?_
 refine tk 7 63 (bl 11 255) HT_ HW_ (by kernel_rfl) rfl rfl (by rfl) (fun _ _ _ h => h) hHeld (by rintro w' ⟨⟨s0,s1,s2,s3⟩,⟨s4,s5,s6,s7⟩,⟨s8,s9,s10,s11⟩,⟨s12,s13,s14,s15⟩,⟨s16,s17,s18,s19⟩⟩;go_simp;with_reducible rfl) (by simp only [Act.put,sa,s0,s1];rfl) ?_
 refine on 8 (some 64) (bl 11 511) HT_ (by kernel_rfl) rfl rfl (by decide) ?_
 obtain ⟨Q_,hQg_,hbx_,hQ_,hput_⟩:=HR.out.ask HP.out 6 7 rfl rfl (by decide)
 refine clS Tryd.func99 (by kernel_rfl) rfl #[.pointer (some ⟨g,0,none⟩),.agg #[.int .i64 q.f0,.string q.f1,.int .i64 q.f2,.slice A7 q.f3.length c7],.agg #[.int .i64 1,.string (⟨#[]⟩ : ByteArray),.int .i64 x,.slice none 0 0],.agg #[.int .i64 1,.string (⟨#[]⟩ : ByteArray),.int .i64 y,.slice none 0 0]] (by rfl) rfl rfl (by (try simp only [List.map_toArray,List.map_cons,List.map_nil]);first|done|rfl) ((IH2.out.go w w15 g Q_ A7 c7 HTB.out HR.out.bel HG.out hQg_ hbx_ (hQ_ _ (by simp))).mono ?_)
 rintro e_ w16 hq_
 unfold BPost at hq_
 obtain ⟨A52,c52,rfl,hr_,hc_,hb_,hk_⟩:=hq_
 replace HR:=asd (hput_ _ _ [(.slice A52 r2.f3.length c52,r2.f3)] hb_ hk_ hc_ (by intro z hz;obtain rfl:=List.mem_singleton.1 hz;exact hr_))
 clear hQg_ hbx_ hQ_ hput_ hr_ hc_ hb_ hk_ Q_
 refine ⟨_,rfl,⟨HR.out.c4 0 rfl,HR.out.c4 5 rfl,HR.out.c4 4 rfl,HR.out.c4 3 rfl,HR.out.e4 HY.out HNP.out⟩,fun hHeld => ?_⟩
 refine nm (by simp only [Act.put,sa,s0,s1];rfl) ?_
 refine on 9 (some 65) (bl 11 1023) HT_ (by kernel_rfl) rfl rfl (by decide) ?_
 refine clS Tryd.func97 (by kernel_rfl) rfl #[.string (⟨#[59]⟩ : ByteArray),.agg #[.int .i64 r1.f0,.string r1.f1,.int .i64 r1.f2,.slice A51 r1.f3.length c51],.agg #[.int .i64 r2.f0,.string r2.f1,.int .i64 r2.f2,.slice A52 r2.f3.length c52]] (by rfl) rfl rfl (by (try simp only [List.map_toArray,List.map_cons,List.map_nil]);first|done|rfl) ((two_calls (⟨#[59]⟩ : ByteArray) r1 r2 (.slice A51 r1.f3.length c51) (.slice A52 r2.f3.length c52) rfl rfl rfl rfl w16).mono ?_)
 rintro e_ w17 ⟨gq,rfl,ho,hb⟩
 replace HR:=asd (HR.out.push (As.box gq 29 #[.int .i64 r1.f0,.string r1.f1,.int .i64 r1.f2,.slice A51 r1.f3.length c51,.int .i64 r2.f0,.string r2.f1,.int .i64 r2.f2,.slice A52 r2.f3.length c52]) hb ho)
 clear hb ho
 refine ⟨_,rfl,⟨HR.out.c4 1 rfl,HR.out.c4 6 rfl,HR.out.c4 5 rfl,HR.out.c4 4 rfl,HR.out.e4 HY.out HNP.out⟩,fun hHeld => ?_⟩
 refine nm (by simp only [Act.put,sa,s0,s1];rfl) ?_
 obtain ⟨hz0_,hz1_,hz2_,hz3_⟩:=HR.out.c4 3 rfl;obtain ⟨fz0_,fz1_,fz2_,fz3_⟩:=HR.out.f4 3 rfl
 refine lsA HR 3 10 (bl 11 2047) HT_ (by kernel_rfl) rfl rfl (by decide) rfl [.int .i64 4,.string (⟨#[59]⟩ : ByteArray),.int .i64 0,.slice (some ⟨gq,0,none⟩) 2 2] rfl (by rfl) (by first|(go_simp;done)|(go_simp;rfl)) ?_
 clear HR hz0_ hz1_ hz2_ hz3_ fz0_ fz1_ fz2_ fz3_;intro w18 HR
 refine done_ (done_of HT_.out (by kernel_rfl)) ?_
 try go_wp2
 refine bodyPost_ret (results_cell_row rfl _ _ gr 29 #[.int .i64 4,.string (⟨#[59]⟩ : ByteArray),.int .i64 0,.slice (some ⟨gq,0,none⟩) 2 2] (0,0) _ rfl (HR.out.has 3 rfl).2 Tryd.underlying29 rfl (by kernel_rfl)) rfl ?_
 have HP0:=(HR.out).pool_lit 7 0 rfl rfl (by decide) [r1,r2] 2 rfl (by decide) (lit2_ok (va:=.slice A51 r1.f3.length c51) (vb:=.slice A52 r2.f3.length c52) (by simp) (by simp))
 exact ⟨some ⟨gq,0,none⟩,2,rfl,HP0.pool_out HP.out 7 rfl 8 rfl (by decide) (fun k hk => hk) _ (List.mem_cons_self),(HR.out.has 8 rfl).2,HR.out.below,HR.out.kept⟩
set_option maxHeartbeats 16000000 in
set_option maxRecDepth 100000 in
theorem spec_b_not (a0 : Int) (a1 : ByteArray) (a2 : Int) (p : S29) (x y n : Int) (b : Bool) (r0 : S29) (rb : Bool) (r1 : S29) (n1 : Int) (b1 : Bool) (w u : World) (g : Nat) (P : Nat → Prop) (ad : Addr) (c : Nat) (tb : Tb w) (old : Below w.heap.size w u) (hg : w.heap.size ≤ g) (hP : ¬ P g) (hb : u.heap[g]? = some (.cells #[.int .i64 n,.bool b] 102 (0,0))) (ht : FootRow u P (.slice (some ad) 1 c,[p]))
  (hrow : RowC 114 (.slice (some ad) 1 c) (.agg #[.int .i64 a0,.string a1,.int .i64 a2,.slice (some ad) 1 c]) [p] (.agg #[.int .i64 1,.string (⟨#[]⟩ : ByteArray),.int .i64 y,.slice none 0 0]) r0 rb) (h1 : IsC 90 (some ad) 1 [p] (.agg #[.int .i64 a0,.string a1,.int .i64 a2,.slice (some ad) 1 c]) (⟨#[44]⟩ : ByteArray) 2 false) (h2 : IsC 90 (some ad) 1 [p] (.agg #[.int .i64 a0,.string a1,.int .i64 a2,.slice (some ad) 1 c]) (⟨#[59]⟩ : ByteArray) 2 false) (h3 : IsC 90 (some ad) 1 [p] (.agg #[.int .i64 a0,.string a1,.int .i64 a2,.slice (some ad) 1 c]) (⟨#[92,43]⟩ : ByteArray) 1 true) (ih1 : BodyOk 99 102 p x (newV n) (nxt n) b r1 n1 b1) :
  Calls Tryd.prog 99 #[.pointer (some ⟨g,0,none⟩),.agg #[.int .i64 a0,.string a1,.int .i64 a2,.slice (some ad) 1 c],.agg #[.int .i64 1,.string (⟨#[]⟩ : ByteArray),.int .i64 x,.slice none 0 0],.agg #[.int .i64 1,.string (⟨#[]⟩ : ByteArray),.int .i64 y,.slice none 0 0]] u fun e u' => BPost 102 w u g P (twoT COMMA ⟨4,NOT,0,[r1]⟩ (twoT EQ1 (varT x) (varT y))) n1 b1 e u':=by
 obtain ⟨A3,c3,hn,hx,hfx⟩:=kid1 ht
 have HR:=asd ((run_fun (a:=As.box g 102 #[.int .i64 n,.bool b]) (ok:=fun k => k = g) old (fun k hk => hk ▸ hg) ⟨rfl,hb⟩).push (As.pool u P [(.slice none 0 0,[]),(.slice (some ad) 1 c,[p]),(.slice A3 p.f3.length c3,p.f3)]) (Below.refl _ _) (pool_in (by intro z hz;simp only [List.mem_cons,List.not_mem_nil,or_false] at hz;rcases hz with rfl|rfl|rfl <;> first|exact foot_nil _ _|exact ht|exact hfx)))
 have HP:=asd (show ∀ k,P k → ¬ (k = g) from fun k hk e => hP (e ▸ hk))
 have HG:=asd hg
 have HTB:=asd tb
 have HNP:=asd (show ¬ (ad.block = g) from fun e => hP (e ▸ hn))
 have HX:=asd hx
 have HROW:=asd hrow
 have H1:=asd h1
 have H2:=asd h2
 have H3:=asd h3
 have IH1:=asd ih1
 clear tb old hg hP hb ht hn hfx hx hrow h1 h2 h3 ih1
 go_enter Tryd.func99,Tryd.ntmps99
 go_wp2_with (first
  | ((with_reducible refine gate_dst (N:=5) rfl ?_);refine nb HR 5 (cs:=#[.int .i64 a0,.string a1,.int .i64 a2,.slice (some ad) 1 c]) (t:=29) rfl rfl (by first | (go_simp;done) | (go_simp;rfl)) ?_;clear HR;intro ga w1 HR)
  | ((with_reducible refine gate_dst (N:=6) rfl ?_);refine nb HR 6 (cs:=#[.int .i64 1,.string (⟨#[]⟩ : ByteArray),.int .i64 x,.slice none 0 0]) (t:=29) rfl rfl (by first | (go_simp;done) | (go_simp;rfl)) ?_;clear HR;intro gx w2 HR)
  | ((with_reducible refine gate_dst (N:=7) rfl ?_);refine nb HR 7 (cs:=#[.int .i64 1,.string (⟨#[]⟩ : ByteArray),.int .i64 y,.slice none 0 0]) (t:=29) rfl rfl (by first | (go_simp;done) | (go_simp;rfl)) ?_;clear HR;intro gy w3 HR)
  | ((with_reducible refine gate_dst (N:=8) rfl ?_);refine nb HR 8 (cs:=#[.int .i64 0,.string (⟨#[]⟩ : ByteArray),.int .i64 0,.slice none 0 0]) (t:=29) rfl rfl (by first | (go_simp;done) | (go_simp;rfl)) ?_;clear HR;intro gr w4 HR;obtain ⟨c4ga0,c4ga1,c4ga2,c4ga3⟩:=HR.out.c4 3 rfl;obtain ⟨c4gy0,c4gy1,c4gy2,c4gy3⟩:=HR.out.c4 1 rfl)
  | (go_at_call 114;obtain ⟨Q_,hQ_,hput_⟩:=HR.out.ask0 HP.out 4 rfl;(with_reducible refine (HROW.out.go w4 Q_ (hQ_ _ (by simp))).mono ?_);rintro e_ w5 ⟨A50,c50,rfl,hr_,hb_⟩;replace HR:=asd (hput_ _ [(.slice A50 r0.f3.length c50,r0.f3)] hb_ (by intro z hz;obtain rfl:=List.mem_singleton.1 hz;exact hr_));clear hQ_ hput_ hb_ Q_ hr_;clear c4ga0 c4ga1 c4ga2 c4ga3 c4gy0 c4gy1 c4gy2 c4gy3)
  | ((with_reducible refine gate_dst (N:=9) rfl ?_);refine nb HR 9 (cs:=#[.int .i64 0,.string (⟨#[]⟩ : ByteArray),.int .i64 0,.slice none 0 0]) (t:=29) rfl rfl (by first | (go_simp;done) | (go_simp;rfl)) ?_;clear HR;intro gl w6 HR;obtain ⟨c6gl0,c6gl1,c6gl2,c6gl3⟩:=HR.out.c4 0 rfl;obtain ⟨f6gl0,f6gl1,f6gl2,f6gl3⟩:=HR.out.f4 0 rfl)
  | ((with_reducible refine gate_store (t:=29) (p:=9) rfl ?_);refine stA HR 0 rfl [.int .i64 r0.f0,.string r0.f1,.int .i64 r0.f2,.slice A50 r0.f3.length c50] rfl rfl rfl rfl (by first | (go_simp;done) | (go_simp;rfl)) ?_;clear HR;intro w7 HR;clear c6gl0 c6gl1 c6gl2 c6gl3 f6gl0 f6gl1 f6gl2 f6gl3;obtain ⟨c7ga0,c7ga1,c7ga2,c7ga3⟩:=HR.out.c4 4 rfl)
  | (go_at_call 90;have hc_ : Kd.C k29 w7 (some ad) 1 [p]:=HR.out.poolC HP.out 5 rfl (c:=c) (by simp);(with_reducible refine (H1.out.go w7 hc_).mono ?_);rintro e_ w8 ⟨rfl,hb⟩;clear hc_;replace HR:=asd (HR.out.step hb);clear hb;clear c7ga0 c7ga1 c7ga2 c7ga3;obtain ⟨c8ga0,c8ga1,c8ga2,c8ga3⟩:=HR.out.c4 4 rfl)
  | (go_at_call 90;have hc_ : Kd.C k29 w8 (some ad) 1 [p]:=HR.out.poolC HP.out 5 rfl (c:=c) (by simp);(with_reducible refine (H2.out.go w8 hc_).mono ?_);rintro e_ w9 ⟨rfl,hb⟩;clear hc_;replace HR:=asd (HR.out.step hb);clear hb;clear c8ga0 c8ga1 c8ga2 c8ga3;obtain ⟨c9ga0,c9ga1,c9ga2,c9ga3⟩:=HR.out.c4 4 rfl)
  | (go_at_call 90;have hc_ : Kd.C k29 w9 (some ad) 1 [p]:=HR.out.poolC HP.out 5 rfl (c:=c) (by simp);(with_reducible refine (H3.out.go w9 hc_).mono ?_);rintro e_ w10 ⟨rfl,hb⟩;clear hc_;replace HR:=asd (HR.out.step hb);clear hb;clear c9ga0 c9ga1 c9ga2 c9ga3)
  | (go_at_call 96;obtain ⟨Q_,hQg_,hbx_,hQ_,hput_⟩:=HR.out.ask HP.out 5 6 rfl rfl (by decide);(with_reducible refine (spec_fresh w w10 g n b HR.out.bel HG.out hbx_).mono ?_);rintro e_ w11 ⟨rfl,hc_,hb_,hk_⟩;replace HR:=asd (hput_ _ _ [] hb_ hk_ hc_ (by intro z hz;exact absurd hz List.not_mem_nil));clear hQg_ hbx_ hQ_ hput_ hb_ hk_ hc_ Q_)
  | ((with_reducible refine gate_dst (N:=14) rfl ?_);refine nb HR 14 (cs:=#[.int .i64 0,.string (⟨#[]⟩ : ByteArray),.int .i64 0,.slice none 0 0]) (t:=29) rfl rfl (by first | (go_simp;done) | (go_simp;rfl)) ?_;clear HR;intro gz w12 HR;obtain ⟨c12gz0,c12gz1,c12gz2,c12gz3⟩:=HR.out.c4 0 rfl;obtain ⟨f12gz0,f12gz1,f12gz2,f12gz3⟩:=HR.out.f4 0 rfl)
  | ((with_reducible refine gate_store (t:=29) (p:=14) rfl ?_);refine stA HR 0 rfl [.int .i64 1,.string (⟨#[]⟩ : ByteArray),.int .i64 (newV n),.slice none 0 0] rfl rfl rfl rfl (by first | (go_simp;done) | (go_simp;rfl)) ?_;clear HR;intro w13 HR;clear c12gz0 c12gz1 c12gz2 c12gz3 f12gz0 f12gz1 f12gz2 f12gz3))
 replace HR:=asd (HR.out.drew)
 refine start_ (n:=12) (S:=fun w' => C4 w' ga (.int .i64 a0) (.string a1) (.int .i64 a2) (.slice (some ad) 1 c) ∧ C4 w' gx (.int .i64 1) (.string (⟨#[]⟩ : ByteArray)) (.int .i64 x) (.slice none 0 0) ∧ C4 w' gz (.int .i64 1) (.string (⟨#[]⟩ : ByteArray)) (.int .i64 (newV n)) (.slice none 0 0) ∧ D4 w' ad (.int .i64 p.f0) (.string p.f1) (.int .i64 p.f2) (.slice A3 p.f3.length c3)) (ds:=[11]) (bl 12 0) (by kernel_rfl) rfl rfl ⟨HR.out.c4 5 rfl,HR.out.c4 4 rfl,HR.out.c4 0 rfl,HR.out.d4 HX.out HNP.out⟩ (fun hHeld => ?_);refine with_tabW specb11_tab specb11_bits (fun HT_ HW_ => ?_)
 generalize w13.drew = w14 at HR hHeld ⊢
 refine pu 0 71 (bl 12 1) HT_ (by kernel_rfl) rfl rfl (by rfl) (fun _ _ _ h => h) (by intro w';go_simp;with_reducible rfl) (by simp only [Act.put,sa,s0,s1];rfl) ?_
 refine pu 1 72 (bl 12 3) HT_ (by kernel_rfl) rfl rfl (by rfl) (fun _ _ _ h => h) (by intro w';go_simp;with_reducible rfl) (by simp only [Act.put,sa,s0,s1];rfl) ?_
 refine tk 2 73 (bl 12 7) HT_ HW_ (by kernel_rfl) rfl rfl (by rfl) (fun _ _ _ h => h) hHeld (by rintro w' ⟨⟨s0,s1,s2,s3⟩,⟨s4,s5,s6,s7⟩,⟨s8,s9,s10,s11⟩,⟨s12,s13,s14,s15⟩⟩;go_simp;with_reducible rfl) (by simp only [Act.put,sa,s0,s1];rfl) ?_
 refine pu 3 74 (bl 12 15) HT_ (by kernel_rfl) rfl rfl (by rfl) (fun _ _ _ h => h) (by intro w';go_simp;with_reducible rfl) (by simp only [Act.put,sa,s0,s1];rfl) ?_
 refine tk 4 75 (bl 12 31) HT_ HW_ (by kernel_rfl) rfl rfl (by rfl) (fun _ _ _ h => h) hHeld (by rintro w' ⟨⟨s0,s1,s2,s3⟩,⟨s4,s5,s6,s7⟩,⟨s8,s9,s10,s11⟩,⟨s12,s13,s14,s15⟩⟩;go_simp;with_reducible rfl) (by simp only [Act.put,sa,s0,s1];rfl) ?_
 refine tk 5 76 (bl 12 63) HT_ HW_ (by kernel_rfl) rfl rfl (by rfl) (fun _ _ _ h => h) hHeld (by rintro w' ⟨⟨s0,s1,s2,s3⟩,⟨s4,s5,s6,s7⟩,⟨s8,s9,s10,s11⟩,⟨s12,s13,s14,s15⟩⟩;go_simp;with_reducible rfl) (by simp only [Act.put,sa,s0,s1];rfl) ?_
 refine tk 6 77 (bl 12 127) HT_ HW_ (by kernel_rfl) rfl rfl (by rfl) (fun _ _ _ h => h) hHeld (by rintro w' ⟨⟨s0,s1,s2,s3⟩,⟨s4,s5,s6,s7⟩,⟨s8,s9,s10,s11⟩,⟨s12,s13,s14,s15⟩⟩;go_simp;with_reducible rfl) (by simp only [Act.put,sa,s0,s1];rfl) ?_
 refine join_ (σ:=Option Addr × Nat × Nat × Nat) 1 (bl 12 2047) (fun s => let ⟨A51,c51,gq,gn⟩:=s;[(78,.agg #[.int .i64 r1.f0,.string r1.f1,.int .i64 r1.f2,.slice A51 r1.f3.length c51]),(79,.slice (some ⟨gq,0,none⟩) 1 1),(80,.agg #[.int .i64 4,.string (⟨#[92,43]⟩ : ByteArray),.int .i64 0,.slice (some ⟨gq,0,none⟩) 1 1]),(15,.pointer (some ⟨gn,0,none⟩))]) (fun s w' => let ⟨A51,c51,gq,gn⟩:=s;Run w u (fun k => k = g) [As.box gn 29 #[.int .i64 0,.string (⟨#[]⟩ : ByteArray),.int .i64 0,.slice none 0 0],As.box gq 29 #[.int .i64 r1.f0,.string r1.f1,.int .i64 r1.f2,.slice A51 r1.f3.length c51],As.box gz 29 #[.int .i64 1,.string (⟨#[]⟩ : ByteArray),.int .i64 (newV n),.slice none 0 0],As.box gl 29 #[.int .i64 r0.f0,.string r0.f1,.int .i64 r0.f2,.slice A50 r0.f3.length c50],As.box gr 29 #[.int .i64 0,.string (⟨#[]⟩ : ByteArray),.int .i64 0,.slice none 0 0],As.box gy 29 #[.int .i64 1,.string (⟨#[]⟩ : ByteArray),.int .i64 y,.slice none 0 0],As.box gx 29 #[.int .i64 1,.string (⟨#[]⟩ : ByteArray),.int .i64 x,.slice none 0 0],As.box ga 29 #[.int .i64 a0,.string a1,.int .i64 a2,.slice (some ad) 1 c],As.pool u P ([(.slice A51 r1.f3.length c51,r1.f3)] ++ ([] ++ ([(.slice A50 r0.f3.length c50,r0.f3)] ++ [(.slice none 0 0,[]),(.slice (some ad) 1 c,[p]),(.slice A3 p.f3.length c3,p.f3)]))),As.box g 102 #[.int .i64 n1,.bool b1]] w') ?_ ?_
 rotate_left
 ·intro hCont
  refine tw 7 10 (some 78) (some 15) (bl 12 255) (bl 12 1151) HT_ (by kernel_rfl) rfl rfl rfl rfl (by decide) (by decide) ?_ ?_
  ·skip
   obtain ⟨Q_,hQg_,hbx_,hQ_,hput_⟩:=HR.out.ask HP.out 6 7 rfl rfl (by decide)
   refine clS Tryd.func99 (by kernel_rfl) rfl #[.pointer (some ⟨g,0,none⟩),.agg #[.int .i64 p.f0,.string p.f1,.int .i64 p.f2,.slice A3 p.f3.length c3],.agg #[.int .i64 1,.string (⟨#[]⟩ : ByteArray),.int .i64 x,.slice none 0 0],.agg #[.int .i64 1,.string (⟨#[]⟩ : ByteArray),.int .i64 (newV n),.slice none 0 0]] (by rfl) rfl rfl (by (try simp only [List.map_toArray,List.map_cons,List.map_nil]);first|done|rfl) ((IH1.out.go w w14 g Q_ A3 c3 HTB.out HR.out.bel HG.out hQg_ hbx_ (hQ_ _ (by simp))).mono ?_)
   rintro e_ w15 hq_
   unfold BPost at hq_
   obtain ⟨A51,c51,rfl,hr_,hc_,hb_,hk_⟩:=hq_
   replace HR:=asd (hput_ _ _ [(.slice A51 r1.f3.length c51,r1.f3)] hb_ hk_ hc_ (by intro z hz;obtain rfl:=List.mem_singleton.1 hz;exact hr_))
   clear hQg_ hbx_ hQ_ hput_ hr_ hc_ hb_ hk_ Q_
   refine ⟨_,rfl,⟨HR.out.c4 5 rfl,HR.out.c4 4 rfl,HR.out.c4 0 rfl,HR.out.d4 HX.out HNP.out⟩,fun hHeld => ?_⟩
   refine nm (by simp only [Act.put,sa,s0,s1];rfl) ?_
   refine tw 8 10 (some 79) (some 15) (bl 12 511) (bl 12 1279) HT_ (by kernel_rfl) rfl rfl rfl rfl (by decide) (by decide) ?_ ?_
   ·skip
    refine ltS HR 79 1 (cs:=#[.int .i64 r1.f0,.string r1.f1,.int .i64 r1.f2,.slice A51 r1.f3.length c51]) (t:=29) (by rfl) rfl (by first|(go_simp;done)|(go_simp;rfl)) ?_
    clear HR;intro gq w16 HR
    refine ⟨⟨HR.out.c4 6 rfl,HR.out.c4 5 rfl,HR.out.c4 1 rfl,HR.out.d4 HX.out HNP.out⟩,fun hHeld => ?_⟩
    refine nm (by simp only [Act.put,sa,s0,s1];rfl) ?_
    refine pu 9 80 (bl 12 1023) HT_ (by kernel_rfl) rfl rfl (by rfl) (fun _ _ _ h => h) (by intro w';go_simp;with_reducible rfl) (by simp only [Act.put,sa,s0,s1];rfl) ?_
    refine on 10 (some 15) (bl 12 2047) HT_ (by kernel_rfl) rfl rfl (by decide) ?_
    refine nbS HR 15 (cs:=#[.int .i64 0,.string (⟨#[]⟩ : ByteArray),.int .i64 0,.slice none 0 0]) (t:=29) (by rfl) rfl (by first|(go_simp;done)|(go_simp;rfl)) ?_
    clear HR;intro gn w17 HR
    refine ⟨⟨HR.out.c4 7 rfl,HR.out.c4 6 rfl,HR.out.c4 2 rfl,HR.out.d4 HX.out HNP.out⟩,fun hHeld => ?_⟩
    refine nm (by simp only [Act.put,sa,s0,s1];rfl) ?_
    exact nm (by simp only [putAll,Act.put,sa,s0,s1]) (hCont (A51,c51,gq,gn) _ HR.out)
   ·skip
    refine nbS HR 15 (cs:=#[.int .i64 0,.string (⟨#[]⟩ : ByteArray),.int .i64 0,.slice none 0 0]) (t:=29) (by rfl) rfl (by first|(go_simp;done)|(go_simp;rfl)) ?_
    clear HR;intro gn w16 HR
    refine ⟨⟨HR.out.c4 6 rfl,HR.out.c4 5 rfl,HR.out.c4 1 rfl,HR.out.d4 HX.out HNP.out⟩,fun hHeld => ?_⟩
    refine nm (by simp only [Act.put,sa,s0,s1];rfl) ?_
    refine on 8 (some 79) (bl 12 1535) HT_ (by kernel_rfl) rfl rfl (by decide) ?_
    refine ltS HR 79 1 (cs:=#[.int .i64 r1.f0,.string r1.f1,.int .i64 r1.f2,.slice A51 r1.f3.length c51]) (t:=29) (by rfl) rfl (by first|(go_simp;done)|(go_simp;rfl)) ?_
    clear HR;intro gq w17 HR
    refine ⟨⟨HR.out.c4 7 rfl,HR.out.c4 6 rfl,HR.out.c4 2 rfl,HR.out.d4 HX.out HNP.out⟩,fun hHeld => ?_⟩
    refine nm (by simp only [Act.put,sa,s0,s1];rfl) ?_
    refine pu 9 80 (bl 12 2047) HT_ (by kernel_rfl) rfl rfl (by rfl) (fun _ _ _ h => h) (by intro w';go_simp;with_reducible rfl) (by simp only [Act.put,sa,s0,s1];rfl) ?_
    exact nm (by simp only [putAll,Act.put,sa,s0,s1]) (hCont (A51,c51,gq,gn) _ (HR.out.pick [1,0,2,3,4,5,6,7,8,9] (by decide)))
  ·skip
   refine nbS HR 15 (cs:=#[.int .i64 0,.string (⟨#[]⟩ : ByteArray),.int .i64 0,.slice none 0 0]) (t:=29) (by rfl) rfl (by first|(go_simp;done)|(go_simp;rfl)) ?_
   clear HR;intro gn w15 HR
   refine ⟨⟨HR.out.c4 6 rfl,HR.out.c4 5 rfl,HR.out.c4 1 rfl,HR.out.d4 HX.out HNP.out⟩,fun hHeld => ?_⟩
   refine nm (by simp only [Act.put,sa,s0,s1];rfl) ?_
   refine on 7 (some 78) (bl 12 1279) HT_ (by kernel_rfl) rfl rfl (by decide) ?_
   obtain ⟨Q_,hQg_,hbx_,hQ_,hput_⟩:=HR.out.ask HP.out 7 8 rfl rfl (by decide)
   refine clS Tryd.func99 (by kernel_rfl) rfl #[.pointer (some ⟨g,0,none⟩),.agg #[.int .i64 p.f0,.string p.f1,.int .i64 p.f2,.slice A3 p.f3.length c3],.agg #[.int .i64 1,.string (⟨#[]⟩ : ByteArray),.int .i64 x,.slice none 0 0],.agg #[.int .i64 1,.string (⟨#[]⟩ : ByteArray),.int .i64 (newV n),.slice none 0 0]] (by rfl) rfl rfl (by (try simp only [List.map_toArray,List.map_cons,List.map_nil]);first|done|rfl) ((IH1.out.go w w15 g Q_ A3 c3 HTB.out HR.out.bel HG.out hQg_ hbx_ (hQ_ _ (by simp))).mono ?_)
   rintro e_ w16 hq_
   unfold BPost at hq_
   obtain ⟨A51,c51,rfl,hr_,hc_,hb_,hk_⟩:=hq_
   replace HR:=asd (hput_ _ _ [(.slice A51 r1.f3.length c51,r1.f3)] hb_ hk_ hc_ (by intro z hz;obtain rfl:=List.mem_singleton.1 hz;exact hr_))
   clear hQg_ hbx_ hQ_ hput_ hr_ hc_ hb_ hk_ Q_
   refine ⟨_,rfl,⟨HR.out.c4 6 rfl,HR.out.c4 5 rfl,HR.out.c4 1 rfl,HR.out.d4 HX.out HNP.out⟩,fun hHeld => ?_⟩
   refine nm (by simp only [Act.put,sa,s0,s1];rfl) ?_
   refine on 8 (some 79) (bl 12 1535) HT_ (by kernel_rfl) rfl rfl (by decide) ?_
   refine ltS HR 79 1 (cs:=#[.int .i64 r1.f0,.string r1.f1,.int .i64 r1.f2,.slice A51 r1.f3.length c51]) (t:=29) (by rfl) rfl (by first|(go_simp;done)|(go_simp;rfl)) ?_
   clear HR;intro gq w17 HR
   refine ⟨⟨HR.out.c4 7 rfl,HR.out.c4 6 rfl,HR.out.c4 2 rfl,HR.out.d4 HX.out HNP.out⟩,fun hHeld => ?_⟩
   refine nm (by simp only [Act.put,sa,s0,s1];rfl) ?_
   refine pu 9 80 (bl 12 2047) HT_ (by kernel_rfl) rfl rfl (by rfl) (fun _ _ _ h => h) (by intro w';go_simp;with_reducible rfl) (by simp only [Act.put,sa,s0,s1];rfl) ?_
   exact nm (by simp only [putAll,Act.put,sa,s0,s1]) (hCont (A51,c51,gq,gn) _ (HR.out.pick [1,0,2,3,4,5,6,7,8,9] (by decide)))
 rintro ⟨A51,c51,gq,gn⟩ w18 hR_
 clear HR;have HR:=asd hR_;clear hR_;dsimp only at HR
 refine nm (by simp only [putAll,Act.put,sa,s0,s1];rfl) ?_
 obtain ⟨hz0_,hz1_,hz2_,hz3_⟩:=HR.out.c4 0 rfl;obtain ⟨fz0_,fz1_,fz2_,fz3_⟩:=HR.out.f4 0 rfl
 refine lsA HR 0 11 (bl 12 4095) HT_ (by kernel_rfl) rfl rfl (by decide) rfl [.int .i64 4,.string (⟨#[92,43]⟩ : ByteArray),.int .i64 0,.slice (some ⟨gq,0,none⟩) 1 1] rfl (by rfl) (by first|(go_simp;done)|(go_simp;rfl)) ?_
 clear HR hz0_ hz1_ hz2_ hz3_ fz0_ fz1_ fz2_ fz3_;intro w19 HR
 refine done_ (done_of HT_.out (by kernel_rfl)) ?_
 go_wp2_with fail
 replace HR:=asd (HR.out.drew)
 refine start_ (n:=6) (S:=fun w' => C4 w' gn (.int .i64 4) (.string (⟨#[92,43]⟩ : ByteArray)) (.int .i64 0) (.slice (some ⟨gq,0,none⟩) 1 1) ∧ C4 w' gx (.int .i64 1) (.string (⟨#[]⟩ : ByteArray)) (.int .i64 x) (.slice none 0 0) ∧ C4 w' gy (.int .i64 1) (.string (⟨#[]⟩ : ByteArray)) (.int .i64 y) (.slice none 0 0)) (ds:=[5]) (bl 6 0) (by kernel_rfl) rfl rfl ⟨HR.out.c4 0 rfl,HR.out.c4 6 rfl,HR.out.c4 5 rfl⟩ (fun hHeld => ?_);refine with_tabW specb12_tab specb12_bits (fun HT_ HW_ => ?_)
 generalize w19.drew = w20 at HR hHeld ⊢
 refine tk 0 81 (bl 6 1) HT_ HW_ (by kernel_rfl) rfl rfl (by rfl) (fun _ _ _ h => h) hHeld (by rintro w' ⟨⟨s0,s1,s2,s3⟩,⟨s4,s5,s6,s7⟩,⟨s8,s9,s10,s11⟩⟩;go_simp;with_reducible rfl) (by simp only [Act.put,sa,s0,s1];rfl) ?_
 refine tk 1 82 (bl 6 3) HT_ HW_ (by kernel_rfl) rfl rfl (by rfl) (fun _ _ _ h => h) hHeld (by rintro w' ⟨⟨s0,s1,s2,s3⟩,⟨s4,s5,s6,s7⟩,⟨s8,s9,s10,s11⟩⟩;go_simp;with_reducible rfl) (by simp only [Act.put,sa,s0,s1];rfl) ?_
 refine tk 2 83 (bl 6 7) HT_ HW_ (by kernel_rfl) rfl rfl (by rfl) (fun _ _ _ h => h) hHeld (by rintro w' ⟨⟨s0,s1,s2,s3⟩,⟨s4,s5,s6,s7⟩,⟨s8,s9,s10,s11⟩⟩;go_simp;with_reducible rfl) (by simp only [Act.put,sa,s0,s1];rfl) ?_
 refine on 3 (some 84) (bl 6 15) HT_ (by kernel_rfl) rfl rfl (by decide) ?_
 refine clS Tryd.func97 (by kernel_rfl) rfl #[.string (⟨#[61]⟩ : ByteArray),.agg #[.int .i64 1,.string (⟨#[]⟩ : ByteArray),.int .i64 x,.slice none 0 0],.agg #[.int .i64 1,.string (⟨#[]⟩ : ByteArray),.int .i64 y,.slice none 0 0]] (by rfl) rfl rfl (by (try simp only [List.map_toArray,List.map_cons,List.map_nil]);first|done|rfl) ((two_calls (⟨#[61]⟩ : ByteArray) (varT x) (varT y) (.slice none 0 0) (.slice none 0 0) rfl rfl rfl rfl w20).mono ?_)
 rintro e_ w21 ⟨ge,rfl,ho,hb⟩
 replace HR:=asd (HR.out.push (As.box ge 29 #[.int .i64 1,.string (⟨#[]⟩ : ByteArray),.int .i64 x,.slice none 0 0,.int .i64 1,.string (⟨#[]⟩ : ByteArray),.int .i64 y,.slice none 0 0]) hb ho)
 clear hb ho
 refine ⟨_,rfl,⟨HR.out.c4 1 rfl,HR.out.c4 7 rfl,HR.out.c4 6 rfl⟩,fun hHeld => ?_⟩
 refine nm (by simp only [Act.put,sa,s0,s1];rfl) ?_
 refine on 4 (some 85) (bl 6 31) HT_ (by kernel_rfl) rfl rfl (by decide) ?_
 refine clS Tryd.func97 (by kernel_rfl) rfl #[.string (⟨#[44]⟩ : ByteArray),.agg #[.int .i64 4,.string (⟨#[92,43]⟩ : ByteArray),.int .i64 0,.slice (some ⟨gq,0,none⟩) 1 1],.agg #[.int .i64 4,.string (⟨#[61]⟩ : ByteArray),.int .i64 0,.slice (some ⟨ge,0,none⟩) 2 2]] (by rfl) rfl rfl (by (try simp only [List.map_toArray,List.map_cons,List.map_nil]);first|done|rfl) ((two_calls (⟨#[44]⟩ : ByteArray) ⟨4,(⟨#[92,43]⟩ : ByteArray),0,[r1]⟩ ⟨4,(⟨#[61]⟩ : ByteArray),0,[varT x,varT y]⟩ (.slice (some ⟨gq,0,none⟩) 1 1) (.slice (some ⟨ge,0,none⟩) 2 2) rfl rfl rfl rfl w21).mono ?_)
 rintro e_ w22 ⟨gt,rfl,ho,hb⟩
 replace HR:=asd (HR.out.push (As.box gt 29 #[.int .i64 4,.string (⟨#[92,43]⟩ : ByteArray),.int .i64 0,.slice (some ⟨gq,0,none⟩) 1 1,.int .i64 4,.string (⟨#[61]⟩ : ByteArray),.int .i64 0,.slice (some ⟨ge,0,none⟩) 2 2]) hb ho)
 clear hb ho
 refine ⟨_,rfl,⟨HR.out.c4 2 rfl,HR.out.c4 8 rfl,HR.out.c4 7 rfl⟩,fun hHeld => ?_⟩
 refine nm (by simp only [Act.put,sa,s0,s1];rfl) ?_
 obtain ⟨hz0_,hz1_,hz2_,hz3_⟩:=HR.out.c4 6 rfl;obtain ⟨fz0_,fz1_,fz2_,fz3_⟩:=HR.out.f4 6 rfl
 refine lsA HR 6 5 (bl 6 63) HT_ (by kernel_rfl) rfl rfl (by decide) rfl [.int .i64 4,.string (⟨#[44]⟩ : ByteArray),.int .i64 0,.slice (some ⟨gt,0,none⟩) 2 2] rfl (by rfl) (by first|(go_simp;done)|(go_simp;rfl)) ?_
 clear HR hz0_ hz1_ hz2_ hz3_ fz0_ fz1_ fz2_ fz3_;intro w23 HR
 refine done_ (done_of HT_.out (by kernel_rfl)) ?_
 try go_wp2
 refine bodyPost_ret (results_cell_row rfl _ _ gr 29 #[.int .i64 4,.string (⟨#[44]⟩ : ByteArray),.int .i64 0,.slice (some ⟨gt,0,none⟩) 2 2] (0,0) _ rfl (HR.out.has 6 rfl).2 Tryd.underlying29 rfl (by kernel_rfl)) rfl ?_
 have HP0:=(HR.out).pool_lit 10 3 rfl rfl (by decide) [r1] 1 rfl (by decide) (lit1_ok (va:=.slice A51 r1.f3.length c51) (by simp))
 have HP1:=(HP0).pool_lit 10 1 rfl rfl (by decide) [varT x,varT y] 2 rfl (by decide) (lit2_ok (va:=.slice none 0 0) (vb:=.slice none 0 0) (show (_,([] : List S29)) ∈ _ by simp) (show (_,([] : List S29)) ∈ _ by simp))
 have HP2:=(HP1).pool_lit 10 0 rfl rfl (by decide) [⟨4,NOT,0,[r1]⟩,twoT EQ1 (varT x) (varT y)] 2 rfl (by decide) (lit2_ok (va:=.slice (some ⟨gq,0,none⟩) 1 1) (vb:=.slice (some ⟨ge,0,none⟩) 2 2) (show (_,[r1]) ∈ _ by simp) (show (_,[varT x,varT y]) ∈ _ by simp))
 exact ⟨some ⟨gt,0,none⟩,2,rfl,HP2.pool_out HP.out 10 rfl 11 rfl (by decide) (fun k hk => hk) _ (List.mem_cons_self),(HR.out.has 11 rfl).2,HR.out.below,HR.out.kept⟩
set_option maxHeartbeats 16000000 in
set_option maxRecDepth 100000 in
theorem spec_b_do (a0 : Int) (a1 : ByteArray) (a2 : Int) (p : S29) (x y n : Int) (b : Bool) (r0 : S29) (rb : Bool) (w u : World) (g : Nat) (P : Nat → Prop) (ad : Addr) (c : Nat) (tb : Tb w) (old : Below w.heap.size w u) (hg : w.heap.size ≤ g) (hP : ¬ P g) (hb : u.heap[g]? = some (.cells #[.int .i64 n,.bool b] 102 (0,0))) (ht : FootRow u P (.slice (some ad) 1 c,[p]))
  (hrow : RowC 114 (.slice (some ad) 1 c) (.agg #[.int .i64 a0,.string a1,.int .i64 a2,.slice (some ad) 1 c]) [p] (.agg #[.int .i64 1,.string (⟨#[]⟩ : ByteArray),.int .i64 y,.slice none 0 0]) r0 rb) (h1 : IsC 90 (some ad) 1 [p] (.agg #[.int .i64 a0,.string a1,.int .i64 a2,.slice (some ad) 1 c]) (⟨#[44]⟩ : ByteArray) 2 false) (h2 : IsC 90 (some ad) 1 [p] (.agg #[.int .i64 a0,.string a1,.int .i64 a2,.slice (some ad) 1 c]) (⟨#[59]⟩ : ByteArray) 2 false) (h3 : IsC 90 (some ad) 1 [p] (.agg #[.int .i64 a0,.string a1,.int .i64 a2,.slice (some ad) 1 c]) (⟨#[92,43]⟩ : ByteArray) 1 false) (h4 : IsC 90 (some ad) 1 [p] (.agg #[.int .i64 a0,.string a1,.int .i64 a2,.slice (some ad) 1 c]) (⟨#[100,111]⟩ : ByteArray) 1 true) :
  Calls Tryd.prog 99 #[.pointer (some ⟨g,0,none⟩),.agg #[.int .i64 a0,.string a1,.int .i64 a2,.slice (some ad) 1 c],.agg #[.int .i64 1,.string (⟨#[]⟩ : ByteArray),.int .i64 x,.slice none 0 0],.agg #[.int .i64 1,.string (⟨#[]⟩ : ByteArray),.int .i64 y,.slice none 0 0]] u fun e u' => BPost 102 w u g P (twoT COMMA p (twoT EQ1 (varT x) (varT y))) n b e u':=by
 obtain ⟨A3,c3,hn,hx,hfx⟩:=kid1 ht
 have HR:=asd ((run_fun (a:=As.box g 102 #[.int .i64 n,.bool b]) (ok:=fun k => k = g) old (fun k hk => hk ▸ hg) ⟨rfl,hb⟩).push (As.pool u P [(.slice none 0 0,[]),(.slice (some ad) 1 c,[p]),(.slice A3 p.f3.length c3,p.f3)]) (Below.refl _ _) (pool_in (by intro z hz;simp only [List.mem_cons,List.not_mem_nil,or_false] at hz;rcases hz with rfl|rfl|rfl <;> first|exact foot_nil _ _|exact ht|exact hfx)))
 have HP:=asd (show ∀ k,P k → ¬ (k = g) from fun k hk e => hP (e ▸ hk))
 have HG:=asd hg
 have HTB:=asd tb
 have HNP:=asd (show ¬ (ad.block = g) from fun e => hP (e ▸ hn))
 have HX:=asd hx
 have HROW:=asd hrow
 have H1:=asd h1
 have H2:=asd h2
 have H3:=asd h3
 have H4:=asd h4
 clear tb old hg hP hb ht hn hfx hx hrow h1 h2 h3 h4
 go_enter Tryd.func99,Tryd.ntmps99
 go_wp2_with (first
  | ((with_reducible refine gate_dst (N:=5) rfl ?_);refine nb HR 5 (cs:=#[.int .i64 a0,.string a1,.int .i64 a2,.slice (some ad) 1 c]) (t:=29) rfl rfl (by first | (go_simp;done) | (go_simp;rfl)) ?_;clear HR;intro ga w1 HR)
  | ((with_reducible refine gate_dst (N:=6) rfl ?_);refine nb HR 6 (cs:=#[.int .i64 1,.string (⟨#[]⟩ : ByteArray),.int .i64 x,.slice none 0 0]) (t:=29) rfl rfl (by first | (go_simp;done) | (go_simp;rfl)) ?_;clear HR;intro gx w2 HR)
  | ((with_reducible refine gate_dst (N:=7) rfl ?_);refine nb HR 7 (cs:=#[.int .i64 1,.string (⟨#[]⟩ : ByteArray),.int .i64 y,.slice none 0 0]) (t:=29) rfl rfl (by first | (go_simp;done) | (go_simp;rfl)) ?_;clear HR;intro gy w3 HR)
  | ((with_reducible refine gate_dst (N:=8) rfl ?_);refine nb HR 8 (cs:=#[.int .i64 0,.string (⟨#[]⟩ : ByteArray),.int .i64 0,.slice none 0 0]) (t:=29) rfl rfl (by first | (go_simp;done) | (go_simp;rfl)) ?_;clear HR;intro gr w4 HR;obtain ⟨c4ga0,c4ga1,c4ga2,c4ga3⟩:=HR.out.c4 3 rfl;obtain ⟨c4gy0,c4gy1,c4gy2,c4gy3⟩:=HR.out.c4 1 rfl)
  | (go_at_call 114;obtain ⟨Q_,hQ_,hput_⟩:=HR.out.ask0 HP.out 4 rfl;(with_reducible refine (HROW.out.go w4 Q_ (hQ_ _ (by simp))).mono ?_);rintro e_ w5 ⟨A50,c50,rfl,hr_,hb_⟩;replace HR:=asd (hput_ _ [(.slice A50 r0.f3.length c50,r0.f3)] hb_ (by intro z hz;obtain rfl:=List.mem_singleton.1 hz;exact hr_));clear hQ_ hput_ hb_ Q_ hr_;clear c4ga0 c4ga1 c4ga2 c4ga3 c4gy0 c4gy1 c4gy2 c4gy3)
  | ((with_reducible refine gate_dst (N:=9) rfl ?_);refine nb HR 9 (cs:=#[.int .i64 0,.string (⟨#[]⟩ : ByteArray),.int .i64 0,.slice none 0 0]) (t:=29) rfl rfl (by first | (go_simp;done) | (go_simp;rfl)) ?_;clear HR;intro gl w6 HR;obtain ⟨c6gl0,c6gl1,c6gl2,c6gl3⟩:=HR.out.c4 0 rfl;obtain ⟨f6gl0,f6gl1,f6gl2,f6gl3⟩:=HR.out.f4 0 rfl)
  | ((with_reducible refine gate_store (t:=29) (p:=9) rfl ?_);refine stA HR 0 rfl [.int .i64 r0.f0,.string r0.f1,.int .i64 r0.f2,.slice A50 r0.f3.length c50] rfl rfl rfl rfl (by first | (go_simp;done) | (go_simp;rfl)) ?_;clear HR;intro w7 HR;clear c6gl0 c6gl1 c6gl2 c6gl3 f6gl0 f6gl1 f6gl2 f6gl3;obtain ⟨c7ga0,c7ga1,c7ga2,c7ga3⟩:=HR.out.c4 4 rfl)
  | (go_at_call 90;have hc_ : Kd.C k29 w7 (some ad) 1 [p]:=HR.out.poolC HP.out 5 rfl (c:=c) (by simp);(with_reducible refine (H1.out.go w7 hc_).mono ?_);rintro e_ w8 ⟨rfl,hb⟩;clear hc_;replace HR:=asd (HR.out.step hb);clear hb;clear c7ga0 c7ga1 c7ga2 c7ga3;obtain ⟨c8ga0,c8ga1,c8ga2,c8ga3⟩:=HR.out.c4 4 rfl)
  | (go_at_call 90;have hc_ : Kd.C k29 w8 (some ad) 1 [p]:=HR.out.poolC HP.out 5 rfl (c:=c) (by simp);(with_reducible refine (H2.out.go w8 hc_).mono ?_);rintro e_ w9 ⟨rfl,hb⟩;clear hc_;replace HR:=asd (HR.out.step hb);clear hb;clear c8ga0 c8ga1 c8ga2 c8ga3;obtain ⟨c9ga0,c9ga1,c9ga2,c9ga3⟩:=HR.out.c4 4 rfl)
  | (go_at_call 90;have hc_ : Kd.C k29 w9 (some ad) 1 [p]:=HR.out.poolC HP.out 5 rfl (c:=c) (by simp);(with_reducible refine (H3.out.go w9 hc_).mono ?_);rintro e_ w10 ⟨rfl,hb⟩;clear hc_;replace HR:=asd (HR.out.step hb);clear hb;clear c9ga0 c9ga1 c9ga2 c9ga3;obtain ⟨c10ga0,c10ga1,c10ga2,c10ga3⟩:=HR.out.c4 4 rfl)
  | (go_at_call 90;have hc_ : Kd.C k29 w10 (some ad) 1 [p]:=HR.out.poolC HP.out 5 rfl (c:=c) (by simp);(with_reducible refine (H4.out.go w10 hc_).mono ?_);rintro e_ w11 ⟨rfl,hb⟩;clear hc_;replace HR:=asd (HR.out.step hb);clear hb;clear c10ga0 c10ga1 c10ga2 c10ga3))
 replace HR:=asd (HR.out.drew)
 refine start_ (n:=9) (S:=fun w' => C4 w' ga (.int .i64 a0) (.string a1) (.int .i64 a2) (.slice (some ad) 1 c) ∧ C4 w' gx (.int .i64 1) (.string (⟨#[]⟩ : ByteArray)) (.int .i64 x) (.slice none 0 0) ∧ C4 w' gy (.int .i64 1) (.string (⟨#[]⟩ : ByteArray)) (.int .i64 y) (.slice none 0 0) ∧ D4 w' ad (.int .i64 p.f0) (.string p.f1) (.int .i64 p.f2) (.slice A3 p.f3.length c3)) (ds:=[8]) (bl 9 0) (by kernel_rfl) rfl rfl ⟨HR.out.c4 4 rfl,HR.out.c4 3 rfl,HR.out.c4 2 rfl,HR.out.d4 HX.out HNP.out⟩ (fun hHeld => ?_);refine with_tabW specb14_tab specb14_bits (fun HT_ HW_ => ?_)
 generalize w11.drew = w12 at HR hHeld ⊢
 refine pu 0 89 (bl 9 1) HT_ (by kernel_rfl) rfl rfl (by rfl) (fun _ _ _ h => h) (by intro w';go_simp;with_reducible rfl) (by simp only [Act.put,sa,s0,s1];rfl) ?_
 refine tk 1 90 (bl 9 3) HT_ HW_ (by kernel_rfl) rfl rfl (by rfl) (fun _ _ _ h => h) hHeld (by rintro w' ⟨⟨s0,s1,s2,s3⟩,⟨s4,s5,s6,s7⟩,⟨s8,s9,s10,s11⟩,⟨s12,s13,s14,s15⟩⟩;go_simp;with_reducible rfl) (by simp only [Act.put,sa,s0,s1];rfl) ?_
 refine pu 2 91 (bl 9 7) HT_ (by kernel_rfl) rfl rfl (by rfl) (fun _ _ _ h => h) (by intro w';go_simp;with_reducible rfl) (by simp only [Act.put,sa,s0,s1];rfl) ?_
 refine tk 3 92 (bl 9 15) HT_ HW_ (by kernel_rfl) rfl rfl (by rfl) (fun _ _ _ h => h) hHeld (by rintro w' ⟨⟨s0,s1,s2,s3⟩,⟨s4,s5,s6,s7⟩,⟨s8,s9,s10,s11⟩,⟨s12,s13,s14,s15⟩⟩;go_simp;with_reducible rfl) (by simp only [Act.put,sa,s0,s1];rfl) ?_
 refine tk 4 93 (bl 9 31) HT_ HW_ (by kernel_rfl) rfl rfl (by rfl) (fun _ _ _ h => h) hHeld (by rintro w' ⟨⟨s0,s1,s2,s3⟩,⟨s4,s5,s6,s7⟩,⟨s8,s9,s10,s11⟩,⟨s12,s13,s14,s15⟩⟩;go_simp;with_reducible rfl) (by simp only [Act.put,sa,s0,s1];rfl) ?_
 refine tk 5 94 (bl 9 63) HT_ HW_ (by kernel_rfl) rfl rfl (by rfl) (fun _ _ _ h => h) hHeld (by rintro w' ⟨⟨s0,s1,s2,s3⟩,⟨s4,s5,s6,s7⟩,⟨s8,s9,s10,s11⟩,⟨s12,s13,s14,s15⟩⟩;go_simp;with_reducible rfl) (by simp only [Act.put,sa,s0,s1];rfl) ?_
 refine on 6 (some 95) (bl 9 127) HT_ (by kernel_rfl) rfl rfl (by decide) ?_
 refine clS Tryd.func97 (by kernel_rfl) rfl #[.string (⟨#[61]⟩ : ByteArray),.agg #[.int .i64 1,.string (⟨#[]⟩ : ByteArray),.int .i64 x,.slice none 0 0],.agg #[.int .i64 1,.string (⟨#[]⟩ : ByteArray),.int .i64 y,.slice none 0 0]] (by rfl) rfl rfl (by (try simp only [List.map_toArray,List.map_cons,List.map_nil]);first|done|rfl) ((two_calls (⟨#[61]⟩ : ByteArray) (varT x) (varT y) (.slice none 0 0) (.slice none 0 0) rfl rfl rfl rfl w12).mono ?_)
 rintro e_ w13 ⟨ge,rfl,ho,hb⟩
 replace HR:=asd (HR.out.push (As.box ge 29 #[.int .i64 1,.string (⟨#[]⟩ : ByteArray),.int .i64 x,.slice none 0 0,.int .i64 1,.string (⟨#[]⟩ : ByteArray),.int .i64 y,.slice none 0 0]) hb ho)
 clear hb ho
 refine ⟨_,rfl,⟨HR.out.c4 5 rfl,HR.out.c4 4 rfl,HR.out.c4 3 rfl,HR.out.d4 HX.out HNP.out⟩,fun hHeld => ?_⟩
 refine nm (by simp only [Act.put,sa,s0,s1];rfl) ?_
 refine on 7 (some 96) (bl 9 255) HT_ (by kernel_rfl) rfl rfl (by decide) ?_
 refine clS Tryd.func97 (by kernel_rfl) rfl #[.string (⟨#[44]⟩ : ByteArray),.agg #[.int .i64 p.f0,.string p.f1,.int .i64 p.f2,.slice A3 p.f3.length c3],.agg #[.int .i64 4,.string (⟨#[61]⟩ : ByteArray),.int .i64 0,.slice (some ⟨ge,0,none⟩) 2 2]] (by rfl) rfl rfl (by (try simp only [List.map_toArray,List.map_cons,List.map_nil]);first|done|rfl) ((two_calls (⟨#[44]⟩ : ByteArray) p ⟨4,(⟨#[61]⟩ : ByteArray),0,[varT x,varT y]⟩ (.slice A3 p.f3.length c3) (.slice (some ⟨ge,0,none⟩) 2 2) rfl rfl rfl rfl w13).mono ?_)
 rintro e_ w14 ⟨gt,rfl,ho,hb⟩
 replace HR:=asd (HR.out.push (As.box gt 29 #[.int .i64 p.f0,.string p.f1,.int .i64 p.f2,.slice A3 p.f3.length c3,.int .i64 4,.string (⟨#[61]⟩ : ByteArray),.int .i64 0,.slice (some ⟨ge,0,none⟩) 2 2]) hb ho)
 clear hb ho
 refine ⟨_,rfl,⟨HR.out.c4 6 rfl,HR.out.c4 5 rfl,HR.out.c4 4 rfl,HR.out.d4 HX.out HNP.out⟩,fun hHeld => ?_⟩
 refine nm (by simp only [Act.put,sa,s0,s1];rfl) ?_
 obtain ⟨hz0_,hz1_,hz2_,hz3_⟩:=HR.out.c4 3 rfl;obtain ⟨fz0_,fz1_,fz2_,fz3_⟩:=HR.out.f4 3 rfl
 refine lsA HR 3 8 (bl 9 511) HT_ (by kernel_rfl) rfl rfl (by decide) rfl [.int .i64 4,.string (⟨#[44]⟩ : ByteArray),.int .i64 0,.slice (some ⟨gt,0,none⟩) 2 2] rfl (by rfl) (by first|(go_simp;done)|(go_simp;rfl)) ?_
 clear HR hz0_ hz1_ hz2_ hz3_ fz0_ fz1_ fz2_ fz3_;intro w15 HR
 refine done_ (done_of HT_.out (by kernel_rfl)) ?_
 try go_wp2
 refine bodyPost_ret (results_cell_row rfl _ _ gr 29 #[.int .i64 4,.string (⟨#[44]⟩ : ByteArray),.int .i64 0,.slice (some ⟨gt,0,none⟩) 2 2] (0,0) _ rfl (HR.out.has 3 rfl).2 Tryd.underlying29 rfl (by kernel_rfl)) rfl ?_
 have HP0:=(HR.out).pool_lit 7 1 rfl rfl (by decide) [varT x,varT y] 2 rfl (by decide) (lit2_ok (va:=.slice none 0 0) (vb:=.slice none 0 0) (show (_,([] : List S29)) ∈ _ by simp) (show (_,([] : List S29)) ∈ _ by simp))
 have HP1:=(HP0).pool_lit 7 0 rfl rfl (by decide) [p,twoT EQ1 (varT x) (varT y)] 2 rfl (by decide) (lit2_ok (va:=.slice A3 p.f3.length c3) (vb:=.slice (some ⟨ge,0,none⟩) 2 2) (show (_,p.f3) ∈ _ by simp) (show (_,[varT x,varT y]) ∈ _ by simp))
 exact ⟨some ⟨gt,0,none⟩,2,rfl,HP1.pool_out HP.out 7 rfl 8 rfl (by decide) (fun k hk => hk) _ (List.mem_cons_self),(HR.out.has 8 rfl).2,HR.out.below,HR.out.kept⟩
set_option maxHeartbeats 16000000 in
set_option maxRecDepth 100000 in
theorem spec_b_row (t : S29) (x y n : Int) (b : Bool) (r0 : S29) (w u : World) (g : Nat) (P : Nat → Prop) (A : Option Addr) (c : Nat) (tb : Tb w) (old : Below w.heap.size w u) (hg : w.heap.size ≤ g) (hP : ¬ P g) (hb : u.heap[g]? = some (.cells #[.int .i64 n,.bool b] 102 (0,0))) (ht : FootRow u P (.slice A t.f3.length c,t.f3))
  (hrow : RowC 114 (.slice A t.f3.length c) (.agg #[.int .i64 t.f0,.string t.f1,.int .i64 t.f2,.slice A t.f3.length c]) t.f3 (.agg #[.int .i64 1,.string (⟨#[]⟩ : ByteArray),.int .i64 y,.slice none 0 0]) r0 true) (h1 : IsC 90 A t.f3.length t.f3 (.agg #[.int .i64 t.f0,.string t.f1,.int .i64 t.f2,.slice A t.f3.length c]) (⟨#[44]⟩ : ByteArray) 2 false) (h2 : IsC 90 A t.f3.length t.f3 (.agg #[.int .i64 t.f0,.string t.f1,.int .i64 t.f2,.slice A t.f3.length c]) (⟨#[59]⟩ : ByteArray) 2 false) (h3 : IsC 90 A t.f3.length t.f3 (.agg #[.int .i64 t.f0,.string t.f1,.int .i64 t.f2,.slice A t.f3.length c]) (⟨#[92,43]⟩ : ByteArray) 1 false) (h4 : IsC 90 A t.f3.length t.f3 (.agg #[.int .i64 t.f0,.string t.f1,.int .i64 t.f2,.slice A t.f3.length c]) (⟨#[100,111]⟩ : ByteArray) 1 false) :
  Calls Tryd.prog 99 #[.pointer (some ⟨g,0,none⟩),.agg #[.int .i64 t.f0,.string t.f1,.int .i64 t.f2,.slice A t.f3.length c],.agg #[.int .i64 1,.string (⟨#[]⟩ : ByteArray),.int .i64 x,.slice none 0 0],.agg #[.int .i64 1,.string (⟨#[]⟩ : ByteArray),.int .i64 y,.slice none 0 0]] u fun e u' => BPost 102 w u g P (twoT EQ1 (varT x) r0) n b e u':=by
 have HR:=asd ((run_fun (a:=As.box g 102 #[.int .i64 n,.bool b]) (ok:=fun k => k = g) old (fun k hk => hk ▸ hg) ⟨rfl,hb⟩).push (As.pool u P [(.slice none 0 0,[]),(.slice A t.f3.length c,t.f3)]) (Below.refl _ _) (pool_in (by intro z hz;simp only [List.mem_cons,List.not_mem_nil,or_false] at hz;rcases hz with rfl|rfl <;> first|exact foot_nil _ _|exact ht)))
 have HP:=asd (show ∀ k,P k → ¬ (k = g) from fun k hk e => hP (e ▸ hk))
 have HG:=asd hg
 have HTB:=asd tb
 have HROW:=asd hrow
 have H1:=asd h1
 have H2:=asd h2
 have H3:=asd h3
 have H4:=asd h4
 clear tb old hg hP hb ht hrow h1 h2 h3 h4
 go_enter Tryd.func99,Tryd.ntmps99
 go_wp2_with (first
  | ((with_reducible refine gate_dst (N:=5) rfl ?_);refine nb HR 5 (cs:=#[.int .i64 t.f0,.string t.f1,.int .i64 t.f2,.slice A t.f3.length c]) (t:=29) rfl rfl (by first | (go_simp;done) | (go_simp;rfl)) ?_;clear HR;intro ga w1 HR)
  | ((with_reducible refine gate_dst (N:=6) rfl ?_);refine nb HR 6 (cs:=#[.int .i64 1,.string (⟨#[]⟩ : ByteArray),.int .i64 x,.slice none 0 0]) (t:=29) rfl rfl (by first | (go_simp;done) | (go_simp;rfl)) ?_;clear HR;intro gx w2 HR)
  | ((with_reducible refine gate_dst (N:=7) rfl ?_);refine nb HR 7 (cs:=#[.int .i64 1,.string (⟨#[]⟩ : ByteArray),.int .i64 y,.slice none 0 0]) (t:=29) rfl rfl (by first | (go_simp;done) | (go_simp;rfl)) ?_;clear HR;intro gy w3 HR)
  | ((with_reducible refine gate_dst (N:=8) rfl ?_);refine nb HR 8 (cs:=#[.int .i64 0,.string (⟨#[]⟩ : ByteArray),.int .i64 0,.slice none 0 0]) (t:=29) rfl rfl (by first | (go_simp;done) | (go_simp;rfl)) ?_;clear HR;intro gr w4 HR;obtain ⟨c4ga0,c4ga1,c4ga2,c4ga3⟩:=HR.out.c4 3 rfl;obtain ⟨c4gy0,c4gy1,c4gy2,c4gy3⟩:=HR.out.c4 1 rfl)
  | (go_at_call 114;obtain ⟨Q_,hQ_,hput_⟩:=HR.out.ask0 HP.out 4 rfl;(with_reducible refine (HROW.out.go w4 Q_ (hQ_ _ (by simp))).mono ?_);rintro e_ w5 ⟨A50,c50,rfl,hr_,hb_⟩;replace HR:=asd (hput_ _ [(.slice A50 r0.f3.length c50,r0.f3)] hb_ (by intro z hz;obtain rfl:=List.mem_singleton.1 hz;exact hr_));clear hQ_ hput_ hb_ Q_ hr_;clear c4ga0 c4ga1 c4ga2 c4ga3 c4gy0 c4gy1 c4gy2 c4gy3)
  | ((with_reducible refine gate_dst (N:=9) rfl ?_);refine nb HR 9 (cs:=#[.int .i64 0,.string (⟨#[]⟩ : ByteArray),.int .i64 0,.slice none 0 0]) (t:=29) rfl rfl (by first | (go_simp;done) | (go_simp;rfl)) ?_;clear HR;intro gl w6 HR;obtain ⟨c6gl0,c6gl1,c6gl2,c6gl3⟩:=HR.out.c4 0 rfl;obtain ⟨f6gl0,f6gl1,f6gl2,f6gl3⟩:=HR.out.f4 0 rfl)
  | ((with_reducible refine gate_store (t:=29) (p:=9) rfl ?_);refine stA HR 0 rfl [.int .i64 r0.f0,.string r0.f1,.int .i64 r0.f2,.slice A50 r0.f3.length c50] rfl rfl rfl rfl (by first | (go_simp;done) | (go_simp;rfl)) ?_;clear HR;intro w7 HR;clear c6gl0 c6gl1 c6gl2 c6gl3 f6gl0 f6gl1 f6gl2 f6gl3;obtain ⟨c7ga0,c7ga1,c7ga2,c7ga3⟩:=HR.out.c4 4 rfl)
  | (go_at_call 90;have hc_ : Kd.C k29 w7 A t.f3.length t.f3:=HR.out.poolC HP.out 5 rfl (c:=c) (by simp);(with_reducible refine (H1.out.go w7 hc_).mono ?_);rintro e_ w8 ⟨rfl,hb⟩;clear hc_;replace HR:=asd (HR.out.step hb);clear hb;clear c7ga0 c7ga1 c7ga2 c7ga3;obtain ⟨c8ga0,c8ga1,c8ga2,c8ga3⟩:=HR.out.c4 4 rfl)
  | (go_at_call 90;have hc_ : Kd.C k29 w8 A t.f3.length t.f3:=HR.out.poolC HP.out 5 rfl (c:=c) (by simp);(with_reducible refine (H2.out.go w8 hc_).mono ?_);rintro e_ w9 ⟨rfl,hb⟩;clear hc_;replace HR:=asd (HR.out.step hb);clear hb;clear c8ga0 c8ga1 c8ga2 c8ga3;obtain ⟨c9ga0,c9ga1,c9ga2,c9ga3⟩:=HR.out.c4 4 rfl)
  | (go_at_call 90;have hc_ : Kd.C k29 w9 A t.f3.length t.f3:=HR.out.poolC HP.out 5 rfl (c:=c) (by simp);(with_reducible refine (H3.out.go w9 hc_).mono ?_);rintro e_ w10 ⟨rfl,hb⟩;clear hc_;replace HR:=asd (HR.out.step hb);clear hb;clear c9ga0 c9ga1 c9ga2 c9ga3;obtain ⟨c10ga0,c10ga1,c10ga2,c10ga3⟩:=HR.out.c4 4 rfl)
  | (go_at_call 90;have hc_ : Kd.C k29 w10 A t.f3.length t.f3:=HR.out.poolC HP.out 5 rfl (c:=c) (by simp);(with_reducible refine (H4.out.go w10 hc_).mono ?_);rintro e_ w11 ⟨rfl,hb⟩;clear hc_;replace HR:=asd (HR.out.step hb);clear hb;clear c10ga0 c10ga1 c10ga2 c10ga3;obtain ⟨c11gx0,c11gx1,c11gx2,c11gx3⟩:=HR.out.c4 3 rfl;obtain ⟨c11gl0,c11gl1,c11gl2,c11gl3⟩:=HR.out.c4 0 rfl)
  | (go_at_call 97;(with_reducible refine (two_sl (⟨#[61]⟩ : ByteArray) (⟨1,(⟨#[]⟩ : ByteArray),x,[]⟩ : S29) r0 none 0 0 A50 r0.f3.length c50 w11).mono ?_);rintro e_ w12 ⟨gq,rfl,ho,hb⟩;replace HR:=asd (HR.out.push (As.box gq 29 #[.int .i64 1,.string (⟨#[]⟩ : ByteArray),.int .i64 x,.slice none 0 0,.int .i64 r0.f0,.string r0.f1,.int .i64 r0.f2,.slice A50 r0.f3.length c50]) hb ho);clear hb ho;clear c11gx0 c11gx1 c11gx2 c11gx3 c11gl0 c11gl1 c11gl2 c11gl3;obtain ⟨c12gr0,c12gr1,c12gr2,c12gr3⟩:=HR.out.c4 2 rfl;obtain ⟨f12gr0,f12gr1,f12gr2,f12gr3⟩:=HR.out.f4 2 rfl)
  | ((with_reducible refine gate_store (t:=29) (p:=8) rfl ?_);refine stA HR 2 rfl [.int .i64 4,.string (⟨#[61]⟩ : ByteArray),.int .i64 0,.slice (some ⟨gq,0,none⟩) 2 2] rfl rfl rfl rfl (by first | (go_simp;done) | (go_simp;rfl)) ?_;clear HR;intro w13 HR;clear c12gr0 c12gr1 c12gr2 c12gr3 f12gr0 f12gr1 f12gr2 f12gr3))
 try go_wp2
 refine bodyPost_ret (results_cell_row rfl _ _ gr 29 #[.int .i64 4,.string (⟨#[61]⟩ : ByteArray),.int .i64 0,.slice (some ⟨gq,0,none⟩) 2 2] (0,0) _ rfl (HR.out.has 2 rfl).2 Tryd.underlying29 rfl (by kernel_rfl)) rfl ?_
 have HP0:=(HR.out).pool_lit 6 0 rfl rfl (by decide) [varT x,r0] 2 rfl (by decide) (lit2_ok (va:=.slice none 0 0) (vb:=.slice A50 r0.f3.length c50) (show (_,([] : List S29)) ∈ _ by simp) (by simp))
 exact ⟨some ⟨gq,0,none⟩,2,rfl,HP0.pool_out HP.out 6 rfl 7 rfl (by decide) (fun k hk => hk) _ (List.mem_cons_self),(HR.out.has 7 rfl).2,HR.out.below,HR.out.kept⟩
set_option maxHeartbeats 16000000 in
set_option maxRecDepth 100000 in
theorem spec_b_non (t : S29) (x y n : Int) (b : Bool) (r0 : S29) (r1 : S29) (w u : World) (g : Nat) (P : Nat → Prop) (A : Option Addr) (c : Nat) (tb : Tb w) (old : Below w.heap.size w u) (hg : w.heap.size ≤ g) (hP : ¬ P g) (hb : u.heap[g]? = some (.cells #[.int .i64 n,.bool b] 102 (0,0))) (ht : FootRow u P (.slice A t.f3.length c,t.f3))
  (hrow : RowC 114 (.slice A t.f3.length c) (.agg #[.int .i64 t.f0,.string t.f1,.int .i64 t.f2,.slice A t.f3.length c]) t.f3 (.agg #[.int .i64 1,.string (⟨#[]⟩ : ByteArray),.int .i64 y,.slice none 0 0]) r0 false) (h1 : IsC 90 A t.f3.length t.f3 (.agg #[.int .i64 t.f0,.string t.f1,.int .i64 t.f2,.slice A t.f3.length c]) (⟨#[44]⟩ : ByteArray) 2 false) (h2 : IsC 90 A t.f3.length t.f3 (.agg #[.int .i64 t.f0,.string t.f1,.int .i64 t.f2,.slice A t.f3.length c]) (⟨#[59]⟩ : ByteArray) 2 false) (h3 : IsC 90 A t.f3.length t.f3 (.agg #[.int .i64 t.f0,.string t.f1,.int .i64 t.f2,.slice A t.f3.length c]) (⟨#[92,43]⟩ : ByteArray) 1 false) (h4 : IsC 90 A t.f3.length t.f3 (.agg #[.int .i64 t.f0,.string t.f1,.int .i64 t.f2,.slice A t.f3.length c]) (⟨#[100,111]⟩ : ByteArray) 1 false) (h5 : ∀ (W : World),Kd.C k29 W A t.f3.length t.f3 → Calls Tryd.prog 94 #[.agg #[.int .i64 t.f0,.string t.f1,.int .i64 t.f2,.slice A t.f3.length c]] W fun e W' => e = .returned (.bool true) ∧ Below W.heap.size W W') (h6 : ∀ (W : World) (Q : Nat → Prop),FootRow W Q (.slice A t.f3.length c,t.f3) → Calls Tryd.prog 98 #[.agg #[.int .i64 t.f0,.string t.f1,.int .i64 t.f2,.slice A t.f3.length c],.agg #[.int .i64 1,.string (⟨#[]⟩ : ByteArray),.int .i64 x,.slice none 0 0],.agg #[.int .i64 1,.string (⟨#[]⟩ : ByteArray),.int .i64 y,.slice none 0 0]] W fun en W' => ∃ A c,en = .returned (.agg #[.int .i64 r1.f0,.string r1.f1,.int .i64 r1.f2,.slice A r1.f3.length c]) ∧ FootRow W' (fun k => Q k ∨ W.heap.size ≤ k) (.slice A r1.f3.length c,r1.f3) ∧ Below W.heap.size W W') :
  Calls Tryd.prog 99 #[.pointer (some ⟨g,0,none⟩),.agg #[.int .i64 t.f0,.string t.f1,.int .i64 t.f2,.slice A t.f3.length c],.agg #[.int .i64 1,.string (⟨#[]⟩ : ByteArray),.int .i64 x,.slice none 0 0],.agg #[.int .i64 1,.string (⟨#[]⟩ : ByteArray),.int .i64 y,.slice none 0 0]] u fun e u' => BPost 102 w u g P r1 n b e u':=by
 have HR:=asd ((run_fun (a:=As.box g 102 #[.int .i64 n,.bool b]) (ok:=fun k => k = g) old (fun k hk => hk ▸ hg) ⟨rfl,hb⟩).push (As.pool u P [(.slice none 0 0,[]),(.slice A t.f3.length c,t.f3)]) (Below.refl _ _) (pool_in (by intro z hz;simp only [List.mem_cons,List.not_mem_nil,or_false] at hz;rcases hz with rfl|rfl <;> first|exact foot_nil _ _|exact ht)))
 have HP:=asd (show ∀ k,P k → ¬ (k = g) from fun k hk e => hP (e ▸ hk))
 have HG:=asd hg
 have HTB:=asd tb
 have HROW:=asd hrow
 have H1:=asd h1
 have H2:=asd h2
 have H3:=asd h3
 have H4:=asd h4
 have H5:=asd h5
 have H6:=asd h6
 clear tb old hg hP hb ht hrow h1 h2 h3 h4 h5 h6
 go_enter Tryd.func99,Tryd.ntmps99
 go_wp2_with (first
  | ((with_reducible refine gate_dst (N:=5) rfl ?_);refine nb HR 5 (cs:=#[.int .i64 t.f0,.string t.f1,.int .i64 t.f2,.slice A t.f3.length c]) (t:=29) rfl rfl (by first | (go_simp;done) | (go_simp;rfl)) ?_;clear HR;intro ga w1 HR)
  | ((with_reducible refine gate_dst (N:=6) rfl ?_);refine nb HR 6 (cs:=#[.int .i64 1,.string (⟨#[]⟩ : ByteArray),.int .i64 x,.slice none 0 0]) (t:=29) rfl rfl (by first | (go_simp;done) | (go_simp;rfl)) ?_;clear HR;intro gx w2 HR)
  | ((with_reducible refine gate_dst (N:=7) rfl ?_);refine nb HR 7 (cs:=#[.int .i64 1,.string (⟨#[]⟩ : ByteArray),.int .i64 y,.slice none 0 0]) (t:=29) rfl rfl (by first | (go_simp;done) | (go_simp;rfl)) ?_;clear HR;intro gy w3 HR)
  | ((with_reducible refine gate_dst (N:=8) rfl ?_);refine nb HR 8 (cs:=#[.int .i64 0,.string (⟨#[]⟩ : ByteArray),.int .i64 0,.slice none 0 0]) (t:=29) rfl rfl (by first | (go_simp;done) | (go_simp;rfl)) ?_;clear HR;intro gr w4 HR;obtain ⟨c4ga0,c4ga1,c4ga2,c4ga3⟩:=HR.out.c4 3 rfl;obtain ⟨c4gy0,c4gy1,c4gy2,c4gy3⟩:=HR.out.c4 1 rfl)
  | (go_at_call 114;obtain ⟨Q_,hQ_,hput_⟩:=HR.out.ask0 HP.out 4 rfl;(with_reducible refine (HROW.out.go w4 Q_ (hQ_ _ (by simp))).mono ?_);rintro e_ w5 ⟨A50,c50,rfl,hr_,hb_⟩;replace HR:=asd (hput_ _ [(.slice A50 r0.f3.length c50,r0.f3)] hb_ (by intro z hz;obtain rfl:=List.mem_singleton.1 hz;exact hr_));clear hQ_ hput_ hb_ Q_ hr_;clear c4ga0 c4ga1 c4ga2 c4ga3 c4gy0 c4gy1 c4gy2 c4gy3)
  | ((with_reducible refine gate_dst (N:=9) rfl ?_);refine nb HR 9 (cs:=#[.int .i64 0,.string (⟨#[]⟩ : ByteArray),.int .i64 0,.slice none 0 0]) (t:=29) rfl rfl (by first | (go_simp;done) | (go_simp;rfl)) ?_;clear HR;intro gl w6 HR;obtain ⟨c6gl0,c6gl1,c6gl2,c6gl3⟩:=HR.out.c4 0 rfl;obtain ⟨f6gl0,f6gl1,f6gl2,f6gl3⟩:=HR.out.f4 0 rfl)
  | ((with_reducible refine gate_store (t:=29) (p:=9) rfl ?_);refine stA HR 0 rfl [.int .i64 r0.f0,.string r0.f1,.int .i64 r0.f2,.slice A50 r0.f3.length c50] rfl rfl rfl rfl (by first | (go_simp;done) | (go_simp;rfl)) ?_;clear HR;intro w7 HR;clear c6gl0 c6gl1 c6gl2 c6gl3 f6gl0 f6gl1 f6gl2 f6gl3;obtain ⟨c7ga0,c7ga1,c7ga2,c7ga3⟩:=HR.out.c4 4 rfl)
  | (go_at_call 90;have hc_ : Kd.C k29 w7 A t.f3.length t.f3:=HR.out.poolC HP.out 5 rfl (c:=c) (by simp);(with_reducible refine (H1.out.go w7 hc_).mono ?_);rintro e_ w8 ⟨rfl,hb⟩;clear hc_;replace HR:=asd (HR.out.step hb);clear hb;clear c7ga0 c7ga1 c7ga2 c7ga3;obtain ⟨c8ga0,c8ga1,c8ga2,c8ga3⟩:=HR.out.c4 4 rfl)
  | (go_at_call 90;have hc_ : Kd.C k29 w8 A t.f3.length t.f3:=HR.out.poolC HP.out 5 rfl (c:=c) (by simp);(with_reducible refine (H2.out.go w8 hc_).mono ?_);rintro e_ w9 ⟨rfl,hb⟩;clear hc_;replace HR:=asd (HR.out.step hb);clear hb;clear c8ga0 c8ga1 c8ga2 c8ga3;obtain ⟨c9ga0,c9ga1,c9ga2,c9ga3⟩:=HR.out.c4 4 rfl)
  | (go_at_call 90;have hc_ : Kd.C k29 w9 A t.f3.length t.f3:=HR.out.poolC HP.out 5 rfl (c:=c) (by simp);(with_reducible refine (H3.out.go w9 hc_).mono ?_);rintro e_ w10 ⟨rfl,hb⟩;clear hc_;replace HR:=asd (HR.out.step hb);clear hb;clear c9ga0 c9ga1 c9ga2 c9ga3;obtain ⟨c10ga0,c10ga1,c10ga2,c10ga3⟩:=HR.out.c4 4 rfl)
  | (go_at_call 90;have hc_ : Kd.C k29 w10 A t.f3.length t.f3:=HR.out.poolC HP.out 5 rfl (c:=c) (by simp);(with_reducible refine (H4.out.go w10 hc_).mono ?_);rintro e_ w11 ⟨rfl,hb⟩;clear hc_;replace HR:=asd (HR.out.step hb);clear hb;clear c10ga0 c10ga1 c10ga2 c10ga3;obtain ⟨c11ga0,c11ga1,c11ga2,c11ga3⟩:=HR.out.c4 4 rfl)
  | (go_at_call 94;have hc_ : Kd.C k29 w11 A t.f3.length t.f3:=HR.out.poolC HP.out 5 rfl (c:=c) (by simp);(with_reducible refine (H5.out w11 hc_).mono ?_);rintro e_ w12 ⟨rfl,hb⟩;clear hc_;replace HR:=asd (HR.out.step hb);clear hb;clear c11ga0 c11ga1 c11ga2 c11ga3;obtain ⟨c12ga0,c12ga1,c12ga2,c12ga3⟩:=HR.out.c4 4 rfl;obtain ⟨c12gx0,c12gx1,c12gx2,c12gx3⟩:=HR.out.c4 3 rfl;obtain ⟨c12gy0,c12gy1,c12gy2,c12gy3⟩:=HR.out.c4 2 rfl)
  | (go_at_call 98;obtain ⟨Q_,hQ_,hput_⟩:=HR.out.ask0 HP.out 5 rfl;(with_reducible refine (H6.out w12 Q_ (hQ_ _ (by simp))).mono ?_);rintro e_ w13 ⟨A51,c51,rfl,hr_,hb_⟩;replace HR:=asd (hput_ _ [(.slice A51 r1.f3.length c51,r1.f3)] hb_ (by intro z hz;obtain rfl:=List.mem_singleton.1 hz;exact hr_));clear hQ_ hput_ hb_ Q_ hr_;clear c12ga0 c12ga1 c12ga2 c12ga3 c12gx0 c12gx1 c12gx2 c12gx3 c12gy0 c12gy1 c12gy2 c12gy3;obtain ⟨c13gr0,c13gr1,c13gr2,c13gr3⟩:=HR.out.c4 1 rfl;obtain ⟨f13gr0,f13gr1,f13gr2,f13gr3⟩:=HR.out.f4 1 rfl)
  | ((with_reducible refine gate_store (t:=29) (p:=8) rfl ?_);refine stA HR 1 rfl [.int .i64 r1.f0,.string r1.f1,.int .i64 r1.f2,.slice A51 r1.f3.length c51] rfl rfl rfl rfl (by first | (go_simp;done) | (go_simp;rfl)) ?_;clear HR;intro w14 HR;clear c13gr0 c13gr1 c13gr2 c13gr3 f13gr0 f13gr1 f13gr2 f13gr3))
 try go_wp2
 refine bodyPost_ret (results_cell_row rfl _ _ gr 29 #[.int .i64 r1.f0,.string r1.f1,.int .i64 r1.f2,.slice A51 r1.f3.length c51] (0,0) _ rfl (HR.out.has 1 rfl).2 Tryd.underlying29 rfl (by kernel_rfl)) rfl ?_
 exact ⟨A51,c51,rfl,HR.out.pool_out HP.out 5 rfl 6 rfl (by decide) (fun k hk => hk) _ (by simp),(HR.out.has 6 rfl).2,HR.out.below,HR.out.kept⟩
set_option maxHeartbeats 16000000 in
set_option maxRecDepth 100000 in
theorem spec_b_bad (t : S29) (x y n : Int) (b : Bool) (r0 : S29) (w u : World) (g : Nat) (P : Nat → Prop) (A : Option Addr) (c : Nat) (tb : Tb w) (old : Below w.heap.size w u) (hg : w.heap.size ≤ g) (hP : ¬ P g) (hb : u.heap[g]? = some (.cells #[.int .i64 n,.bool b] 102 (0,0))) (ht : FootRow u P (.slice A t.f3.length c,t.f3))
  (hrow : RowC 114 (.slice A t.f3.length c) (.agg #[.int .i64 t.f0,.string t.f1,.int .i64 t.f2,.slice A t.f3.length c]) t.f3 (.agg #[.int .i64 1,.string (⟨#[]⟩ : ByteArray),.int .i64 y,.slice none 0 0]) r0 false) (h1 : IsC 90 A t.f3.length t.f3 (.agg #[.int .i64 t.f0,.string t.f1,.int .i64 t.f2,.slice A t.f3.length c]) (⟨#[44]⟩ : ByteArray) 2 false) (h2 : IsC 90 A t.f3.length t.f3 (.agg #[.int .i64 t.f0,.string t.f1,.int .i64 t.f2,.slice A t.f3.length c]) (⟨#[59]⟩ : ByteArray) 2 false) (h3 : IsC 90 A t.f3.length t.f3 (.agg #[.int .i64 t.f0,.string t.f1,.int .i64 t.f2,.slice A t.f3.length c]) (⟨#[92,43]⟩ : ByteArray) 1 false) (h4 : IsC 90 A t.f3.length t.f3 (.agg #[.int .i64 t.f0,.string t.f1,.int .i64 t.f2,.slice A t.f3.length c]) (⟨#[100,111]⟩ : ByteArray) 1 false) (h5 : ∀ (W : World),Kd.C k29 W A t.f3.length t.f3 → Calls Tryd.prog 94 #[.agg #[.int .i64 t.f0,.string t.f1,.int .i64 t.f2,.slice A t.f3.length c]] W fun e W' => e = .returned (.bool false) ∧ Below W.heap.size W W') :
  Calls Tryd.prog 99 #[.pointer (some ⟨g,0,none⟩),.agg #[.int .i64 t.f0,.string t.f1,.int .i64 t.f2,.slice A t.f3.length c],.agg #[.int .i64 1,.string (⟨#[]⟩ : ByteArray),.int .i64 x,.slice none 0 0],.agg #[.int .i64 1,.string (⟨#[]⟩ : ByteArray),.int .i64 y,.slice none 0 0]] u fun e u' => BPost 102 w u g P z29 n true e u':=by
 have HR:=asd ((run_fun (a:=As.box g 102 #[.int .i64 n,.bool b]) (ok:=fun k => k = g) old (fun k hk => hk ▸ hg) ⟨rfl,hb⟩).push (As.pool u P [(.slice none 0 0,[]),(.slice A t.f3.length c,t.f3)]) (Below.refl _ _) (pool_in (by intro z hz;simp only [List.mem_cons,List.not_mem_nil,or_false] at hz;rcases hz with rfl|rfl <;> first|exact foot_nil _ _|exact ht)))
 have HP:=asd (show ∀ k,P k → ¬ (k = g) from fun k hk e => hP (e ▸ hk))
 have HG:=asd hg
 have HTB:=asd tb
 have HROW:=asd hrow
 have H1:=asd h1
 have H2:=asd h2
 have H3:=asd h3
 have H4:=asd h4
 have H5:=asd h5
 clear tb old hg hP hb ht hrow h1 h2 h3 h4 h5
 go_enter Tryd.func99,Tryd.ntmps99
 go_wp2_with (first
  | ((with_reducible refine gate_dst (N:=5) rfl ?_);refine nb HR 5 (cs:=#[.int .i64 t.f0,.string t.f1,.int .i64 t.f2,.slice A t.f3.length c]) (t:=29) rfl rfl (by first | (go_simp;done) | (go_simp;rfl)) ?_;clear HR;intro ga w1 HR)
  | ((with_reducible refine gate_dst (N:=6) rfl ?_);refine nb HR 6 (cs:=#[.int .i64 1,.string (⟨#[]⟩ : ByteArray),.int .i64 x,.slice none 0 0]) (t:=29) rfl rfl (by first | (go_simp;done) | (go_simp;rfl)) ?_;clear HR;intro gx w2 HR)
  | ((with_reducible refine gate_dst (N:=7) rfl ?_);refine nb HR 7 (cs:=#[.int .i64 1,.string (⟨#[]⟩ : ByteArray),.int .i64 y,.slice none 0 0]) (t:=29) rfl rfl (by first | (go_simp;done) | (go_simp;rfl)) ?_;clear HR;intro gy w3 HR)
  | ((with_reducible refine gate_dst (N:=8) rfl ?_);refine nb HR 8 (cs:=#[.int .i64 0,.string (⟨#[]⟩ : ByteArray),.int .i64 0,.slice none 0 0]) (t:=29) rfl rfl (by first | (go_simp;done) | (go_simp;rfl)) ?_;clear HR;intro gr w4 HR;obtain ⟨c4ga0,c4ga1,c4ga2,c4ga3⟩:=HR.out.c4 3 rfl;obtain ⟨c4gy0,c4gy1,c4gy2,c4gy3⟩:=HR.out.c4 1 rfl)
  | (go_at_call 114;obtain ⟨Q_,hQ_,hput_⟩:=HR.out.ask0 HP.out 4 rfl;(with_reducible refine (HROW.out.go w4 Q_ (hQ_ _ (by simp))).mono ?_);rintro e_ w5 ⟨A50,c50,rfl,hr_,hb_⟩;replace HR:=asd (hput_ _ [(.slice A50 r0.f3.length c50,r0.f3)] hb_ (by intro z hz;obtain rfl:=List.mem_singleton.1 hz;exact hr_));clear hQ_ hput_ hb_ Q_ hr_;clear c4ga0 c4ga1 c4ga2 c4ga3 c4gy0 c4gy1 c4gy2 c4gy3)
  | ((with_reducible refine gate_dst (N:=9) rfl ?_);refine nb HR 9 (cs:=#[.int .i64 0,.string (⟨#[]⟩ : ByteArray),.int .i64 0,.slice none 0 0]) (t:=29) rfl rfl (by first | (go_simp;done) | (go_simp;rfl)) ?_;clear HR;intro gl w6 HR;obtain ⟨c6gl0,c6gl1,c6gl2,c6gl3⟩:=HR.out.c4 0 rfl;obtain ⟨f6gl0,f6gl1,f6gl2,f6gl3⟩:=HR.out.f4 0 rfl)
  | ((with_reducible refine gate_store (t:=29) (p:=9) rfl ?_);refine stA HR 0 rfl [.int .i64 r0.f0,.string r0.f1,.int .i64 r0.f2,.slice A50 r0.f3.length c50] rfl rfl rfl rfl (by first | (go_simp;done) | (go_simp;rfl)) ?_;clear HR;intro w7 HR;clear c6gl0 c6gl1 c6gl2 c6gl3 f6gl0 f6gl1 f6gl2 f6gl3;obtain ⟨c7ga0,c7ga1,c7ga2,c7ga3⟩:=HR.out.c4 4 rfl)
  | (go_at_call 90;have hc_ : Kd.C k29 w7 A t.f3.length t.f3:=HR.out.poolC HP.out 5 rfl (c:=c) (by simp);(with_reducible refine (H1.out.go w7 hc_).mono ?_);rintro e_ w8 ⟨rfl,hb⟩;clear hc_;replace HR:=asd (HR.out.step hb);clear hb;clear c7ga0 c7ga1 c7ga2 c7ga3;obtain ⟨c8ga0,c8ga1,c8ga2,c8ga3⟩:=HR.out.c4 4 rfl)
  | (go_at_call 90;have hc_ : Kd.C k29 w8 A t.f3.length t.f3:=HR.out.poolC HP.out 5 rfl (c:=c) (by simp);(with_reducible refine (H2.out.go w8 hc_).mono ?_);rintro e_ w9 ⟨rfl,hb⟩;clear hc_;replace HR:=asd (HR.out.step hb);clear hb;clear c8ga0 c8ga1 c8ga2 c8ga3;obtain ⟨c9ga0,c9ga1,c9ga2,c9ga3⟩:=HR.out.c4 4 rfl)
  | (go_at_call 90;have hc_ : Kd.C k29 w9 A t.f3.length t.f3:=HR.out.poolC HP.out 5 rfl (c:=c) (by simp);(with_reducible refine (H3.out.go w9 hc_).mono ?_);rintro e_ w10 ⟨rfl,hb⟩;clear hc_;replace HR:=asd (HR.out.step hb);clear hb;clear c9ga0 c9ga1 c9ga2 c9ga3;obtain ⟨c10ga0,c10ga1,c10ga2,c10ga3⟩:=HR.out.c4 4 rfl)
  | (go_at_call 90;have hc_ : Kd.C k29 w10 A t.f3.length t.f3:=HR.out.poolC HP.out 5 rfl (c:=c) (by simp);(with_reducible refine (H4.out.go w10 hc_).mono ?_);rintro e_ w11 ⟨rfl,hb⟩;clear hc_;replace HR:=asd (HR.out.step hb);clear hb;clear c10ga0 c10ga1 c10ga2 c10ga3;obtain ⟨c11ga0,c11ga1,c11ga2,c11ga3⟩:=HR.out.c4 4 rfl)
  | (go_at_call 94;have hc_ : Kd.C k29 w11 A t.f3.length t.f3:=HR.out.poolC HP.out 5 rfl (c:=c) (by simp);(with_reducible refine (H5.out w11 hc_).mono ?_);rintro e_ w12 ⟨rfl,hb⟩;clear hc_;replace HR:=asd (HR.out.step hb);clear hb;clear c11ga0 c11ga1 c11ga2 c11ga3;obtain ⟨c12g0,c12g1⟩:=HR.out.c2 6 rfl;obtain ⟨f12g0,f12g1⟩:=HR.out.f2 6 rfl)
  | ((with_reducible refine gate_store (t:=4) (p:=111) rfl ?_);refine st1 HR 6 rfl 1 (.bool true) rfl rfl rfl (by first | (go_simp;done) | (go_simp;rfl)) (cs':=#[.int .i64 n,.bool true]) rfl ?_;clear HR;intro w13 HR;clear c12g0 c12g1 f12g0 f12g1;obtain ⟨c13gr0,c13gr1,c13gr2,c13gr3⟩:=HR.out.c4 1 rfl;obtain ⟨f13gr0,f13gr1,f13gr2,f13gr3⟩:=HR.out.f4 1 rfl)
  | ((with_reducible refine gate_store (t:=29) (p:=8) rfl ?_);refine stA HR 1 rfl [.int .i64 0,.string (⟨#[]⟩ : ByteArray),.int .i64 0,.slice none 0 0] rfl rfl rfl rfl (by first | (go_simp;done) | (go_simp;rfl)) ?_;clear HR;intro w14 HR;clear c13gr0 c13gr1 c13gr2 c13gr3 f13gr0 f13gr1 f13gr2 f13gr3))
 try go_wp2
 refine bodyPost_ret (results_cell_row rfl _ _ gr 29 #[.int .i64 0,.string (⟨#[]⟩ : ByteArray),.int .i64 0,.slice none 0 0] (0,0) _ rfl (HR.out.has 1 rfl).2 Tryd.underlying29 rfl (by kernel_rfl)) rfl ?_
 exact ⟨none,0,rfl,foot_nil _ _,(HR.out.has 6 rfl).2,HR.out.below,HR.out.kept⟩
end
end Go.Proofs.YtojedbogbodkiaaDoor.KGr
