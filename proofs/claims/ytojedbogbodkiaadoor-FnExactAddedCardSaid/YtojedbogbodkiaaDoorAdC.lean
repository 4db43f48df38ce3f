/- Of this claim's own making;what nothing names is struck (fewall.py). -/
import Derived.Test.YtojedbogbodkiaaDoorKAdx10
import Derived.Test.YtojedbogbodkiaaDoorAdB
import Derived.Test.YtojedbogbodkiaaDoorAdD
import Derived.Test.YtojedbogbodkiaaDoorKS
set_option linter.unusedVariables false
set_option linter.unusedSimpArgs false
namespace Go.Proofs.YtojedbogbodkiaaDoor.KAd
open Go.RowKit Go.Proofs.YtojedbogbodkiaaDoorW.PrintWords Go.Proofs.YtojedbogbodkiaaDoorW.PrintLast Go.Proofs.YtojedbogbodkiaaDoorW.PrintMore
section
set_option linter.unusedSectionVars false
variable [fk_laws_szTerm] [fk_laws_eqTerm] [fk_spec_l34Term] [fk_strconv_Itoa]
def acr (v : Value) (xs : List S29) (v' : Value) (ys : List S29) : As:=As.star (As.row kD29 29 v xs) (As.row kD29 29 v' ys)
theorem rdA {b : Nat} {W : World} {ok : Nat → Prop} {A : Option Addr} {n c : Nat} {xs ys : List S29} {v : Value} (h : (acr (.slice A n c) xs v ys).M b W ok) : n ≤ c ∧ Kd.C k29 W A n xs:=readS (as_fst h)
theorem rdB {b : Nat} {W : World} {ok : Nat → Prop} {A : Option Addr} {n c : Nat} {xs ys : List S29} {v : Value} (h : (acr v ys (.slice A n c) xs).M b W ok) : n ≤ c ∧ Kd.C k29 W A n xs:=readS (as_snd h)
theorem rdVD {b : Nat} {W : World} {ok : Nat → Prop} {A : Option Addr} {n c : Nat} {xs : List S48} {v' : Value} {os : List ByteArray} (h : (avd (.slice A n c) xs v' os).M b W ok) : n ≤ c ∧ Kd.C k48 W A n xs:=by
 obtain ⟨h1,h2,h3⟩:=Kd.V_reads' (e:=48) (base:=0) h.1
 rw [h1]
 exact ⟨by omega,h3⟩
theorem rdVO {b : Nat} {W : World} {ok : Nat → Prop} {A : Option Addr} {n c : Nat} {os : List ByteArray} {v : Value} {xs : List S48} (h : (avd v xs (.slice A n c) os).M b W ok) : n ≤ c ∧ Kd.C Kd.string W A n os:=by
 obtain ⟨h1,h2,h3⟩:=Kd.V_reads' (e:=9) (base:=0) h.2
 rw [h1]
 exact ⟨by omega,h3⟩
def lw8_8_T : Bool × List (List Nat × List Nat):=(true,[([],[]),([0],[0]),([],[]),([2,1],[2]),([1,3,3],[1,3]),([4],[4]),([5],[5]),([5],[5]),([],[]),([8,6,4,0,1,2,3,4,5,6,8],[6,8]),([7,9,0,1,2,3,4,5,6,7,8,9],[7])])
def lw8_8_B : List Nat:=[0,1,0,7,15,31,63,63,0,383,1023]
theorem lw8_8_tab : rtab .any (opsOf Tryd.f8 8) = lw8_8_T:=by kernel_rfl
theorem lw8_8_bits : waitsOk lw8_8_T.2 lw8_8_B = true:=by kernel_rfl
def lw8_14_T : Bool × List (List Nat × List Nat):=(true,[([],[]),([],[]),([1],[1]),([0,2,2],[0,2]),([3],[3])])
def lw8_14_B : List Nat:=[0,0,2,7,15]
theorem lw8_14_tab : rtab .any (opsOf Tryd.f8 14) = lw8_14_T:=by kernel_rfl
theorem lw8_14_bits : waitsOk lw8_14_T.2 lw8_14_B = true:=by kernel_rfl
def lw8_16_T : Bool × List (List Nat × List Nat):=(true,[([],[]),([],[]),([1],[1]),([0,2,2],[0,2]),([3],[3])])
def lw8_16_B : List Nat:=[0,0,2,7,15]
theorem lw8_16_tab : rtab .any (opsOf Tryd.f8 16) = lw8_16_T:=by kernel_rfl
theorem lw8_16_bits : waitsOk lw8_16_T.2 lw8_16_B = true:=by kernel_rfl
def lw8_31_T : Bool × List (List Nat × List Nat):=(true,[([],[]),([0],[0]),([],[]),([2,1],[2]),([1,3,3],[1,3]),([4],[4]),([5],[5]),([5],[5]),([],[]),([8,6,4,0,1,2,3,4,5,6,8],[6,8]),([7,9,0,1,2,3,4,5,6,7,8,9],[7])])
def lw8_31_B : List Nat:=[0,1,0,7,15,31,63,63,0,383,1023]
theorem lw8_31_tab : rtab .any (opsOf Tryd.f8 31) = lw8_31_T:=by kernel_rfl
theorem lw8_31_bits : waitsOk lw8_31_T.2 lw8_31_B = true:=by kernel_rfl
set_option maxHeartbeats 32000000 in
set_option maxRecDepth 100000 in
theorem ad_walk (l : List S60) (os : List ByteArray) (cc : S60) (A_Da : Option Addr) (c_Da : Nat) (A_Db : Option Addr) (c_Db : Nat) (A_Ca : Option Addr) (c_Ca : Nat) (A_Cb : Option Addr) (c_Cb : Nat) (left left2 m m1 m2 : Int) (xd xg yd yg : List S48) (xk : S48) (bo : Bool) (yo yog : List ByteArray) (yka ykb : List S29) (w : World)
  (hl1 : 0 ≤ left)
  (hl2 : 0 ≤ left2)
  (hm : 0 ≤ m)
  (hm2 : 0 ≤ m2)
  (hLa : l.length ≤ c_Da)
  (hCa : Kd.C k60 w A_Da l.length l)
  (hLb : os.length ≤ c_Db)
  (hCb : Kd.C Kd.string w A_Db os.length os)
  (hLc : cc.f0.f3.length ≤ c_Ca)
  (hCc : Kd.C k24 w A_Ca cc.f0.f3.length cc.f0.f3)
  (hLd : cc.f1.f3.length ≤ c_Cb)
  (hCd : Kd.C k24 w A_Cb cc.f1.f3.length cc.f1.f3)
  (c15 : ∀ W A c B d,l.length ≤ c → Kd.C k60 W A l.length l → os.length ≤ d → Kd.C Kd.string W B os.length os → Calls Tryd.prog 15 #[.agg #[.slice A l.length c,.slice B os.length d],.int .i64 1048576] W fun e W' => e = .returned (.int .i64 left) ∧ Below W.heap.size W W')
  (c34 : ∀ W A c B d,cc.f0.f3.length ≤ c → Kd.C k24 W A cc.f0.f3.length cc.f0.f3 → cc.f1.f3.length ≤ d → Kd.C k24 W B cc.f1.f3.length cc.f1.f3 → Calls Tryd.prog 34 #[.agg #[.int .i64 cc.f0.f0,.string cc.f0.f1,.int .i64 cc.f0.f2,.slice A cc.f0.f3.length c,.int .i64 cc.f1.f0,.string cc.f1.f1,.int .i64 cc.f1.f2,.slice B cc.f1.f3.length d,.string cc.f2],.int .i64 left] W fun e W' => e = .returned (.int .i64 left2) ∧ Below W.heap.size W W')
  (c17 : ∀ W A c B d,l.length ≤ c → Kd.C k60 W A l.length l → os.length ≤ d → Kd.C Kd.string W B os.length os → Calls Tryd.prog 17 #[.agg #[.slice A l.length c,.slice B os.length d]] W fun e W' => ∃ A c B d,e = .returned (.agg #[.slice A xd.length c,.slice B os.length d]) ∧ (adb (.slice A xd.length c) xd (.slice B os.length d) os).M W.heap.size W' (fun k => W.heap.size ≤ k) ∧ Below W.heap.size W W')
  (c36 : ∀ W A c B d,cc.f0.f3.length ≤ c → Kd.C k24 W A cc.f0.f3.length cc.f0.f3 → cc.f1.f3.length ≤ d → Kd.C k24 W B cc.f1.f3.length cc.f1.f3 → Calls Tryd.prog 36 #[.agg #[.int .i64 cc.f0.f0,.string cc.f0.f1,.int .i64 cc.f0.f2,.slice A cc.f0.f3.length c,.int .i64 cc.f1.f0,.string cc.f1.f1,.int .i64 cc.f1.f2,.slice B cc.f1.f3.length d,.string cc.f2]] W fun e W' => ∃ A c B d,e = .returned (.agg #[.int .i64 xk.f0.f0,.string xk.f0.f1,.int .i64 xk.f0.f2,.slice A xk.f0.f3.length c,.int .i64 xk.f1.f0,.string xk.f1.f1,.int .i64 xk.f1.f2,.slice B xk.f1.f3.length d,.string xk.f2]) ∧ (acr (.slice A xk.f0.f3.length c) xk.f0.f3 (.slice B xk.f1.f3.length d) xk.f1.f3).M W.heap.size W' (fun k => W.heap.size ≤ k) ∧ Below W.heap.size W W')
  (c35 : ∀ W A c B d A2 c2 B2 d2,xd.length ≤ c → Kd.C k48 W A xd.length xd → os.length ≤ d → Kd.C Kd.string W B os.length os → xk.f0.f3.length ≤ c2 → Kd.C k29 W A2 xk.f0.f3.length xk.f0.f3 → xk.f1.f3.length ≤ d2 → Kd.C k29 W B2 xk.f1.f3.length xk.f1.f3 → Calls Tryd.prog 35 #[.agg #[.slice A xd.length c,.slice B os.length d],.agg #[.int .i64 xk.f0.f0,.string xk.f0.f1,.int .i64 xk.f0.f2,.slice A2 xk.f0.f3.length c2,.int .i64 xk.f1.f0,.string xk.f1.f1,.int .i64 xk.f1.f2,.slice B2 xk.f1.f3.length d2,.string xk.f2]] W fun e W' => ∃ A c B d,e = .returned (.tuple #[.agg #[.slice A xg.length c,.slice B os.length d],.bool bo]) ∧ (avd (.slice A xg.length c) xg (.slice B os.length d) os).M W.heap.size W' (fun k => W.heap.size ≤ k) ∧ Below W.heap.size W W')
  (c37 : ∀ W A c B d A2 c2 B2 d2,Below w.heap.size w W → xd.length ≤ c → Kd.C k48 W A xd.length xd → os.length ≤ d → Kd.C Kd.string W B os.length os → xk.f0.f3.length ≤ c2 → Kd.C k29 W A2 xk.f0.f3.length xk.f0.f3 → xk.f1.f3.length ≤ d2 → Kd.C k29 W B2 xk.f1.f3.length xk.f1.f3 → Calls Tryd.prog 37 #[.agg #[.slice A xd.length c,.slice B os.length d],.agg #[.int .i64 xk.f0.f0,.string xk.f0.f1,.int .i64 xk.f0.f2,.slice A2 xk.f0.f3.length c2,.int .i64 xk.f1.f0,.string xk.f1.f1,.int .i64 xk.f1.f2,.slice B2 xk.f1.f3.length d2,.string xk.f2]] W fun e W' => ∃ A c B d,e = .returned (.tuple #[.agg #[.slice A xg.length c,.slice B os.length d],.bool bo]) ∧ (adb (.slice A xg.length c) xg (.slice B os.length d) os).M W.heap.size W' (fun k => W.heap.size ≤ k) ∧ Below W.heap.size W W')
  (c19 : ∀ W A c B d A2 c2 B2 d2,xg.length ≤ c → Kd.C k48 W A xg.length xg → os.length ≤ d → Kd.C Kd.string W B os.length os → xg.length ≤ c2 → Kd.C k48 W A2 xg.length xg → os.length ≤ d2 → Kd.C Kd.string W B2 os.length os → Calls Tryd.prog 19 #[.agg #[.slice A xg.length c,.slice B os.length d],.agg #[.slice A2 xg.length c2,.slice B2 os.length d2]] W fun e W' => e = .returned (.bool true) ∧ Below W.heap.size W W')
  (d19 : ∀ W A c B d A2 c2 B2 d2,xd.length ≤ c → Kd.C k48 W A xd.length xd → os.length ≤ d → Kd.C Kd.string W B os.length os → xd.length ≤ c2 → Kd.C k48 W A2 xd.length xd → os.length ≤ d2 → Kd.C Kd.string W B2 os.length os → Calls Tryd.prog 19 #[.agg #[.slice A xd.length c,.slice B os.length d],.agg #[.slice A2 xd.length c2,.slice B2 os.length d2]] W fun e W' => e = .returned (.bool true) ∧ Below W.heap.size W W')
  (c24 : ∀ W A c B d A2 c2 B2 d2,xk.f0.f3.length ≤ c → Kd.C k29 W A xk.f0.f3.length xk.f0.f3 → xk.f1.f3.length ≤ d → Kd.C k29 W B xk.f1.f3.length xk.f1.f3 → xk.f0.f3.length ≤ c2 → Kd.C k29 W A2 xk.f0.f3.length xk.f0.f3 → xk.f1.f3.length ≤ d2 → Kd.C k29 W B2 xk.f1.f3.length xk.f1.f3 → Calls Tryd.prog 24 #[.agg #[.int .i64 xk.f0.f0,.string xk.f0.f1,.int .i64 xk.f0.f2,.slice A xk.f0.f3.length c,.int .i64 xk.f1.f0,.string xk.f1.f1,.int .i64 xk.f1.f2,.slice B xk.f1.f3.length d,.string xk.f2],.agg #[.int .i64 xk.f0.f0,.string xk.f0.f1,.int .i64 xk.f0.f2,.slice A2 xk.f0.f3.length c2,.int .i64 xk.f1.f0,.string xk.f1.f1,.int .i64 xk.f1.f2,.slice B2 xk.f1.f3.length d2,.string xk.f2]] W fun e W' => e = .returned (.bool true) ∧ Below W.heap.size W W')
  (c31 : ∀ W (ok : Nat → Prop) A c B d,Below w.heap.size w W → (∀ k,ok k → w.heap.size ≤ k) → (adb (.slice A xd.length c) xd (.slice B os.length d) os).M w.heap.size W ok → Calls Tryd.prog 31 #[.agg #[.slice A xd.length c,.slice B os.length d],.int .i64 1] W fun e W' => e = .returned (.int .i64 m1) ∧ (adb (.slice A xd.length c) yd (.slice B os.length d) yo).M w.heap.size W' (fun k => ok k ∨ W.heap.size ≤ k) ∧ Below w.heap.size W W' ∧ Kept W W' ok)
  (c26 : ∀ W (ok : Nat → Prop) A c B d,Below w.heap.size w W → (∀ k,ok k → w.heap.size ≤ k) → (acr (.slice A xk.f0.f3.length c) xk.f0.f3 (.slice B xk.f1.f3.length d) xk.f1.f3).M w.heap.size W ok → Calls Tryd.prog 26 #[.agg #[.int .i64 xk.f0.f0,.string xk.f0.f1,.int .i64 xk.f0.f2,.slice A xk.f0.f3.length c,.int .i64 xk.f1.f0,.string xk.f1.f1,.int .i64 xk.f1.f2,.slice B xk.f1.f3.length d,.string xk.f2],.int .i64 m1] W fun e W' => e = .returned (.int .i64 m2) ∧ (acr (.slice A xk.f0.f3.length c) yka (.slice B xk.f1.f3.length d) ykb).M w.heap.size W' (fun k => ok k ∨ W.heap.size ≤ k) ∧ Below w.heap.size W W' ∧ Kept W W' ok)
  (d31 : ∀ W (ok : Nat → Prop) A c B d,Below w.heap.size w W → (∀ k,ok k → w.heap.size ≤ k) → (adb (.slice A xg.length c) xg (.slice B os.length d) os).M w.heap.size W ok → Calls Tryd.prog 31 #[.agg #[.slice A xg.length c,.slice B os.length d],.int .i64 1] W fun e W' => e = .returned (.int .i64 m) ∧ (adb (.slice A xg.length c) yg (.slice B os.length d) yog).M w.heap.size W' (fun k => ok k ∨ W.heap.size ≤ k) ∧ Below w.heap.size W W' ∧ Kept W W' ok)
  (c38 : ∀ W A c B d,xg.length ≤ c → Kd.C k48 W A xg.length yg → os.length ≤ d → Kd.C Kd.string W B os.length yog → Calls Tryd.prog 38 #[.agg #[.slice A xg.length c,.slice B os.length d],.int .i64 1] W fun e W' => e = .returned (.int .i64 m) ∧ Below W.heap.size W W') :
  Calls Tryd.prog 8 #[.agg #[.slice A_Da l.length c_Da,.slice A_Db os.length c_Db],.agg #[.int .i64 cc.f0.f0,.string cc.f0.f1,.int .i64 cc.f0.f2,.slice A_Ca cc.f0.f3.length c_Ca,.int .i64 cc.f1.f0,.string cc.f1.f1,.int .i64 cc.f1.f2,.slice A_Cb cc.f1.f3.length c_Cb,.string cc.f2]] w fun e w' => e = .returned (.bool true) ∧ Below w.heap.size w w':=by
 have HL_Da:=asd hLa
 have HC_Da:=asd hCa
 have HL_Db:=asd hLb
 have HC_Db:=asd hCb
 have HL_Ca:=asd hLc
 have HC_Ca:=asd hCc
 have HL_Cb:=asd hLd
 have HC_Cb:=asd hCd
 clear hLa hCa hLb hCb hLc hCc hLd hCd
 have cl0 : decide (left < 0) = false:=decide_eq_false (by omega)
 have cl1 : decide (left2 < 0) = false:=decide_eq_false (by omega)
 have cm0 : decide (m < 0) = false:=decide_eq_false (by omega)
 have cm1 : (m != m) = false:=by simp
 have cm2 : decide (m2 < 0) = false:=decide_eq_false (by omega)
 have cb0 : (bo != bo) = false:=by simp
 clear hm hm2 hl1 hl2
 have HR:=asd (run_law w)
 go_enter Tryd.func8,Tryd.ntmps8
 go_wp2_with (first
  | ((with_reducible refine gate_dst (N:=2) rfl ?_);refine box_event ?hg2 (N:=2) ?hd2 (cs:=#[.slice A_Da l.length c_Da,.slice A_Db os.length c_Db]) (t:=36) ?hr2 ?_;(case hd2 => rfl);(case hg2 => rfl);(case hr2 => first | (go_simp;done) | (go_simp;rfl));intro g_b2 hg w1 hbox hb;replace HR:=asd (HR.out.box hg hb hbox);clear hg hbox hb)
  | ((with_reducible refine gate_dst (N:=3) rfl ?_);refine box_event ?hg3 (N:=3) ?hd3 (cs:=#[.int .i64 cc.f0.f0,.string cc.f0.f1,.int .i64 cc.f0.f2,.slice A_Ca cc.f0.f3.length c_Ca,.int .i64 cc.f1.f0,.string cc.f1.f1,.int .i64 cc.f1.f2,.slice A_Cb cc.f1.f3.length c_Cb,.string cc.f2]) (t:=60) ?hr3 ?_;(case hd3 => rfl);(case hg3 => rfl);(case hr3 => first | (go_simp;done) | (go_simp;rfl));intro g_b3 hg w2 hbox hb;replace HR:=asd (HR.out.box hg hb hbox);clear hg hbox hb;have hc_b2_0 : w2.cell? ⟨g_b2,0,none⟩ = some (.slice A_Da l.length c_Da):=HR.out.cell 1 rfl 0 rfl;have hc_b2_1 : w2.cell? ⟨g_b2,1,none⟩ = some (.slice A_Db os.length c_Db):=HR.out.cell 1 rfl 1 rfl)
  | (go_at_call 15;with_reducible refine (c15 w2 _ _ _ _ HL_Da.out (Kd.C_below HC_Da.out HR.out.bel) HL_Db.out (Kd.C_below HC_Db.out HR.out.bel)).mono ?_;rintro e w3 ⟨rfl,hb⟩;replace HR:=asd (HR.out.step hb);clear hb;clear hc_b2_0 hc_b2_1;have hc_b3_0 : w3.cell? ⟨g_b3,0,none⟩ = some (.int .i64 cc.f0.f0):=HR.out.cell 0 rfl 0 rfl;have hc_b3_1 : w3.cell? ⟨g_b3,1,none⟩ = some (.string cc.f0.f1):=HR.out.cell 0 rfl 1 rfl;have hc_b3_2 : w3.cell? ⟨g_b3,2,none⟩ = some (.int .i64 cc.f0.f2):=HR.out.cell 0 rfl 2 rfl;have hc_b3_3 : w3.cell? ⟨g_b3,3,none⟩ = some (.slice A_Ca cc.f0.f3.length c_Ca):=HR.out.cell 0 rfl 3 rfl;have hc_b3_4 : w3.cell? ⟨g_b3,4,none⟩ = some (.int .i64 cc.f1.f0):=HR.out.cell 0 rfl 4 rfl;have hc_b3_5 : w3.cell? ⟨g_b3,5,none⟩ = some (.string cc.f1.f1):=HR.out.cell 0 rfl 5 rfl;have hc_b3_6 : w3.cell? ⟨g_b3,6,none⟩ = some (.int .i64 cc.f1.f2):=HR.out.cell 0 rfl 6 rfl;have hc_b3_7 : w3.cell? ⟨g_b3,7,none⟩ = some (.slice A_Cb cc.f1.f3.length c_Cb):=HR.out.cell 0 rfl 7 rfl;have hc_b3_8 : w3.cell? ⟨g_b3,8,none⟩ = some (.string cc.f2):=HR.out.cell 0 rfl 8 rfl)
  | (go_at_call 34;with_reducible refine (c34 w3 _ _ _ _ HL_Ca.out (Kd.C_below HC_Ca.out HR.out.bel) HL_Cb.out (Kd.C_below HC_Cb.out HR.out.bel)).mono ?_;rintro e w4 ⟨rfl,hb⟩;replace HR:=asd (HR.out.step hb);clear hb;clear hc_b3_0 hc_b3_1 hc_b3_2 hc_b3_3 hc_b3_4 hc_b3_5 hc_b3_6 hc_b3_7 hc_b3_8))
 replace HR:=asd (HR.out.drew)
 refine start_ (n:=11) (S:=fun w' => w'.cell? ⟨g_b2,0,none⟩ = some (.slice A_Da l.length c_Da) ∧ w'.cell? ⟨g_b2,1,none⟩ = some (.slice A_Db os.length c_Db) ∧ w'.cell? ⟨g_b3,0,none⟩ = some (.int .i64 cc.f0.f0) ∧ w'.cell? ⟨g_b3,1,none⟩ = some (.string cc.f0.f1) ∧ w'.cell? ⟨g_b3,2,none⟩ = some (.int .i64 cc.f0.f2) ∧ w'.cell? ⟨g_b3,3,none⟩ = some (.slice A_Ca cc.f0.f3.length c_Ca) ∧ w'.cell? ⟨g_b3,4,none⟩ = some (.int .i64 cc.f1.f0) ∧ w'.cell? ⟨g_b3,5,none⟩ = some (.string cc.f1.f1) ∧ w'.cell? ⟨g_b3,6,none⟩ = some (.int .i64 cc.f1.f2) ∧ w'.cell? ⟨g_b3,7,none⟩ = some (.slice A_Cb cc.f1.f3.length c_Cb) ∧ w'.cell? ⟨g_b3,8,none⟩ = some (.string cc.f2)) (ds:=[9]) #[false,false,false,false,false,false,false,false,false,false,false] (by kernel_rfl) rfl rfl ⟨HR.out.cell 1 rfl 0 rfl,HR.out.cell 1 rfl 1 rfl,HR.out.cell 0 rfl 0 rfl,HR.out.cell 0 rfl 1 rfl,HR.out.cell 0 rfl 2 rfl,HR.out.cell 0 rfl 3 rfl,HR.out.cell 0 rfl 4 rfl,HR.out.cell 0 rfl 5 rfl,HR.out.cell 0 rfl 6 rfl,HR.out.cell 0 rfl 7 rfl,HR.out.cell 0 rfl 8 rfl⟩ (fun hHeld => ?_);refine with_tabW lw8_8_tab lw8_8_bits (fun HT_ HW_ => ?_)
 generalize w4.drew = w5 at HR hHeld ⊢
 refine take_ (i:=0) (N:=some 28) (v:=?_) (a':=?_) #[true,false,false,false,false,false,false,false,false,false,false] rfl rfl (take_ofW HT_.out HW_.out (by kernel_rfl)) (fun _ _ _ h => h) (Or.inl ⟨by rfl,?_⟩) hHeld ?_ ?_
 rotate_left
 ·rintro w' ⟨s0,s1,s2,s3,s4,s5,s6,s7,s8,s9,s10⟩
  go_simp
  with_reducible rfl
 rotate_left
 ·simp only [Act.put,List.setIfInBounds_toArray,List.set_cons_zero,List.set_cons_succ,i64_w,i32_w]
  rfl
 refine take_ (i:=2) (N:=some 30) (v:=?_) (a':=?_) #[true,false,true,false,false,false,false,false,false,false,false] rfl rfl (take_ofW HT_.out HW_.out (by kernel_rfl)) (fun _ _ _ h => h) (Or.inl ⟨by rfl,?_⟩) hHeld ?_ ?_
 rotate_left
 ·rintro w' ⟨s0,s1,s2,s3,s4,s5,s6,s7,s8,s9,s10⟩
  go_simp
  with_reducible rfl
 rotate_left
 ·simp only [Act.put,List.setIfInBounds_toArray,List.set_cons_zero,List.set_cons_succ,i64_w,i32_w]
  rfl
 refine join_ (σ:=Option Addr × Nat × Option Addr × Nat × Option Addr × Nat × Option Addr × Nat × Option Addr × Nat × Option Addr × Nat × Nat) 2 #[true,true,true,true,true,true,true,true,true,false,false] (fun s => let ⟨A_e0a,c_e0a,A_e0b,c_e0b,A_f0a,c_f0a,A_f0b,c_f0b,A_w0a,c_w0a,A_w0b,c_w0b,g_b6⟩:=s;[(29,.agg #[.slice A_e0a xd.length c_e0a,.slice A_e0b os.length c_e0b]),(31,.agg #[.int .i64 xk.f0.f0,.string xk.f0.f1,.int .i64 xk.f0.f2,.slice A_f0a xk.f0.f3.length c_f0a,.int .i64 xk.f1.f0,.string xk.f1.f1,.int .i64 xk.f1.f2,.slice A_f0b xk.f1.f3.length c_f0b,.string xk.f2]),(32,.tuple #[.agg #[.slice A_w0a xg.length c_w0a,.slice A_w0b os.length c_w0b],.bool bo]),(27,.tuple #[.agg #[.slice A_w0a xg.length c_w0a,.slice A_w0b os.length c_w0b],.bool bo]),(33,.agg #[.slice A_w0a xg.length c_w0a,.slice A_w0b os.length c_w0b]),(34,.bool bo),(6,.pointer (some ⟨g_b6,0,none⟩))]) (fun s w' => let ⟨A_e0a,c_e0a,A_e0b,c_e0b,A_f0a,c_f0a,A_f0b,c_f0b,A_w0a,c_w0a,A_w0b,c_w0b,g_b6⟩:=s;Run w w (fun _ => False) [As.box g_b6 41 #[.slice none 0 0,.slice none 0 0],(avd (.slice A_w0a xg.length c_w0a) xg (.slice A_w0b os.length c_w0b) os),(acr (.slice A_f0a xk.f0.f3.length c_f0a) xk.f0.f3 (.slice A_f0b xk.f1.f3.length c_f0b) xk.f1.f3),(adb (.slice A_e0a xd.length c_e0a) xd (.slice A_e0b os.length c_e0b) os),As.box g_b3 60 #[.int .i64 cc.f0.f0,.string cc.f0.f1,.int .i64 cc.f0.f2,.slice A_Ca cc.f0.f3.length c_Ca,.int .i64 cc.f1.f0,.string cc.f1.f1,.int .i64 cc.f1.f2,.slice A_Cb cc.f1.f3.length c_Cb,.string cc.f2],As.box g_b2 36 #[.slice A_Da l.length c_Da,.slice A_Db os.length c_Db]] w') ?_ ?_
 rotate_left
 ·intro hCont
  refine two_ (i:=1) (j:=8) (Ni:=some 29) (Nj:=some 6) #[true,true,true,false,false,false,false,false,false,false,false] #[true,false,true,false,false,false,false,false,true,false,false] rfl rfl rfl rfl (two_of HT_.out (by kernel_rfl)) (by decide) (by decide) (fun K hK => ?_) (fun K hK => ?_)
  ·skip
   refine goes_ Tryd.func17 (by kernel_rfl) rfl #[.agg #[.slice A_Da l.length c_Da,.slice A_Db os.length c_Db]] (by rfl) rfl rfl (by (try simp only [List.map_toArray,List.map_cons,List.map_nil]);first|done|rfl) ?_
   refine (c17 w5 _ _ _ _ HL_Da.out (Kd.C_below HC_Da.out HR.out.bel) HL_Db.out (Kd.C_below HC_Db.out HR.out.bel)).mono ?_
   rintro e w6 ⟨A_e0a,c_e0a,A_e0b,c_e0b,rfl,ho,hb⟩
   refine ⟨_,rfl,?_⟩
   replace HR:=asd (HR.out.push _ hb ho)
   clear hb ho
   refine hK.out _ _ ⟨HR.out.cell 2 rfl 0 rfl,HR.out.cell 2 rfl 1 rfl,HR.out.cell 1 rfl 0 rfl,HR.out.cell 1 rfl 1 rfl,HR.out.cell 1 rfl 2 rfl,HR.out.cell 1 rfl 3 rfl,HR.out.cell 1 rfl 4 rfl,HR.out.cell 1 rfl 5 rfl,HR.out.cell 1 rfl 6 rfl,HR.out.cell 1 rfl 7 rfl,HR.out.cell 1 rfl 8 rfl⟩ (fun hHeld => ?_)
   clear hK K
   refine norm_ (a':=?_) ?_ ?_
   rotate_left
   ·show Act.put _ (some 29) _ = _
    simp only [Act.put,List.setIfInBounds_toArray,List.set_cons_zero,List.set_cons_succ,i64_w,i32_w]
    rfl
   refine two_ (i:=3) (j:=8) (Ni:=some 31) (Nj:=some 6) #[true,true,true,true,false,false,false,false,false,false,false] #[true,true,true,false,false,false,false,false,true,false,false] rfl rfl rfl rfl (two_of HT_.out (by kernel_rfl)) (by decide) (by decide) (fun K hK => ?_) (fun K hK => ?_)
   ·skip
    refine goes_ Tryd.func36 (by kernel_rfl) rfl #[.agg #[.int .i64 cc.f0.f0,.string cc.f0.f1,.int .i64 cc.f0.f2,.slice A_Ca cc.f0.f3.length c_Ca,.int .i64 cc.f1.f0,.string cc.f1.f1,.int .i64 cc.f1.f2,.slice A_Cb cc.f1.f3.length c_Cb,.string cc.f2]] (by rfl) rfl rfl (by (try simp only [List.map_toArray,List.map_cons,List.map_nil]);first|done|rfl) ?_
    refine (c36 w6 _ _ _ _ HL_Ca.out (Kd.C_below HC_Ca.out HR.out.bel) HL_Cb.out (Kd.C_below HC_Cb.out HR.out.bel)).mono ?_
    rintro e w7 ⟨A_f0a,c_f0a,A_f0b,c_f0b,rfl,ho,hb⟩
    refine ⟨_,rfl,?_⟩
    replace HR:=asd (HR.out.push _ hb ho)
    clear hb ho
    refine hK.out _ _ ⟨HR.out.cell 3 rfl 0 rfl,HR.out.cell 3 rfl 1 rfl,HR.out.cell 2 rfl 0 rfl,HR.out.cell 2 rfl 1 rfl,HR.out.cell 2 rfl 2 rfl,HR.out.cell 2 rfl 3 rfl,HR.out.cell 2 rfl 4 rfl,HR.out.cell 2 rfl 5 rfl,HR.out.cell 2 rfl 6 rfl,HR.out.cell 2 rfl 7 rfl,HR.out.cell 2 rfl 8 rfl⟩ (fun hHeld => ?_)
    clear hK K
    refine norm_ (a':=?_) ?_ ?_
    rotate_left
    ·show Act.put _ (some 31) _ = _
     simp only [Act.put,List.setIfInBounds_toArray,List.set_cons_zero,List.set_cons_succ,i64_w,i32_w]
     rfl
    refine two_ (i:=4) (j:=8) (Ni:=some 32) (Nj:=some 6) #[true,true,true,true,true,false,false,false,false,false,false] #[true,true,true,true,false,false,false,false,true,false,false] rfl rfl rfl rfl (two_of HT_.out (by kernel_rfl)) (by decide) (by decide) (fun K hK => ?_) (fun K hK => ?_)
    ·skip
     refine goes_ Tryd.func35 (by kernel_rfl) rfl #[.agg #[.slice A_e0a xd.length c_e0a,.slice A_e0b os.length c_e0b],.agg #[.int .i64 xk.f0.f0,.string xk.f0.f1,.int .i64 xk.f0.f2,.slice A_f0a xk.f0.f3.length c_f0a,.int .i64 xk.f1.f0,.string xk.f1.f1,.int .i64 xk.f1.f2,.slice A_f0b xk.f1.f3.length c_f0b,.string xk.f2]] (by rfl) rfl rfl (by (try simp only [List.map_toArray,List.map_cons,List.map_nil]);first|done|rfl) ?_
     refine (c35 w7 _ _ _ _ _ _ _ _ (rdD (HR.out.has 1 rfl)).1 (rdD (HR.out.has 1 rfl)).2 (rdO (HR.out.has 1 rfl)).1 (rdO (HR.out.has 1 rfl)).2 (rdA (HR.out.has 0 rfl)).1 (rdA (HR.out.has 0 rfl)).2 (rdB (HR.out.has 0 rfl)).1 (rdB (HR.out.has 0 rfl)).2).mono ?_
     rintro e w8 ⟨A_w0a,c_w0a,A_w0b,c_w0b,rfl,ho,hb⟩
     refine ⟨_,rfl,?_⟩
     replace HR:=asd (HR.out.push _ hb ho)
     clear hb ho
     refine hK.out _ _ ⟨HR.out.cell 4 rfl 0 rfl,HR.out.cell 4 rfl 1 rfl,HR.out.cell 3 rfl 0 rfl,HR.out.cell 3 rfl 1 rfl,HR.out.cell 3 rfl 2 rfl,HR.out.cell 3 rfl 3 rfl,HR.out.cell 3 rfl 4 rfl,HR.out.cell 3 rfl 5 rfl,HR.out.cell 3 rfl 6 rfl,HR.out.cell 3 rfl 7 rfl,HR.out.cell 3 rfl 8 rfl⟩ (fun hHeld => ?_)
     clear hK K
     refine norm_ (a':=?_) ?_ ?_
     rotate_left
     ·show Act.put _ (some 32) _ = _
      simp only [Act.put,List.setIfInBounds_toArray,List.set_cons_zero,List.set_cons_succ,i64_w,i32_w]
      rfl
     refine pure_ (i:=5) (N:=some 27) (v:=?_) (a':=?_) #[true,true,true,true,true,true,false,false,false,false,false] rfl rfl (any_of HT_.out (by kernel_rfl)) (fun _ _ _ h => h) (Or.inl ⟨by rfl,?_⟩) ?_ ?_
     rotate_left
     ·intro w'
      go_simp
      with_reducible rfl
     rotate_left
     ·simp only [Act.put,List.setIfInBounds_toArray,List.set_cons_zero,List.set_cons_succ,i64_w,i32_w]
      rfl
     refine pure_ (i:=6) (N:=some 33) (v:=?_) (a':=?_) #[true,true,true,true,true,true,true,false,false,false,false] rfl rfl (any_of HT_.out (by kernel_rfl)) (fun _ _ _ h => h) (Or.inl ⟨by rfl,?_⟩) ?_ ?_
     rotate_left
     ·intro w'
      go_simp
      with_reducible rfl
     rotate_left
     ·simp only [Act.put,List.setIfInBounds_toArray,List.set_cons_zero,List.set_cons_succ,i64_w,i32_w]
      rfl
     refine pure_ (i:=7) (N:=some 34) (v:=?_) (a':=?_) #[true,true,true,true,true,true,true,true,false,false,false] rfl rfl (any_of HT_.out (by kernel_rfl)) (fun _ _ _ h => h) (Or.inl ⟨by rfl,?_⟩) ?_ ?_
     rotate_left
     ·intro w'
      go_simp
      with_reducible rfl
     rotate_left
     ·simp only [Act.put,List.setIfInBounds_toArray,List.set_cons_zero,List.set_cons_succ,i64_w,i32_w]
      rfl
     refine one_ (i:=8) (N:=some 6) #[true,true,true,true,true,true,true,true,true,false,false] rfl rfl (one_of HT_.out (by kernel_rfl)) (by decide) (fun K hK => ?_)
     refine box_step (by rfl) (N:=6) rfl (cs:=#[.slice none 0 0,.slice none 0 0]) (t:=41) ?hra ?_
     (case hra => first|(go_simp;done)|(go_simp;rfl))
     intro g_b6 hg w9 hbox hb
     replace HR:=asd (HR.out.box hg hb hbox)
     clear hg hbox hb
     refine hK.out _ _ ⟨HR.out.cell 5 rfl 0 rfl,HR.out.cell 5 rfl 1 rfl,HR.out.cell 4 rfl 0 rfl,HR.out.cell 4 rfl 1 rfl,HR.out.cell 4 rfl 2 rfl,HR.out.cell 4 rfl 3 rfl,HR.out.cell 4 rfl 4 rfl,HR.out.cell 4 rfl 5 rfl,HR.out.cell 4 rfl 6 rfl,HR.out.cell 4 rfl 7 rfl,HR.out.cell 4 rfl 8 rfl⟩ (fun hHeld => ?_)
     clear hK K
     refine norm_ (a':=?_) ?_ ?_
     rotate_left
     ·show Act.put _ (some 6) _ = _
      simp only [Act.put,List.setIfInBounds_toArray,List.set_cons_zero,List.set_cons_succ,i64_w,i32_w]
      rfl
     exact norm_ (by simp only [putAll,Act.put,List.setIfInBounds_toArray,List.set_cons_zero,List.set_cons_succ]) (hCont (A_e0a,c_e0a,A_e0b,c_e0b,A_f0a,c_f0a,A_f0b,c_f0b,A_w0a,c_w0a,A_w0b,c_w0b,g_b6) _ (HR.out.pick [0,1,2,3,4,5] (by decide)))
    ·skip
     refine box_step (by rfl) (N:=6) rfl (cs:=#[.slice none 0 0,.slice none 0 0]) (t:=41) ?hra ?_
     (case hra => first|(go_simp;done)|(go_simp;rfl))
     intro g_b6 hg w8 hbox hb
     replace HR:=asd (HR.out.box hg hb hbox)
     clear hg hbox hb
     refine hK.out _ _ ⟨HR.out.cell 4 rfl 0 rfl,HR.out.cell 4 rfl 1 rfl,HR.out.cell 3 rfl 0 rfl,HR.out.cell 3 rfl 1 rfl,HR.out.cell 3 rfl 2 rfl,HR.out.cell 3 rfl 3 rfl,HR.out.cell 3 rfl 4 rfl,HR.out.cell 3 rfl 5 rfl,HR.out.cell 3 rfl 6 rfl,HR.out.cell 3 rfl 7 rfl,HR.out.cell 3 rfl 8 rfl⟩ (fun hHeld => ?_)
     clear hK K
     refine norm_ (a':=?_) ?_ ?_
     rotate_left
     ·show Act.put _ (some 6) _ = _
      simp only [Act.put,List.setIfInBounds_toArray,List.set_cons_zero,List.set_cons_succ,i64_w,i32_w]
      rfl
     refine one_ (i:=4) (N:=some 32) #[true,true,true,true,true,false,false,false,true,false,false] rfl rfl (one_of HT_.out (by kernel_rfl)) (by decide) (fun K hK => ?_)
     refine goes_ Tryd.func35 (by kernel_rfl) rfl #[.agg #[.slice A_e0a xd.length c_e0a,.slice A_e0b os.length c_e0b],.agg #[.int .i64 xk.f0.f0,.string xk.f0.f1,.int .i64 xk.f0.f2,.slice A_f0a xk.f0.f3.length c_f0a,.int .i64 xk.f1.f0,.string xk.f1.f1,.int .i64 xk.f1.f2,.slice A_f0b xk.f1.f3.length c_f0b,.string xk.f2]] (by rfl) rfl rfl (by (try simp only [List.map_toArray,List.map_cons,List.map_nil]);first|done|rfl) ?_
     refine (c35 w8 _ _ _ _ _ _ _ _ (rdD (HR.out.has 2 rfl)).1 (rdD (HR.out.has 2 rfl)).2 (rdO (HR.out.has 2 rfl)).1 (rdO (HR.out.has 2 rfl)).2 (rdA (HR.out.has 1 rfl)).1 (rdA (HR.out.has 1 rfl)).2 (rdB (HR.out.has 1 rfl)).1 (rdB (HR.out.has 1 rfl)).2).mono ?_
     rintro e w9 ⟨A_w0a,c_w0a,A_w0b,c_w0b,rfl,ho,hb⟩
     refine ⟨_,rfl,?_⟩
     replace HR:=asd (HR.out.push _ hb ho)
     clear hb ho
     refine hK.out _ _ ⟨HR.out.cell 5 rfl 0 rfl,HR.out.cell 5 rfl 1 rfl,HR.out.cell 4 rfl 0 rfl,HR.out.cell 4 rfl 1 rfl,HR.out.cell 4 rfl 2 rfl,HR.out.cell 4 rfl 3 rfl,HR.out.cell 4 rfl 4 rfl,HR.out.cell 4 rfl 5 rfl,HR.out.cell 4 rfl 6 rfl,HR.out.cell 4 rfl 7 rfl,HR.out.cell 4 rfl 8 rfl⟩ (fun hHeld => ?_)
     clear hK K
     refine norm_ (a':=?_) ?_ ?_
     rotate_left
     ·show Act.put _ (some 32) _ = _
      simp only [Act.put,List.setIfInBounds_toArray,List.set_cons_zero,List.set_cons_succ,i64_w,i32_w]
      rfl
     refine pure_ (i:=5) (N:=some 27) (v:=?_) (a':=?_) #[true,true,true,true,true,true,false,false,true,false,false] rfl rfl (any_of HT_.out (by kernel_rfl)) (fun _ _ _ h => h) (Or.inl ⟨by rfl,?_⟩) ?_ ?_
     rotate_left
     ·intro w'
      go_simp
      with_reducible rfl
     rotate_left
     ·simp only [Act.put,List.setIfInBounds_toArray,List.set_cons_zero,List.set_cons_succ,i64_w,i32_w]
      rfl
     refine pure_ (i:=6) (N:=some 33) (v:=?_) (a':=?_) #[true,true,true,true,true,true,true,false,true,false,false] rfl rfl (any_of HT_.out (by kernel_rfl)) (fun _ _ _ h => h) (Or.inl ⟨by rfl,?_⟩) ?_ ?_
     rotate_left
     ·intro w'
      go_simp
      with_reducible rfl
     rotate_left
     ·simp only [Act.put,List.setIfInBounds_toArray,List.set_cons_zero,List.set_cons_succ,i64_w,i32_w]
      rfl
     refine pure_ (i:=7) (N:=some 34) (v:=?_) (a':=?_) #[true,true,true,true,true,true,true,true,true,false,false] rfl rfl (any_of HT_.out (by kernel_rfl)) (fun _ _ _ h => h) (Or.inl ⟨by rfl,?_⟩) ?_ ?_
     rotate_left
     ·intro w'
      go_simp
      with_reducible rfl
     rotate_left
     ·simp only [Act.put,List.setIfInBounds_toArray,List.set_cons_zero,List.set_cons_succ,i64_w,i32_w]
      rfl
     exact norm_ (by simp only [putAll,Act.put,List.setIfInBounds_toArray,List.set_cons_zero,List.set_cons_succ]) (hCont (A_e0a,c_e0a,A_e0b,c_e0b,A_f0a,c_f0a,A_f0b,c_f0b,A_w0a,c_w0a,A_w0b,c_w0b,g_b6) _ (HR.out.pick [1,0,2,3,4,5] (by decide)))
   ·skip
    refine box_step (by rfl) (N:=6) rfl (cs:=#[.slice none 0 0,.slice none 0 0]) (t:=41) ?hra ?_
    (case hra => first|(go_simp;done)|(go_simp;rfl))
    intro g_b6 hg w7 hbox hb
    replace HR:=asd (HR.out.box hg hb hbox)
    clear hg hbox hb
    refine hK.out _ _ ⟨HR.out.cell 3 rfl 0 rfl,HR.out.cell 3 rfl 1 rfl,HR.out.cell 2 rfl 0 rfl,HR.out.cell 2 rfl 1 rfl,HR.out.cell 2 rfl 2 rfl,HR.out.cell 2 rfl 3 rfl,HR.out.cell 2 rfl 4 rfl,HR.out.cell 2 rfl 5 rfl,HR.out.cell 2 rfl 6 rfl,HR.out.cell 2 rfl 7 rfl,HR.out.cell 2 rfl 8 rfl⟩ (fun hHeld => ?_)
    clear hK K
    refine norm_ (a':=?_) ?_ ?_
    rotate_left
    ·show Act.put _ (some 6) _ = _
     simp only [Act.put,List.setIfInBounds_toArray,List.set_cons_zero,List.set_cons_succ,i64_w,i32_w]
     rfl
    refine one_ (i:=3) (N:=some 31) #[true,true,true,true,false,false,false,false,true,false,false] rfl rfl (one_of HT_.out (by kernel_rfl)) (by decide) (fun K hK => ?_)
    refine goes_ Tryd.func36 (by kernel_rfl) rfl #[.agg #[.int .i64 cc.f0.f0,.string cc.f0.f1,.int .i64 cc.f0.f2,.slice A_Ca cc.f0.f3.length c_Ca,.int .i64 cc.f1.f0,.string cc.f1.f1,.int .i64 cc.f1.f2,.slice A_Cb cc.f1.f3.length c_Cb,.string cc.f2]] (by rfl) rfl rfl (by (try simp only [List.map_toArray,List.map_cons,List.map_nil]);first|done|rfl) ?_
    refine (c36 w7 _ _ _ _ HL_Ca.out (Kd.C_below HC_Ca.out HR.out.bel) HL_Cb.out (Kd.C_below HC_Cb.out HR.out.bel)).mono ?_
    rintro e w8 ⟨A_f0a,c_f0a,A_f0b,c_f0b,rfl,ho,hb⟩
    refine ⟨_,rfl,?_⟩
    replace HR:=asd (HR.out.push _ hb ho)
    clear hb ho
    refine hK.out _ _ ⟨HR.out.cell 4 rfl 0 rfl,HR.out.cell 4 rfl 1 rfl,HR.out.cell 3 rfl 0 rfl,HR.out.cell 3 rfl 1 rfl,HR.out.cell 3 rfl 2 rfl,HR.out.cell 3 rfl 3 rfl,HR.out.cell 3 rfl 4 rfl,HR.out.cell 3 rfl 5 rfl,HR.out.cell 3 rfl 6 rfl,HR.out.cell 3 rfl 7 rfl,HR.out.cell 3 rfl 8 rfl⟩ (fun hHeld => ?_)
    clear hK K
    refine norm_ (a':=?_) ?_ ?_
    rotate_left
    ·show Act.put _ (some 31) _ = _
     simp only [Act.put,List.setIfInBounds_toArray,List.set_cons_zero,List.set_cons_succ,i64_w,i32_w]
     rfl
    refine one_ (i:=4) (N:=some 32) #[true,true,true,true,true,false,false,false,true,false,false] rfl rfl (one_of HT_.out (by kernel_rfl)) (by decide) (fun K hK => ?_)
    refine goes_ Tryd.func35 (by kernel_rfl) rfl #[.agg #[.slice A_e0a xd.length c_e0a,.slice A_e0b os.length c_e0b],.agg #[.int .i64 xk.f0.f0,.string xk.f0.f1,.int .i64 xk.f0.f2,.slice A_f0a xk.f0.f3.length c_f0a,.int .i64 xk.f1.f0,.string xk.f1.f1,.int .i64 xk.f1.f2,.slice A_f0b xk.f1.f3.length c_f0b,.string xk.f2]] (by rfl) rfl rfl (by (try simp only [List.map_toArray,List.map_cons,List.map_nil]);first|done|rfl) ?_
    refine (c35 w8 _ _ _ _ _ _ _ _ (rdD (HR.out.has 2 rfl)).1 (rdD (HR.out.has 2 rfl)).2 (rdO (HR.out.has 2 rfl)).1 (rdO (HR.out.has 2 rfl)).2 (rdA (HR.out.has 0 rfl)).1 (rdA (HR.out.has 0 rfl)).2 (rdB (HR.out.has 0 rfl)).1 (rdB (HR.out.has 0 rfl)).2).mono ?_
    rintro e w9 ⟨A_w0a,c_w0a,A_w0b,c_w0b,rfl,ho,hb⟩
    refine ⟨_,rfl,?_⟩
    replace HR:=asd (HR.out.push _ hb ho)
    clear hb ho
    refine hK.out _ _ ⟨HR.out.cell 5 rfl 0 rfl,HR.out.cell 5 rfl 1 rfl,HR.out.cell 4 rfl 0 rfl,HR.out.cell 4 rfl 1 rfl,HR.out.cell 4 rfl 2 rfl,HR.out.cell 4 rfl 3 rfl,HR.out.cell 4 rfl 4 rfl,HR.out.cell 4 rfl 5 rfl,HR.out.cell 4 rfl 6 rfl,HR.out.cell 4 rfl 7 rfl,HR.out.cell 4 rfl 8 rfl⟩ (fun hHeld => ?_)
    clear hK K
    refine norm_ (a':=?_) ?_ ?_
    rotate_left
    ·show Act.put _ (some 32) _ = _
     simp only [Act.put,List.setIfInBounds_toArray,List.set_cons_zero,List.set_cons_succ,i64_w,i32_w]
     rfl
    refine pure_ (i:=5) (N:=some 27) (v:=?_) (a':=?_) #[true,true,true,true,true,true,false,false,true,false,false] rfl rfl (any_of HT_.out (by kernel_rfl)) (fun _ _ _ h => h) (Or.inl ⟨by rfl,?_⟩) ?_ ?_
    rotate_left
    ·intro w'
     go_simp
     with_reducible rfl
    rotate_left
    ·simp only [Act.put,List.setIfInBounds_toArray,List.set_cons_zero,List.set_cons_succ,i64_w,i32_w]
     rfl
    refine pure_ (i:=6) (N:=some 33) (v:=?_) (a':=?_) #[true,true,true,true,true,true,true,false,true,false,false] rfl rfl (any_of HT_.out (by kernel_rfl)) (fun _ _ _ h => h) (Or.inl ⟨by rfl,?_⟩) ?_ ?_
    rotate_left
    ·intro w'
     go_simp
     with_reducible rfl
    rotate_left
    ·simp only [Act.put,List.setIfInBounds_toArray,List.set_cons_zero,List.set_cons_succ,i64_w,i32_w]
     rfl
    refine pure_ (i:=7) (N:=some 34) (v:=?_) (a':=?_) #[true,true,true,true,true,true,true,true,true,false,false] rfl rfl (any_of HT_.out (by kernel_rfl)) (fun _ _ _ h => h) (Or.inl ⟨by rfl,?_⟩) ?_ ?_
    rotate_left
    ·intro w'
     go_simp
     with_reducible rfl
    rotate_left
    ·simp only [Act.put,List.setIfInBounds_toArray,List.set_cons_zero,List.set_cons_succ,i64_w,i32_w]
     rfl
    exact norm_ (by simp only [putAll,Act.put,List.setIfInBounds_toArray,List.set_cons_zero,List.set_cons_succ]) (hCont (A_e0a,c_e0a,A_e0b,c_e0b,A_f0a,c_f0a,A_f0b,c_f0b,A_w0a,c_w0a,A_w0b,c_w0b,g_b6) _ (HR.out.pick [2,0,1,3,4,5] (by decide)))
  ·skip
   refine box_step (by rfl) (N:=6) rfl (cs:=#[.slice none 0 0,.slice none 0 0]) (t:=41) ?hra ?_
   (case hra => first|(go_simp;done)|(go_simp;rfl))
   intro g_b6 hg w6 hbox hb
   replace HR:=asd (HR.out.box hg hb hbox)
   clear hg hbox hb
   refine hK.out _ _ ⟨HR.out.cell 2 rfl 0 rfl,HR.out.cell 2 rfl 1 rfl,HR.out.cell 1 rfl 0 rfl,HR.out.cell 1 rfl 1 rfl,HR.out.cell 1 rfl 2 rfl,HR.out.cell 1 rfl 3 rfl,HR.out.cell 1 rfl 4 rfl,HR.out.cell 1 rfl 5 rfl,HR.out.cell 1 rfl 6 rfl,HR.out.cell 1 rfl 7 rfl,HR.out.cell 1 rfl 8 rfl⟩ (fun hHeld => ?_)
   clear hK K
   refine norm_ (a':=?_) ?_ ?_
   rotate_left
   ·show Act.put _ (some 6) _ = _
    simp only [Act.put,List.setIfInBounds_toArray,List.set_cons_zero,List.set_cons_succ,i64_w,i32_w]
    rfl
   refine one_ (i:=1) (N:=some 29) #[true,true,true,false,false,false,false,false,true,false,false] rfl rfl (one_of HT_.out (by kernel_rfl)) (by decide) (fun K hK => ?_)
   refine goes_ Tryd.func17 (by kernel_rfl) rfl #[.agg #[.slice A_Da l.length c_Da,.slice A_Db os.length c_Db]] (by rfl) rfl rfl (by (try simp only [List.map_toArray,List.map_cons,List.map_nil]);first|done|rfl) ?_
   refine (c17 w6 _ _ _ _ HL_Da.out (Kd.C_below HC_Da.out HR.out.bel) HL_Db.out (Kd.C_below HC_Db.out HR.out.bel)).mono ?_
   rintro e w7 ⟨A_e0a,c_e0a,A_e0b,c_e0b,rfl,ho,hb⟩
   refine ⟨_,rfl,?_⟩
   replace HR:=asd (HR.out.push _ hb ho)
   clear hb ho
   refine hK.out _ _ ⟨HR.out.cell 3 rfl 0 rfl,HR.out.cell 3 rfl 1 rfl,HR.out.cell 2 rfl 0 rfl,HR.out.cell 2 rfl 1 rfl,HR.out.cell 2 rfl 2 rfl,HR.out.cell 2 rfl 3 rfl,HR.out.cell 2 rfl 4 rfl,HR.out.cell 2 rfl 5 rfl,HR.out.cell 2 rfl 6 rfl,HR.out.cell 2 rfl 7 rfl,HR.out.cell 2 rfl 8 rfl⟩ (fun hHeld => ?_)
   clear hK K
   refine norm_ (a':=?_) ?_ ?_
   rotate_left
   ·show Act.put _ (some 29) _ = _
    simp only [Act.put,List.setIfInBounds_toArray,List.set_cons_zero,List.set_cons_succ,i64_w,i32_w]
    rfl
   refine one_ (i:=3) (N:=some 31) #[true,true,true,true,false,false,false,false,true,false,false] rfl rfl (one_of HT_.out (by kernel_rfl)) (by decide) (fun K hK => ?_)
   refine goes_ Tryd.func36 (by kernel_rfl) rfl #[.agg #[.int .i64 cc.f0.f0,.string cc.f0.f1,.int .i64 cc.f0.f2,.slice A_Ca cc.f0.f3.length c_Ca,.int .i64 cc.f1.f0,.string cc.f1.f1,.int .i64 cc.f1.f2,.slice A_Cb cc.f1.f3.length c_Cb,.string cc.f2]] (by rfl) rfl rfl (by (try simp only [List.map_toArray,List.map_cons,List.map_nil]);first|done|rfl) ?_
   refine (c36 w7 _ _ _ _ HL_Ca.out (Kd.C_below HC_Ca.out HR.out.bel) HL_Cb.out (Kd.C_below HC_Cb.out HR.out.bel)).mono ?_
   rintro e w8 ⟨A_f0a,c_f0a,A_f0b,c_f0b,rfl,ho,hb⟩
   refine ⟨_,rfl,?_⟩
   replace HR:=asd (HR.out.push _ hb ho)
   clear hb ho
   refine hK.out _ _ ⟨HR.out.cell 4 rfl 0 rfl,HR.out.cell 4 rfl 1 rfl,HR.out.cell 3 rfl 0 rfl,HR.out.cell 3 rfl 1 rfl,HR.out.cell 3 rfl 2 rfl,HR.out.cell 3 rfl 3 rfl,HR.out.cell 3 rfl 4 rfl,HR.out.cell 3 rfl 5 rfl,HR.out.cell 3 rfl 6 rfl,HR.out.cell 3 rfl 7 rfl,HR.out.cell 3 rfl 8 rfl⟩ (fun hHeld => ?_)
   clear hK K
   refine norm_ (a':=?_) ?_ ?_
   rotate_left
   ·show Act.put _ (some 31) _ = _
    simp only [Act.put,List.setIfInBounds_toArray,List.set_cons_zero,List.set_cons_succ,i64_w,i32_w]
    rfl
   refine one_ (i:=4) (N:=some 32) #[true,true,true,true,true,false,false,false,true,false,false] rfl rfl (one_of HT_.out (by kernel_rfl)) (by decide) (fun K hK => ?_)
   refine goes_ Tryd.func35 (by kernel_rfl) rfl #[.agg #[.slice A_e0a xd.length c_e0a,.slice A_e0b os.length c_e0b],.agg #[.int .i64 xk.f0.f0,.string xk.f0.f1,.int .i64 xk.f0.f2,.slice A_f0a xk.f0.f3.length c_f0a,.int .i64 xk.f1.f0,.string xk.f1.f1,.int .i64 xk.f1.f2,.slice A_f0b xk.f1.f3.length c_f0b,.string xk.f2]] (by rfl) rfl rfl (by (try simp only [List.map_toArray,List.map_cons,List.map_nil]);first|done|rfl) ?_
   refine (c35 w8 _ _ _ _ _ _ _ _ (rdD (HR.out.has 1 rfl)).1 (rdD (HR.out.has 1 rfl)).2 (rdO (HR.out.has 1 rfl)).1 (rdO (HR.out.has 1 rfl)).2 (rdA (HR.out.has 0 rfl)).1 (rdA (HR.out.has 0 rfl)).2 (rdB (HR.out.has 0 rfl)).1 (rdB (HR.out.has 0 rfl)).2).mono ?_
   rintro e w9 ⟨A_w0a,c_w0a,A_w0b,c_w0b,rfl,ho,hb⟩
   refine ⟨_,rfl,?_⟩
   replace HR:=asd (HR.out.push _ hb ho)
   clear hb ho
   refine hK.out _ _ ⟨HR.out.cell 5 rfl 0 rfl,HR.out.cell 5 rfl 1 rfl,HR.out.cell 4 rfl 0 rfl,HR.out.cell 4 rfl 1 rfl,HR.out.cell 4 rfl 2 rfl,HR.out.cell 4 rfl 3 rfl,HR.out.cell 4 rfl 4 rfl,HR.out.cell 4 rfl 5 rfl,HR.out.cell 4 rfl 6 rfl,HR.out.cell 4 rfl 7 rfl,HR.out.cell 4 rfl 8 rfl⟩ (fun hHeld => ?_)
   clear hK K
   refine norm_ (a':=?_) ?_ ?_
   rotate_left
   ·show Act.put _ (some 32) _ = _
    simp only [Act.put,List.setIfInBounds_toArray,List.set_cons_zero,List.set_cons_succ,i64_w,i32_w]
    rfl
   refine pure_ (i:=5) (N:=some 27) (v:=?_) (a':=?_) #[true,true,true,true,true,true,false,false,true,false,false] rfl rfl (any_of HT_.out (by kernel_rfl)) (fun _ _ _ h => h) (Or.inl ⟨by rfl,?_⟩) ?_ ?_
   rotate_left
   ·intro w'
    go_simp
    with_reducible rfl
   rotate_left
   ·simp only [Act.put,List.setIfInBounds_toArray,List.set_cons_zero,List.set_cons_succ,i64_w,i32_w]
    rfl
   refine pure_ (i:=6) (N:=some 33) (v:=?_) (a':=?_) #[true,true,true,true,true,true,true,false,true,false,false] rfl rfl (any_of HT_.out (by kernel_rfl)) (fun _ _ _ h => h) (Or.inl ⟨by rfl,?_⟩) ?_ ?_
   rotate_left
   ·intro w'
    go_simp
    with_reducible rfl
   rotate_left
   ·simp only [Act.put,List.setIfInBounds_toArray,List.set_cons_zero,List.set_cons_succ,i64_w,i32_w]
    rfl
   refine pure_ (i:=7) (N:=some 34) (v:=?_) (a':=?_) #[true,true,true,true,true,true,true,true,true,false,false] rfl rfl (any_of HT_.out (by kernel_rfl)) (fun _ _ _ h => h) (Or.inl ⟨by rfl,?_⟩) ?_ ?_
   rotate_left
   ·intro w'
    go_simp
    with_reducible rfl
   rotate_left
   ·simp only [Act.put,List.setIfInBounds_toArray,List.set_cons_zero,List.set_cons_succ,i64_w,i32_w]
    rfl
   exact norm_ (by simp only [putAll,Act.put,List.setIfInBounds_toArray,List.set_cons_zero,List.set_cons_succ]) (hCont (A_e0a,c_e0a,A_e0b,c_e0b,A_f0a,c_f0a,A_f0b,c_f0b,A_w0a,c_w0a,A_w0b,c_w0b,g_b6) _ (HR.out.pick [3,0,1,2,4,5] (by decide)))
 rintro ⟨A_e0a,c_e0a,A_e0b,c_e0b,A_f0a,c_f0a,A_f0b,c_f0b,A_w0a,c_w0a,A_w0b,c_w0b,g_b6⟩ w50 hR_
 clear HR
 have HR:=asd (show Run w w (fun _ => False) [As.box g_b6 41 #[.slice none 0 0,.slice none 0 0],(avd (.slice A_w0a xg.length c_w0a) xg (.slice A_w0b os.length c_w0b) os),(acr (.slice A_f0a xk.f0.f3.length c_f0a) xk.f0.f3 (.slice A_f0b xk.f1.f3.length c_f0b) xk.f1.f3),(adb (.slice A_e0a xd.length c_e0a) xd (.slice A_e0b os.length c_e0b) os),As.box g_b3 60 #[.int .i64 cc.f0.f0,.string cc.f0.f1,.int .i64 cc.f0.f2,.slice A_Ca cc.f0.f3.length c_Ca,.int .i64 cc.f1.f0,.string cc.f1.f1,.int .i64 cc.f1.f2,.slice A_Cb cc.f1.f3.length c_Cb,.string cc.f2],As.box g_b2 36 #[.slice A_Da l.length c_Da,.slice A_Db os.length c_Db]] w50 from hR_)
 clear hR_
 refine norm_ (a':=?_) ?_ ?_
 rotate_left
 ·simp only [putAll,Act.put,List.setIfInBounds_toArray,List.set_cons_zero,List.set_cons_succ]
  rfl
 refine last_ (i:=9) (N:=none) #[true,true,true,true,true,true,true,true,true,true,false] rfl rfl (one_of HT_.out (by kernel_rfl)) (by decide) (fun K hK => ?_)
 have hz0_ : w50.cell? ⟨g_b6,0,none⟩ = some (.slice none 0 0):=HR.out.cell 0 rfl 0 rfl
 have fz0_:=HR.out.free 0 rfl 0
 have hz1_ : w50.cell? ⟨g_b6,1,none⟩ = some (.slice none 0 0):=HR.out.cell 0 rfl 1 rfl
 have fz1_:=HR.out.free 0 rfl 1
 refine skip_ (w1:=w50.setCells g_b6 0 [.slice A_w0a xg.length c_w0a,.slice A_w0b os.length c_w0b]) (by rfl) rfl ?_ ?_
 ·first|(go_simp;done)|(go_simp;rfl)
 refine hK.out _ _ ?_
 clear hK K hz0_ fz0_ hz1_ fz1_
 replace HR:=asd (HR.out.store 0 rfl [.slice A_w0a xg.length c_w0a,.slice A_w0b os.length c_w0b] rfl)
 generalize w50.setCells g_b6 0 [.slice A_w0a xg.length c_w0a,.slice A_w0b os.length c_w0b] = w51 at HR ⊢
 refine pure_ (i:=10) (N:=some 7) (v:=?_) (a':=?_) #[true,true,true,true,true,true,true,true,true,true,true] rfl rfl (any_of HT_.out (by kernel_rfl)) (fun _ _ _ h => h) (Or.inl ⟨by rfl,?_⟩) ?_ ?_
 rotate_left
 ·intro w'
  go_simp
  with_reducible rfl
 rotate_left
 ·simp only [Act.put,List.setIfInBounds_toArray,List.set_cons_zero,List.set_cons_succ,i64_w,i32_w]
  rfl
 refine done_ (done_of HT_.out (by kernel_rfl)) ?_
 have hc_b2_0 : w51.cell? ⟨g_b2,0,none⟩ = some (.slice A_Da l.length c_Da):=HR.out.cell 5 rfl 0 rfl
 have hc_b2_1 : w51.cell? ⟨g_b2,1,none⟩ = some (.slice A_Db os.length c_Db):=HR.out.cell 5 rfl 1 rfl
 go_wp2_with (first
  | (go_at_call 17;with_reducible refine (c17 w51 _ _ _ _ HL_Da.out (Kd.C_below HC_Da.out HR.out.bel) HL_Db.out (Kd.C_below HC_Db.out HR.out.bel)).mono ?_;rintro e w52 ⟨A_x0a,c_x0a,A_x0b,c_x0b,rfl,ho,hb⟩;replace HR:=asd (HR.out.push _ hb ho);clear hb ho;clear hc_b2_0 hc_b2_1)
  | ((with_reducible refine gate_dst (N:=8) rfl ?_);refine box_event ?hg8 (N:=8) ?hd8 (cs:=#[.slice none 0 0,.slice none 0 0]) (t:=41) ?hr8 ?_;(case hd8 => rfl);(case hg8 => rfl);(case hr8 => first | (go_simp;done) | (go_simp;rfl));intro g_b8 hg w53 hbox hb;replace HR:=asd (HR.out.box hg hb hbox);clear hg hbox hb;have hz_0 : w53.cell? ⟨g_b8,0,none⟩ = some (.slice none 0 0):=HR.out.cell 0 rfl 0 rfl;have hf_0:=HR.out.free 0 rfl 0;have hz_1 : w53.cell? ⟨g_b8,1,none⟩ = some (.slice none 0 0):=HR.out.cell 0 rfl 1 rfl;have hf_1:=HR.out.free 0 rfl 1)
  | ((with_reducible refine gate_store (t:=41) (p:=8) rfl ?_);refine store_event (t:=41) (p:=8) (v:=?vo8) (w1:=w53.setCells g_b8 0 [.slice A_x0a xd.length c_x0a,.slice A_x0b os.length c_x0b]) ?hgs8 ?hos8 ?hns8 ?hrs8 ?_;(case hos8 => rfl);(case hgs8 => rfl);(case hns8 => rfl);(case hrs8 => first | (go_simp;done) | (go_simp;rfl));intro w54 hw;replace HR:=asd (hw ▸ HR.out.store 0 rfl [.slice A_x0a xd.length c_x0a,.slice A_x0b os.length c_x0b] rfl);clear hw hz_0 hf_0 hz_1 hf_1;have hc_b3_0 : w54.cell? ⟨g_b3,0,none⟩ = some (.int .i64 cc.f0.f0):=HR.out.cell 6 rfl 0 rfl;have hc_b3_1 : w54.cell? ⟨g_b3,1,none⟩ = some (.string cc.f0.f1):=HR.out.cell 6 rfl 1 rfl;have hc_b3_2 : w54.cell? ⟨g_b3,2,none⟩ = some (.int .i64 cc.f0.f2):=HR.out.cell 6 rfl 2 rfl;have hc_b3_3 : w54.cell? ⟨g_b3,3,none⟩ = some (.slice A_Ca cc.f0.f3.length c_Ca):=HR.out.cell 6 rfl 3 rfl;have hc_b3_4 : w54.cell? ⟨g_b3,4,none⟩ = some (.int .i64 cc.f1.f0):=HR.out.cell 6 rfl 4 rfl;have hc_b3_5 : w54.cell? ⟨g_b3,5,none⟩ = some (.string cc.f1.f1):=HR.out.cell 6 rfl 5 rfl;have hc_b3_6 : w54.cell? ⟨g_b3,6,none⟩ = some (.int .i64 cc.f1.f2):=HR.out.cell 6 rfl 6 rfl;have hc_b3_7 : w54.cell? ⟨g_b3,7,none⟩ = some (.slice A_Cb cc.f1.f3.length c_Cb):=HR.out.cell 6 rfl 7 rfl;have hc_b3_8 : w54.cell? ⟨g_b3,8,none⟩ = some (.string cc.f2):=HR.out.cell 6 rfl 8 rfl)
  | (go_at_call 36;with_reducible refine (c36 w54 _ _ _ _ HL_Ca.out (Kd.C_below HC_Ca.out HR.out.bel) HL_Cb.out (Kd.C_below HC_Cb.out HR.out.bel)).mono ?_;rintro e w55 ⟨A_x1a,c_x1a,A_x1b,c_x1b,rfl,ho,hb⟩;replace HR:=asd (HR.out.push _ hb ho);clear hb ho;clear hc_b3_0 hc_b3_1 hc_b3_2 hc_b3_3 hc_b3_4 hc_b3_5 hc_b3_6 hc_b3_7 hc_b3_8)
  | ((with_reducible refine gate_dst (N:=9) rfl ?_);refine box_event ?hg9 (N:=9) ?hd9 (cs:=#[.int .i64 0,.string (⟨#[]⟩ : ByteArray),.int .i64 0,.slice none 0 0,.int .i64 0,.string (⟨#[]⟩ : ByteArray),.int .i64 0,.slice none 0 0,.string (⟨#[]⟩ : ByteArray)]) (t:=48) ?hr9 ?_;(case hd9 => rfl);(case hg9 => rfl);(case hr9 => first | (go_simp;done) | (go_simp;rfl));intro g_b9 hg w56 hbox hb;replace HR:=asd (HR.out.box hg hb hbox);clear hg hbox hb;have hz_0 : w56.cell? ⟨g_b9,0,none⟩ = some (.int .i64 0):=HR.out.cell 0 rfl 0 rfl;have hf_0:=HR.out.free 0 rfl 0;have hz_1 : w56.cell? ⟨g_b9,1,none⟩ = some (.string (⟨#[]⟩ : ByteArray)):=HR.out.cell 0 rfl 1 rfl;have hf_1:=HR.out.free 0 rfl 1;have hz_2 : w56.cell? ⟨g_b9,2,none⟩ = some (.int .i64 0):=HR.out.cell 0 rfl 2 rfl;have hf_2:=HR.out.free 0 rfl 2;have hz_3 : w56.cell? ⟨g_b9,3,none⟩ = some (.slice none 0 0):=HR.out.cell 0 rfl 3 rfl;have hf_3:=HR.out.free 0 rfl 3;have hz_4 : w56.cell? ⟨g_b9,4,none⟩ = some (.int .i64 0):=HR.out.cell 0 rfl 4 rfl;have hf_4:=HR.out.free 0 rfl 4;have hz_5 : w56.cell? ⟨g_b9,5,none⟩ = some (.string (⟨#[]⟩ : ByteArray)):=HR.out.cell 0 rfl 5 rfl;have hf_5:=HR.out.free 0 rfl 5;have hz_6 : w56.cell? ⟨g_b9,6,none⟩ = some (.int .i64 0):=HR.out.cell 0 rfl 6 rfl;have hf_6:=HR.out.free 0 rfl 6;have hz_7 : w56.cell? ⟨g_b9,7,none⟩ = some (.slice none 0 0):=HR.out.cell 0 rfl 7 rfl;have hf_7:=HR.out.free 0 rfl 7;have hz_8 : w56.cell? ⟨g_b9,8,none⟩ = some (.string (⟨#[]⟩ : ByteArray)):=HR.out.cell 0 rfl 8 rfl;have hf_8:=HR.out.free 0 rfl 8)
  | ((with_reducible refine gate_store (t:=48) (p:=9) rfl ?_);refine store_event (t:=48) (p:=9) (v:=?vo9) (w1:=w56.setCells g_b9 0 [.int .i64 xk.f0.f0,.string xk.f0.f1,.int .i64 xk.f0.f2,.slice A_x1a xk.f0.f3.length c_x1a,.int .i64 xk.f1.f0,.string xk.f1.f1,.int .i64 xk.f1.f2,.slice A_x1b xk.f1.f3.length c_x1b,.string xk.f2]) ?hgs9 ?hos9 ?hns9 ?hrs9 ?_;(case hos9 => rfl);(case hgs9 => rfl);(case hns9 => rfl);(case hrs9 => first | (go_simp;done) | (go_simp;rfl));intro w57 hw;replace HR:=asd (hw ▸ HR.out.store 0 rfl [.int .i64 xk.f0.f0,.string xk.f0.f1,.int .i64 xk.f0.f2,.slice A_x1a xk.f0.f3.length c_x1a,.int .i64 xk.f1.f0,.string xk.f1.f1,.int .i64 xk.f1.f2,.slice A_x1b xk.f1.f3.length c_x1b,.string xk.f2] rfl);clear hw hz_0 hf_0 hz_1 hf_1 hz_2 hf_2 hz_3 hf_3 hz_4 hf_4 hz_5 hf_5 hz_6 hf_6 hz_7 hf_7 hz_8 hf_8;have hc_b8_0 : w57.cell? ⟨g_b8,0,none⟩ = some (.slice A_x0a xd.length c_x0a):=HR.out.cell 2 rfl 0 rfl;have hc_b8_1 : w57.cell? ⟨g_b8,1,none⟩ = some (.slice A_x0b os.length c_x0b):=HR.out.cell 2 rfl 1 rfl;have hc_b9_0 : w57.cell? ⟨g_b9,0,none⟩ = some (.int .i64 xk.f0.f0):=HR.out.cell 0 rfl 0 rfl;have hc_b9_1 : w57.cell? ⟨g_b9,1,none⟩ = some (.string xk.f0.f1):=HR.out.cell 0 rfl 1 rfl;have hc_b9_2 : w57.cell? ⟨g_b9,2,none⟩ = some (.int .i64 xk.f0.f2):=HR.out.cell 0 rfl 2 rfl;have hc_b9_3 : w57.cell? ⟨g_b9,3,none⟩ = some (.slice A_x1a xk.f0.f3.length c_x1a):=HR.out.cell 0 rfl 3 rfl;have hc_b9_4 : w57.cell? ⟨g_b9,4,none⟩ = some (.int .i64 xk.f1.f0):=HR.out.cell 0 rfl 4 rfl;have hc_b9_5 : w57.cell? ⟨g_b9,5,none⟩ = some (.string xk.f1.f1):=HR.out.cell 0 rfl 5 rfl;have hc_b9_6 : w57.cell? ⟨g_b9,6,none⟩ = some (.int .i64 xk.f1.f2):=HR.out.cell 0 rfl 6 rfl;have hc_b9_7 : w57.cell? ⟨g_b9,7,none⟩ = some (.slice A_x1b xk.f1.f3.length c_x1b):=HR.out.cell 0 rfl 7 rfl;have hc_b9_8 : w57.cell? ⟨g_b9,8,none⟩ = some (.string xk.f2):=HR.out.cell 0 rfl 8 rfl)
  | (go_at_call 37;with_reducible refine (c37 w57 _ _ _ _ _ _ _ _ HR.out.bel (rdD (HR.out.has 3 rfl)).1 (rdD (HR.out.has 3 rfl)).2 (rdO (HR.out.has 3 rfl)).1 (rdO (HR.out.has 3 rfl)).2 (rdA (HR.out.has 1 rfl)).1 (rdA (HR.out.has 1 rfl)).2 (rdB (HR.out.has 1 rfl)).1 (rdB (HR.out.has 1 rfl)).2).mono ?_;rintro e w58 ⟨A_g0a,c_g0a,A_g0b,c_g0b,rfl,ho,hb⟩;replace HR:=asd (HR.out.push _ hb ho);clear hb ho;clear hc_b8_0 hc_b8_1 hc_b9_0 hc_b9_1 hc_b9_2 hc_b9_3 hc_b9_4 hc_b9_5 hc_b9_6 hc_b9_7 hc_b9_8)
  | ((with_reducible refine gate_dst (N:=10) rfl ?_);refine box_event ?hg10 (N:=10) ?hd10 (cs:=#[.slice none 0 0,.slice none 0 0]) (t:=41) ?hr10 ?_;(case hd10 => rfl);(case hg10 => rfl);(case hr10 => first | (go_simp;done) | (go_simp;rfl));intro g_b10 hg w59 hbox hb;replace HR:=asd (HR.out.box hg hb hbox);clear hg hbox hb;have hz_0 : w59.cell? ⟨g_b10,0,none⟩ = some (.slice none 0 0):=HR.out.cell 0 rfl 0 rfl;have hf_0:=HR.out.free 0 rfl 0;have hz_1 : w59.cell? ⟨g_b10,1,none⟩ = some (.slice none 0 0):=HR.out.cell 0 rfl 1 rfl;have hf_1:=HR.out.free 0 rfl 1)
  | ((with_reducible refine gate_store (t:=41) (p:=10) rfl ?_);refine store_event (t:=41) (p:=10) (v:=?vo10) (w1:=w59.setCells g_b10 0 [.slice A_g0a xg.length c_g0a,.slice A_g0b os.length c_g0b]) ?hgs10 ?hos10 ?hns10 ?hrs10 ?_;(case hos10 => rfl);(case hgs10 => rfl);(case hns10 => rfl);(case hrs10 => first | (go_simp;done) | (go_simp;rfl));intro w60 hw;replace HR:=asd (hw ▸ HR.out.store 0 rfl [.slice A_g0a xg.length c_g0a,.slice A_g0b os.length c_g0b] rfl);clear hw hz_0 hf_0 hz_1 hf_1;have hc_b6_0 : w60.cell? ⟨g_b6,0,none⟩ = some (.slice A_w0a xg.length c_w0a):=HR.out.cell 6 rfl 0 rfl;have hc_b6_1 : w60.cell? ⟨g_b6,1,none⟩ = some (.slice A_w0b os.length c_w0b):=HR.out.cell 6 rfl 1 rfl;have hc_b10_0 : w60.cell? ⟨g_b10,0,none⟩ = some (.slice A_g0a xg.length c_g0a):=HR.out.cell 0 rfl 0 rfl;have hc_b10_1 : w60.cell? ⟨g_b10,1,none⟩ = some (.slice A_g0b os.length c_g0b):=HR.out.cell 0 rfl 1 rfl)
  | (go_at_call 19;with_reducible refine (c19 w60 _ _ _ _ _ _ _ _ (rdD (HR.out.has 1 rfl)).1 (rdD (HR.out.has 1 rfl)).2 (rdO (HR.out.has 1 rfl)).1 (rdO (HR.out.has 1 rfl)).2 (rdVD (HR.out.has 7 rfl)).1 (rdVD (HR.out.has 7 rfl)).2 (rdVO (HR.out.has 7 rfl)).1 (rdVO (HR.out.has 7 rfl)).2).mono ?_;rintro e w61 ⟨rfl,hb⟩;replace HR:=asd (HR.out.step hb);clear hb;clear hc_b6_0 hc_b6_1 hc_b10_0 hc_b10_1))
 replace HR:=asd (HR.out.drew)
 refine start_ (n:=5) (S:=fun w' => w'.cell? ⟨g_b8,0,none⟩ = some (.slice A_x0a xd.length c_x0a) ∧ w'.cell? ⟨g_b8,1,none⟩ = some (.slice A_x0b os.length c_x0b) ∧ w'.cell? ⟨g_b2,0,none⟩ = some (.slice A_Da l.length c_Da) ∧ w'.cell? ⟨g_b2,1,none⟩ = some (.slice A_Db os.length c_Db)) (ds:=[]) #[false,false,false,false,false] (by kernel_rfl) rfl rfl ⟨HR.out.cell 4 rfl 0 rfl,HR.out.cell 4 rfl 1 rfl,HR.out.cell 11 rfl 0 rfl,HR.out.cell 11 rfl 1 rfl⟩ (fun hHeld => ?_);refine with_tabW lw8_14_tab lw8_14_bits (fun HT_ HW_ => ?_)
 generalize w61.drew = w62 at HR hHeld ⊢
 refine take_ (i:=0) (N:=some 54) (v:=?_) (a':=?_) #[true,false,false,false,false] rfl rfl (take_ofW HT_.out HW_.out (by kernel_rfl)) (fun _ _ _ h => h) (Or.inl ⟨by rfl,?_⟩) hHeld ?_ ?_
 rotate_left
 ·rintro w' ⟨s0,s1,s2,s3⟩
  go_simp
  with_reducible rfl
 rotate_left
 ·simp only [Act.put,List.setIfInBounds_toArray,List.set_cons_zero,List.set_cons_succ,i64_w,i32_w]
  rfl
 refine take_ (i:=1) (N:=some 55) (v:=?_) (a':=?_) #[true,true,false,false,false] rfl rfl (take_ofW HT_.out HW_.out (by kernel_rfl)) (fun _ _ _ h => h) (Or.inl ⟨by rfl,?_⟩) hHeld ?_ ?_
 rotate_left
 ·rintro w' ⟨s0,s1,s2,s3⟩
  go_simp
  with_reducible rfl
 rotate_left
 ·simp only [Act.put,List.setIfInBounds_toArray,List.set_cons_zero,List.set_cons_succ,i64_w,i32_w]
  rfl
 refine one_ (i:=2) (N:=some 56) #[true,true,true,false,false] rfl rfl (one_of HT_.out (by kernel_rfl)) (by decide) (fun K hK => ?_)
 refine goes_ Tryd.func17 (by kernel_rfl) rfl #[.agg #[.slice A_Da l.length c_Da,.slice A_Db os.length c_Db]] (by rfl) rfl rfl (by (try simp only [List.map_toArray,List.map_cons,List.map_nil]);first|done|rfl) ?_
 refine (c17 w62 _ _ _ _ HL_Da.out (Kd.C_below HC_Da.out HR.out.bel) HL_Db.out (Kd.C_below HC_Db.out HR.out.bel)).mono ?_
 rintro e w63 ⟨A_e2a,c_e2a,A_e2b,c_e2b,rfl,ho,hb⟩
 refine ⟨_,rfl,?_⟩
 replace HR:=asd (HR.out.push _ hb ho)
 clear hb ho
 refine hK.out _ _ ⟨HR.out.cell 5 rfl 0 rfl,HR.out.cell 5 rfl 1 rfl,HR.out.cell 12 rfl 0 rfl,HR.out.cell 12 rfl 1 rfl⟩ (fun hHeld => ?_)
 clear hK K
 refine norm_ (a':=?_) ?_ ?_
 rotate_left
 ·show Act.put _ (some 56) _ = _
  simp only [Act.put,List.setIfInBounds_toArray,List.set_cons_zero,List.set_cons_succ,i64_w,i32_w]
  rfl
 refine one_ (i:=3) (N:=some 57) #[true,true,true,true,false] rfl rfl (one_of HT_.out (by kernel_rfl)) (by decide) (fun K hK => ?_)
 refine goes_ Tryd.func19 (by kernel_rfl) rfl #[.agg #[.slice A_x0a xd.length c_x0a,.slice A_x0b os.length c_x0b],.agg #[.slice A_e2a xd.length c_e2a,.slice A_e2b os.length c_e2b]] (by rfl) rfl rfl (by (try simp only [List.map_toArray,List.map_cons,List.map_nil]);first|done|rfl) ?_
 refine (d19 w63 _ _ _ _ _ _ _ _ (rdD (HR.out.has 6 rfl)).1 (rdD (HR.out.has 6 rfl)).2 (rdO (HR.out.has 6 rfl)).1 (rdO (HR.out.has 6 rfl)).2 (rdD (HR.out.has 0 rfl)).1 (rdD (HR.out.has 0 rfl)).2 (rdO (HR.out.has 0 rfl)).1 (rdO (HR.out.has 0 rfl)).2).mono ?_
 rintro e w64 ⟨rfl,hb⟩
 refine ⟨_,rfl,?_⟩
 replace HR:=asd (HR.out.step hb)
 clear hb
 refine hK.out _ _ ⟨HR.out.cell 5 rfl 0 rfl,HR.out.cell 5 rfl 1 rfl,HR.out.cell 12 rfl 0 rfl,HR.out.cell 12 rfl 1 rfl⟩ (fun hHeld => ?_)
 clear hK K
 refine norm_ (a':=?_) ?_ ?_
 rotate_left
 ·show Act.put _ (some 57) _ = _
  simp only [Act.put,List.setIfInBounds_toArray,List.set_cons_zero,List.set_cons_succ,i64_w,i32_w]
  rfl
 refine pure_ (i:=4) (N:=some 58) (v:=?_) (a':=?_) #[true,true,true,true,true] rfl rfl (any_of HT_.out (by kernel_rfl)) (fun _ _ _ h => h) (Or.inl ⟨by rfl,?_⟩) ?_ ?_
 rotate_left
 ·intro w'
  go_simp
  with_reducible rfl
 rotate_left
 ·simp only [Act.put,List.setIfInBounds_toArray,List.set_cons_zero,List.set_cons_succ,i64_w,i32_w]
  rfl
 refine done_ (done_of HT_.out (by kernel_rfl)) ?_
 try go_wp2
 replace HR:=asd (HR.out.drew)
 refine start_ (n:=5) (S:=fun w' => w'.cell? ⟨g_b9,0,none⟩ = some (.int .i64 xk.f0.f0) ∧ w'.cell? ⟨g_b9,1,none⟩ = some (.string xk.f0.f1) ∧ w'.cell? ⟨g_b9,2,none⟩ = some (.int .i64 xk.f0.f2) ∧ w'.cell? ⟨g_b9,3,none⟩ = some (.slice A_x1a xk.f0.f3.length c_x1a) ∧ w'.cell? ⟨g_b9,4,none⟩ = some (.int .i64 xk.f1.f0) ∧ w'.cell? ⟨g_b9,5,none⟩ = some (.string xk.f1.f1) ∧ w'.cell? ⟨g_b9,6,none⟩ = some (.int .i64 xk.f1.f2) ∧ w'.cell? ⟨g_b9,7,none⟩ = some (.slice A_x1b xk.f1.f3.length c_x1b) ∧ w'.cell? ⟨g_b9,8,none⟩ = some (.string xk.f2) ∧ w'.cell? ⟨g_b3,0,none⟩ = some (.int .i64 cc.f0.f0) ∧ w'.cell? ⟨g_b3,1,none⟩ = some (.string cc.f0.f1) ∧ w'.cell? ⟨g_b3,2,none⟩ = some (.int .i64 cc.f0.f2) ∧ w'.cell? ⟨g_b3,3,none⟩ = some (.slice A_Ca cc.f0.f3.length c_Ca) ∧ w'.cell? ⟨g_b3,4,none⟩ = some (.int .i64 cc.f1.f0) ∧ w'.cell? ⟨g_b3,5,none⟩ = some (.string cc.f1.f1) ∧ w'.cell? ⟨g_b3,6,none⟩ = some (.int .i64 cc.f1.f2) ∧ w'.cell? ⟨g_b3,7,none⟩ = some (.slice A_Cb cc.f1.f3.length c_Cb) ∧ w'.cell? ⟨g_b3,8,none⟩ = some (.string cc.f2)) (ds:=[]) #[false,false,false,false,false] (by kernel_rfl) rfl rfl ⟨HR.out.cell 3 rfl 0 rfl,HR.out.cell 3 rfl 1 rfl,HR.out.cell 3 rfl 2 rfl,HR.out.cell 3 rfl 3 rfl,HR.out.cell 3 rfl 4 rfl,HR.out.cell 3 rfl 5 rfl,HR.out.cell 3 rfl 6 rfl,HR.out.cell 3 rfl 7 rfl,HR.out.cell 3 rfl 8 rfl,HR.out.cell 11 rfl 0 rfl,HR.out.cell 11 rfl 1 rfl,HR.out.cell 11 rfl 2 rfl,HR.out.cell 11 rfl 3 rfl,HR.out.cell 11 rfl 4 rfl,HR.out.cell 11 rfl 5 rfl,HR.out.cell 11 rfl 6 rfl,HR.out.cell 11 rfl 7 rfl,HR.out.cell 11 rfl 8 rfl⟩ (fun hHeld => ?_);refine with_tabW lw8_16_tab lw8_16_bits (fun HT_ HW_ => ?_)
 generalize w64.drew = w65 at HR hHeld ⊢
 refine take_ (i:=0) (N:=some 59) (v:=?_) (a':=?_) #[true,false,false,false,false] rfl rfl (take_ofW HT_.out HW_.out (by kernel_rfl)) (fun _ _ _ h => h) (Or.inl ⟨by rfl,?_⟩) hHeld ?_ ?_
 rotate_left
 ·rintro w' ⟨s0,s1,s2,s3,s4,s5,s6,s7,s8,s9,s10,s11,s12,s13,s14,s15,s16,s17⟩
  go_simp
  with_reducible rfl
 rotate_left
 ·simp only [Act.put,List.setIfInBounds_toArray,List.set_cons_zero,List.set_cons_succ,i64_w,i32_w]
  rfl
 refine take_ (i:=1) (N:=some 60) (v:=?_) (a':=?_) #[true,true,false,false,false] rfl rfl (take_ofW HT_.out HW_.out (by kernel_rfl)) (fun _ _ _ h => h) (Or.inl ⟨by rfl,?_⟩) hHeld ?_ ?_
 rotate_left
 ·rintro w' ⟨s0,s1,s2,s3,s4,s5,s6,s7,s8,s9,s10,s11,s12,s13,s14,s15,s16,s17⟩
  go_simp
  with_reducible rfl
 rotate_left
 ·simp only [Act.put,List.setIfInBounds_toArray,List.set_cons_zero,List.set_cons_succ,i64_w,i32_w]
  rfl
 refine one_ (i:=2) (N:=some 61) #[true,true,true,false,false] rfl rfl (one_of HT_.out (by kernel_rfl)) (by decide) (fun K hK => ?_)
 refine goes_ Tryd.func36 (by kernel_rfl) rfl #[.agg #[.int .i64 cc.f0.f0,.string cc.f0.f1,.int .i64 cc.f0.f2,.slice A_Ca cc.f0.f3.length c_Ca,.int .i64 cc.f1.f0,.string cc.f1.f1,.int .i64 cc.f1.f2,.slice A_Cb cc.f1.f3.length c_Cb,.string cc.f2]] (by rfl) rfl rfl (by (try simp only [List.map_toArray,List.map_cons,List.map_nil]);first|done|rfl) ?_
 refine (c36 w65 _ _ _ _ HL_Ca.out (Kd.C_below HC_Ca.out HR.out.bel) HL_Cb.out (Kd.C_below HC_Cb.out HR.out.bel)).mono ?_
 rintro e w66 ⟨A_f2a,c_f2a,A_f2b,c_f2b,rfl,ho,hb⟩
 refine ⟨_,rfl,?_⟩
 replace HR:=asd (HR.out.push _ hb ho)
 clear hb ho
 refine hK.out _ _ ⟨HR.out.cell 4 rfl 0 rfl,HR.out.cell 4 rfl 1 rfl,HR.out.cell 4 rfl 2 rfl,HR.out.cell 4 rfl 3 rfl,HR.out.cell 4 rfl 4 rfl,HR.out.cell 4 rfl 5 rfl,HR.out.cell 4 rfl 6 rfl,HR.out.cell 4 rfl 7 rfl,HR.out.cell 4 rfl 8 rfl,HR.out.cell 12 rfl 0 rfl,HR.out.cell 12 rfl 1 rfl,HR.out.cell 12 rfl 2 rfl,HR.out.cell 12 rfl 3 rfl,HR.out.cell 12 rfl 4 rfl,HR.out.cell 12 rfl 5 rfl,HR.out.cell 12 rfl 6 rfl,HR.out.cell 12 rfl 7 rfl,HR.out.cell 12 rfl 8 rfl⟩ (fun hHeld => ?_)
 clear hK K
 refine norm_ (a':=?_) ?_ ?_
 rotate_left
 ·show Act.put _ (some 61) _ = _
  simp only [Act.put,List.setIfInBounds_toArray,List.set_cons_zero,List.set_cons_succ,i64_w,i32_w]
  rfl
 refine one_ (i:=3) (N:=some 62) #[true,true,true,true,false] rfl rfl (one_of HT_.out (by kernel_rfl)) (by decide) (fun K hK => ?_)
 refine goes_ Tryd.func24 (by kernel_rfl) rfl #[.agg #[.int .i64 xk.f0.f0,.string xk.f0.f1,.int .i64 xk.f0.f2,.slice A_x1a xk.f0.f3.length c_x1a,.int .i64 xk.f1.f0,.string xk.f1.f1,.int .i64 xk.f1.f2,.slice A_x1b xk.f1.f3.length c_x1b,.string xk.f2],.agg #[.int .i64 xk.f0.f0,.string xk.f0.f1,.int .i64 xk.f0.f2,.slice A_f2a xk.f0.f3.length c_f2a,.int .i64 xk.f1.f0,.string xk.f1.f1,.int .i64 xk.f1.f2,.slice A_f2b xk.f1.f3.length c_f2b,.string xk.f2]] (by rfl) rfl rfl (by (try simp only [List.map_toArray,List.map_cons,List.map_nil]);first|done|rfl) ?_
 refine (c24 w66 _ _ _ _ _ _ _ _ (rdA (HR.out.has 5 rfl)).1 (rdA (HR.out.has 5 rfl)).2 (rdB (HR.out.has 5 rfl)).1 (rdB (HR.out.has 5 rfl)).2 (rdA (HR.out.has 0 rfl)).1 (rdA (HR.out.has 0 rfl)).2 (rdB (HR.out.has 0 rfl)).1 (rdB (HR.out.has 0 rfl)).2).mono ?_
 rintro e w67 ⟨rfl,hb⟩
 refine ⟨_,rfl,?_⟩
 replace HR:=asd (HR.out.step hb)
 clear hb
 refine hK.out _ _ ⟨HR.out.cell 4 rfl 0 rfl,HR.out.cell 4 rfl 1 rfl,HR.out.cell 4 rfl 2 rfl,HR.out.cell 4 rfl 3 rfl,HR.out.cell 4 rfl 4 rfl,HR.out.cell 4 rfl 5 rfl,HR.out.cell 4 rfl 6 rfl,HR.out.cell 4 rfl 7 rfl,HR.out.cell 4 rfl 8 rfl,HR.out.cell 12 rfl 0 rfl,HR.out.cell 12 rfl 1 rfl,HR.out.cell 12 rfl 2 rfl,HR.out.cell 12 rfl 3 rfl,HR.out.cell 12 rfl 4 rfl,HR.out.cell 12 rfl 5 rfl,HR.out.cell 12 rfl 6 rfl,HR.out.cell 12 rfl 7 rfl,HR.out.cell 12 rfl 8 rfl⟩ (fun hHeld => ?_)
 clear hK K
 refine norm_ (a':=?_) ?_ ?_
 rotate_left
 ·show Act.put _ (some 62) _ = _
  simp only [Act.put,List.setIfInBounds_toArray,List.set_cons_zero,List.set_cons_succ,i64_w,i32_w]
  rfl
 refine pure_ (i:=4) (N:=some 63) (v:=?_) (a':=?_) #[true,true,true,true,true] rfl rfl (any_of HT_.out (by kernel_rfl)) (fun _ _ _ h => h) (Or.inl ⟨by rfl,?_⟩) ?_ ?_
 rotate_left
 ·intro w'
  go_simp
  with_reducible rfl
 rotate_left
 ·simp only [Act.put,List.setIfInBounds_toArray,List.set_cons_zero,List.set_cons_succ,i64_w,i32_w]
  rfl
 refine done_ (done_of HT_.out (by kernel_rfl)) ?_
 have hc_b8_0 : w67.cell? ⟨g_b8,0,none⟩ = some (.slice A_x0a xd.length c_x0a):=HR.out.cell 6 rfl 0 rfl
 have hc_b8_1 : w67.cell? ⟨g_b8,1,none⟩ = some (.slice A_x0b os.length c_x0b):=HR.out.cell 6 rfl 1 rfl
 go_wp2_with (first
  | (go_at_call 31;obtain ⟨oki,hi,hlo,hput⟩:=HR.out.all 7 rfl;with_reducible refine (c31 w67 oki _ _ _ _ HR.out.bel (fun k_ hk_ => (hlo k_ hk_).1) hi).mono ?_;rintro e w68 ⟨rfl,ho,hb,hk⟩;replace HR:=asd (hput _ _ hb hk ho);clear hi hlo hput ho hb hk oki;clear hc_b8_0 hc_b8_1;have hc_b9_0 : w68.cell? ⟨g_b9,0,none⟩ = some (.int .i64 xk.f0.f0):=HR.out.cell 4 rfl 0 rfl;have hc_b9_1 : w68.cell? ⟨g_b9,1,none⟩ = some (.string xk.f0.f1):=HR.out.cell 4 rfl 1 rfl;have hc_b9_2 : w68.cell? ⟨g_b9,2,none⟩ = some (.int .i64 xk.f0.f2):=HR.out.cell 4 rfl 2 rfl;have hc_b9_3 : w68.cell? ⟨g_b9,3,none⟩ = some (.slice A_x1a xk.f0.f3.length c_x1a):=HR.out.cell 4 rfl 3 rfl;have hc_b9_4 : w68.cell? ⟨g_b9,4,none⟩ = some (.int .i64 xk.f1.f0):=HR.out.cell 4 rfl 4 rfl;have hc_b9_5 : w68.cell? ⟨g_b9,5,none⟩ = some (.string xk.f1.f1):=HR.out.cell 4 rfl 5 rfl;have hc_b9_6 : w68.cell? ⟨g_b9,6,none⟩ = some (.int .i64 xk.f1.f2):=HR.out.cell 4 rfl 6 rfl;have hc_b9_7 : w68.cell? ⟨g_b9,7,none⟩ = some (.slice A_x1b xk.f1.f3.length c_x1b):=HR.out.cell 4 rfl 7 rfl;have hc_b9_8 : w68.cell? ⟨g_b9,8,none⟩ = some (.string xk.f2):=HR.out.cell 4 rfl 8 rfl)
  | (go_at_call 26;obtain ⟨oki,hi,hlo,hput⟩:=HR.out.all 5 rfl;with_reducible refine (c26 w68 oki _ _ _ _ HR.out.bel (fun k_ hk_ => (hlo k_ hk_).1) hi).mono ?_;rintro e w69 ⟨rfl,ho,hb,hk⟩;replace HR:=asd (hput _ _ hb hk ho);clear hi hlo hput ho hb hk oki;clear hc_b9_0 hc_b9_1 hc_b9_2 hc_b9_3 hc_b9_4 hc_b9_5 hc_b9_6 hc_b9_7 hc_b9_8;have hc_b6_0 : w69.cell? ⟨g_b6,0,none⟩ = some (.slice A_w0a xg.length c_w0a):=HR.out.cell 8 rfl 0 rfl;have hc_b6_1 : w69.cell? ⟨g_b6,1,none⟩ = some (.slice A_w0b os.length c_w0b):=HR.out.cell 8 rfl 1 rfl;have hc_b10_0 : w69.cell? ⟨g_b10,0,none⟩ = some (.slice A_g0a xg.length c_g0a):=HR.out.cell 2 rfl 0 rfl;have hc_b10_1 : w69.cell? ⟨g_b10,1,none⟩ = some (.slice A_g0b os.length c_g0b):=HR.out.cell 2 rfl 1 rfl)
  | (go_at_call 19;with_reducible refine (c19 w69 _ _ _ _ _ _ _ _ (rdD (HR.out.has 3 rfl)).1 (rdD (HR.out.has 3 rfl)).2 (rdO (HR.out.has 3 rfl)).1 (rdO (HR.out.has 3 rfl)).2 (rdVD (HR.out.has 9 rfl)).1 (rdVD (HR.out.has 9 rfl)).2 (rdVO (HR.out.has 9 rfl)).1 (rdVO (HR.out.has 9 rfl)).2).mono ?_;rintro e w70 ⟨rfl,hb⟩;replace HR:=asd (HR.out.step hb);clear hb;clear hc_b6_0 hc_b6_1 hc_b10_0 hc_b10_1;have hc_b10_0 : w70.cell? ⟨g_b10,0,none⟩ = some (.slice A_g0a xg.length c_g0a):=HR.out.cell 2 rfl 0 rfl;have hc_b10_1 : w70.cell? ⟨g_b10,1,none⟩ = some (.slice A_g0b os.length c_g0b):=HR.out.cell 2 rfl 1 rfl)
  | (go_at_call 31;obtain ⟨oki,hi,hlo,hput⟩:=HR.out.all 3 rfl;with_reducible refine (d31 w70 oki _ _ _ _ HR.out.bel (fun k_ hk_ => (hlo k_ hk_).1) hi).mono ?_;rintro e w71 ⟨rfl,ho,hb,hk⟩;replace HR:=asd (hput _ _ hb hk ho);clear hi hlo hput ho hb hk oki;clear hc_b10_0 hc_b10_1;have hc_b10_0 : w71.cell? ⟨g_b10,0,none⟩ = some (.slice A_g0a xg.length c_g0a):=HR.out.cell 2 rfl 0 rfl;have hc_b10_1 : w71.cell? ⟨g_b10,1,none⟩ = some (.slice A_g0b os.length c_g0b):=HR.out.cell 2 rfl 1 rfl)
  | (go_at_call 38;with_reducible refine (c38 w71 _ _ _ _ (rdD (HR.out.has 3 rfl)).1 (rdD (HR.out.has 3 rfl)).2 (rdO (HR.out.has 3 rfl)).1 (rdO (HR.out.has 3 rfl)).2).mono ?_;rintro e w72 ⟨rfl,hb⟩;replace HR:=asd (HR.out.step hb);clear hb;clear hc_b10_0 hc_b10_1))
 replace HR:=asd (HR.out.drew)
 refine start_ (n:=11) (S:=fun w' => w'.cell? ⟨g_b2,0,none⟩ = some (.slice A_Da l.length c_Da) ∧ w'.cell? ⟨g_b2,1,none⟩ = some (.slice A_Db os.length c_Db) ∧ w'.cell? ⟨g_b3,0,none⟩ = some (.int .i64 cc.f0.f0) ∧ w'.cell? ⟨g_b3,1,none⟩ = some (.string cc.f0.f1) ∧ w'.cell? ⟨g_b3,2,none⟩ = some (.int .i64 cc.f0.f2) ∧ w'.cell? ⟨g_b3,3,none⟩ = some (.slice A_Ca cc.f0.f3.length c_Ca) ∧ w'.cell? ⟨g_b3,4,none⟩ = some (.int .i64 cc.f1.f0) ∧ w'.cell? ⟨g_b3,5,none⟩ = some (.string cc.f1.f1) ∧ w'.cell? ⟨g_b3,6,none⟩ = some (.int .i64 cc.f1.f2) ∧ w'.cell? ⟨g_b3,7,none⟩ = some (.slice A_Cb cc.f1.f3.length c_Cb) ∧ w'.cell? ⟨g_b3,8,none⟩ = some (.string cc.f2)) (ds:=[9]) #[false,false,false,false,false,false,false,false,false,false,false] (by kernel_rfl) rfl rfl ⟨HR.out.cell 13 rfl 0 rfl,HR.out.cell 13 rfl 1 rfl,HR.out.cell 12 rfl 0 rfl,HR.out.cell 12 rfl 1 rfl,HR.out.cell 12 rfl 2 rfl,HR.out.cell 12 rfl 3 rfl,HR.out.cell 12 rfl 4 rfl,HR.out.cell 12 rfl 5 rfl,HR.out.cell 12 rfl 6 rfl,HR.out.cell 12 rfl 7 rfl,HR.out.cell 12 rfl 8 rfl⟩ (fun hHeld => ?_);refine with_tabW lw8_31_tab lw8_31_bits (fun HT_ HW_ => ?_)
 generalize w72.drew = w73 at HR hHeld ⊢
 refine take_ (i:=0) (N:=some 95) (v:=?_) (a':=?_) #[true,false,false,false,false,false,false,false,false,false,false] rfl rfl (take_ofW HT_.out HW_.out (by kernel_rfl)) (fun _ _ _ h => h) (Or.inl ⟨by rfl,?_⟩) hHeld ?_ ?_
 rotate_left
 ·rintro w' ⟨s0,s1,s2,s3,s4,s5,s6,s7,s8,s9,s10⟩
  go_simp
  with_reducible rfl
 rotate_left
 ·simp only [Act.put,List.setIfInBounds_toArray,List.set_cons_zero,List.set_cons_succ,i64_w,i32_w]
  rfl
 refine take_ (i:=2) (N:=some 97) (v:=?_) (a':=?_) #[true,false,true,false,false,false,false,false,false,false,false] rfl rfl (take_ofW HT_.out HW_.out (by kernel_rfl)) (fun _ _ _ h => h) (Or.inl ⟨by rfl,?_⟩) hHeld ?_ ?_
 rotate_left
 ·rintro w' ⟨s0,s1,s2,s3,s4,s5,s6,s7,s8,s9,s10⟩
  go_simp
  with_reducible rfl
 rotate_left
 ·simp only [Act.put,List.setIfInBounds_toArray,List.set_cons_zero,List.set_cons_succ,i64_w,i32_w]
  rfl
 refine join_ (σ:=Option Addr × Nat × Option Addr × Nat × Option Addr × Nat × Option Addr × Nat × Option Addr × Nat × Option Addr × Nat × Nat) 2 #[true,true,true,true,true,true,true,true,true,false,false] (fun s => let ⟨A_e3a,c_e3a,A_e3b,c_e3b,A_f3a,c_f3a,A_f3b,c_f3b,A_h0a,c_h0a,A_h0b,c_h0b,g_b15⟩:=s;[(96,.agg #[.slice A_e3a xd.length c_e3a,.slice A_e3b os.length c_e3b]),(98,.agg #[.int .i64 xk.f0.f0,.string xk.f0.f1,.int .i64 xk.f0.f2,.slice A_f3a xk.f0.f3.length c_f3a,.int .i64 xk.f1.f0,.string xk.f1.f1,.int .i64 xk.f1.f2,.slice A_f3b xk.f1.f3.length c_f3b,.string xk.f2]),(99,.tuple #[.agg #[.slice A_h0a xg.length c_h0a,.slice A_h0b os.length c_h0b],.bool bo]),(94,.tuple #[.agg #[.slice A_h0a xg.length c_h0a,.slice A_h0b os.length c_h0b],.bool bo]),(100,.agg #[.slice A_h0a xg.length c_h0a,.slice A_h0b os.length c_h0b]),(101,.bool bo),(15,.pointer (some ⟨g_b15,0,none⟩))]) (fun s w' => let ⟨A_e3a,c_e3a,A_e3b,c_e3b,A_f3a,c_f3a,A_f3b,c_f3b,A_h0a,c_h0a,A_h0b,c_h0b,g_b15⟩:=s;Run w w (fun _ => False) [As.box g_b15 41 #[.slice none 0 0,.slice none 0 0],(adb (.slice A_h0a xg.length c_h0a) xg (.slice A_h0b os.length c_h0b) os),(acr (.slice A_f3a xk.f0.f3.length c_f3a) xk.f0.f3 (.slice A_f3b xk.f1.f3.length c_f3b) xk.f1.f3),(adb (.slice A_e3a xd.length c_e3a) xd (.slice A_e3b os.length c_e3b) os),(acr (.slice A_f2a xk.f0.f3.length c_f2a) xk.f0.f3 (.slice A_f2b xk.f1.f3.length c_f2b) xk.f1.f3),(adb (.slice A_e2a xd.length c_e2a) xd (.slice A_e2b os.length c_e2b) os),As.box g_b10 41 #[.slice A_g0a xg.length c_g0a,.slice A_g0b os.length c_g0b],(adb (.slice A_g0a xg.length c_g0a) yg (.slice A_g0b os.length c_g0b) yog),As.box g_b9 48 #[.int .i64 xk.f0.f0,.string xk.f0.f1,.int .i64 xk.f0.f2,.slice A_x1a xk.f0.f3.length c_x1a,.int .i64 xk.f1.f0,.string xk.f1.f1,.int .i64 xk.f1.f2,.slice A_x1b xk.f1.f3.length c_x1b,.string xk.f2],(acr (.slice A_x1a xk.f0.f3.length c_x1a) yka (.slice A_x1b xk.f1.f3.length c_x1b) ykb),As.box g_b8 41 #[.slice A_x0a xd.length c_x0a,.slice A_x0b os.length c_x0b],(adb (.slice A_x0a xd.length c_x0a) yd (.slice A_x0b os.length c_x0b) yo),As.box g_b6 41 #[.slice A_w0a xg.length c_w0a,.slice A_w0b os.length c_w0b],(avd (.slice A_w0a xg.length c_w0a) xg (.slice A_w0b os.length c_w0b) os),(acr (.slice A_f0a xk.f0.f3.length c_f0a) xk.f0.f3 (.slice A_f0b xk.f1.f3.length c_f0b) xk.f1.f3),(adb (.slice A_e0a xd.length c_e0a) xd (.slice A_e0b os.length c_e0b) os),As.box g_b3 60 #[.int .i64 cc.f0.f0,.string cc.f0.f1,.int .i64 cc.f0.f2,.slice A_Ca cc.f0.f3.length c_Ca,.int .i64 cc.f1.f0,.string cc.f1.f1,.int .i64 cc.f1.f2,.slice A_Cb cc.f1.f3.length c_Cb,.string cc.f2],As.box g_b2 36 #[.slice A_Da l.length c_Da,.slice A_Db os.length c_Db]] w') ?_ ?_
 rotate_left
 ·intro hCont
  refine two_ (i:=1) (j:=8) (Ni:=some 96) (Nj:=some 15) #[true,true,true,false,false,false,false,false,false,false,false] #[true,false,true,false,false,false,false,false,true,false,false] rfl rfl rfl rfl (two_of HT_.out (by kernel_rfl)) (by decide) (by decide) (fun K hK => ?_) (fun K hK => ?_)
  ·skip
   refine goes_ Tryd.func17 (by kernel_rfl) rfl #[.agg #[.slice A_Da l.length c_Da,.slice A_Db os.length c_Db]] (by rfl) rfl rfl (by (try simp only [List.map_toArray,List.map_cons,List.map_nil]);first|done|rfl) ?_
   refine (c17 w73 _ _ _ _ HL_Da.out (Kd.C_below HC_Da.out HR.out.bel) HL_Db.out (Kd.C_below HC_Db.out HR.out.bel)).mono ?_
   rintro e w74 ⟨A_e3a,c_e3a,A_e3b,c_e3b,rfl,ho,hb⟩
   refine ⟨_,rfl,?_⟩
   replace HR:=asd (HR.out.push _ hb ho)
   clear hb ho
   refine hK.out _ _ ⟨HR.out.cell 14 rfl 0 rfl,HR.out.cell 14 rfl 1 rfl,HR.out.cell 13 rfl 0 rfl,HR.out.cell 13 rfl 1 rfl,HR.out.cell 13 rfl 2 rfl,HR.out.cell 13 rfl 3 rfl,HR.out.cell 13 rfl 4 rfl,HR.out.cell 13 rfl 5 rfl,HR.out.cell 13 rfl 6 rfl,HR.out.cell 13 rfl 7 rfl,HR.out.cell 13 rfl 8 rfl⟩ (fun hHeld => ?_)
   clear hK K
   refine norm_ (a':=?_) ?_ ?_
   rotate_left
   ·show Act.put _ (some 96) _ = _
    simp only [Act.put,List.setIfInBounds_toArray,List.set_cons_zero,List.set_cons_succ,i64_w,i32_w]
    rfl
   refine two_ (i:=3) (j:=8) (Ni:=some 98) (Nj:=some 15) #[true,true,true,true,false,false,false,false,false,false,false] #[true,true,true,false,false,false,false,false,true,false,false] rfl rfl rfl rfl (two_of HT_.out (by kernel_rfl)) (by decide) (by decide) (fun K hK => ?_) (fun K hK => ?_)
   ·skip
    refine goes_ Tryd.func36 (by kernel_rfl) rfl #[.agg #[.int .i64 cc.f0.f0,.string cc.f0.f1,.int .i64 cc.f0.f2,.slice A_Ca cc.f0.f3.length c_Ca,.int .i64 cc.f1.f0,.string cc.f1.f1,.int .i64 cc.f1.f2,.slice A_Cb cc.f1.f3.length c_Cb,.string cc.f2]] (by rfl) rfl rfl (by (try simp only [List.map_toArray,List.map_cons,List.map_nil]);first|done|rfl) ?_
    refine (c36 w74 _ _ _ _ HL_Ca.out (Kd.C_below HC_Ca.out HR.out.bel) HL_Cb.out (Kd.C_below HC_Cb.out HR.out.bel)).mono ?_
    rintro e w75 ⟨A_f3a,c_f3a,A_f3b,c_f3b,rfl,ho,hb⟩
    refine ⟨_,rfl,?_⟩
    replace HR:=asd (HR.out.push _ hb ho)
    clear hb ho
    refine hK.out _ _ ⟨HR.out.cell 15 rfl 0 rfl,HR.out.cell 15 rfl 1 rfl,HR.out.cell 14 rfl 0 rfl,HR.out.cell 14 rfl 1 rfl,HR.out.cell 14 rfl 2 rfl,HR.out.cell 14 rfl 3 rfl,HR.out.cell 14 rfl 4 rfl,HR.out.cell 14 rfl 5 rfl,HR.out.cell 14 rfl 6 rfl,HR.out.cell 14 rfl 7 rfl,HR.out.cell 14 rfl 8 rfl⟩ (fun hHeld => ?_)
    clear hK K
    refine norm_ (a':=?_) ?_ ?_
    rotate_left
    ·show Act.put _ (some 98) _ = _
     simp only [Act.put,List.setIfInBounds_toArray,List.set_cons_zero,List.set_cons_succ,i64_w,i32_w]
     rfl
    refine two_ (i:=4) (j:=8) (Ni:=some 99) (Nj:=some 15) #[true,true,true,true,true,false,false,false,false,false,false] #[true,true,true,true,false,false,false,false,true,false,false] rfl rfl rfl rfl (two_of HT_.out (by kernel_rfl)) (by decide) (by decide) (fun K hK => ?_) (fun K hK => ?_)
    ·skip
     refine goes_ Tryd.func37 (by kernel_rfl) rfl #[.agg #[.slice A_e3a xd.length c_e3a,.slice A_e3b os.length c_e3b],.agg #[.int .i64 xk.f0.f0,.string xk.f0.f1,.int .i64 xk.f0.f2,.slice A_f3a xk.f0.f3.length c_f3a,.int .i64 xk.f1.f0,.string xk.f1.f1,.int .i64 xk.f1.f2,.slice A_f3b xk.f1.f3.length c_f3b,.string xk.f2]] (by rfl) rfl rfl (by (try simp only [List.map_toArray,List.map_cons,List.map_nil]);first|done|rfl) ?_
     refine (c37 w75 _ _ _ _ _ _ _ _ HR.out.bel (rdD (HR.out.has 1 rfl)).1 (rdD (HR.out.has 1 rfl)).2 (rdO (HR.out.has 1 rfl)).1 (rdO (HR.out.has 1 rfl)).2 (rdA (HR.out.has 0 rfl)).1 (rdA (HR.out.has 0 rfl)).2 (rdB (HR.out.has 0 rfl)).1 (rdB (HR.out.has 0 rfl)).2).mono ?_
     rintro e w76 ⟨A_h0a,c_h0a,A_h0b,c_h0b,rfl,ho,hb⟩
     refine ⟨_,rfl,?_⟩
     replace HR:=asd (HR.out.push _ hb ho)
     clear hb ho
     refine hK.out _ _ ⟨HR.out.cell 16 rfl 0 rfl,HR.out.cell 16 rfl 1 rfl,HR.out.cell 15 rfl 0 rfl,HR.out.cell 15 rfl 1 rfl,HR.out.cell 15 rfl 2 rfl,HR.out.cell 15 rfl 3 rfl,HR.out.cell 15 rfl 4 rfl,HR.out.cell 15 rfl 5 rfl,HR.out.cell 15 rfl 6 rfl,HR.out.cell 15 rfl 7 rfl,HR.out.cell 15 rfl 8 rfl⟩ (fun hHeld => ?_)
     clear hK K
     refine norm_ (a':=?_) ?_ ?_
     rotate_left
     ·show Act.put _ (some 99) _ = _
      simp only [Act.put,List.setIfInBounds_toArray,List.set_cons_zero,List.set_cons_succ,i64_w,i32_w]
      rfl
     refine pure_ (i:=5) (N:=some 94) (v:=?_) (a':=?_) #[true,true,true,true,true,true,false,false,false,false,false] rfl rfl (any_of HT_.out (by kernel_rfl)) (fun _ _ _ h => h) (Or.inl ⟨by rfl,?_⟩) ?_ ?_
     rotate_left
     ·intro w'
      go_simp
      with_reducible rfl
     rotate_left
     ·simp only [Act.put,List.setIfInBounds_toArray,List.set_cons_zero,List.set_cons_succ,i64_w,i32_w]
      rfl
     refine pure_ (i:=6) (N:=some 100) (v:=?_) (a':=?_) #[true,true,true,true,true,true,true,false,false,false,false] rfl rfl (any_of HT_.out (by kernel_rfl)) (fun _ _ _ h => h) (Or.inl ⟨by rfl,?_⟩) ?_ ?_
     rotate_left
     ·intro w'
      go_simp
      with_reducible rfl
     rotate_left
     ·simp only [Act.put,List.setIfInBounds_toArray,List.set_cons_zero,List.set_cons_succ,i64_w,i32_w]
      rfl
     refine pure_ (i:=7) (N:=some 101) (v:=?_) (a':=?_) #[true,true,true,true,true,true,true,true,false,false,false] rfl rfl (any_of HT_.out (by kernel_rfl)) (fun _ _ _ h => h) (Or.inl ⟨by rfl,?_⟩) ?_ ?_
     rotate_left
     ·intro w'
      go_simp
      with_reducible rfl
     rotate_left
     ·simp only [Act.put,List.setIfInBounds_toArray,List.set_cons_zero,List.set_cons_succ,i64_w,i32_w]
      rfl
     refine one_ (i:=8) (N:=some 15) #[true,true,true,true,true,true,true,true,true,false,false] rfl rfl (one_of HT_.out (by kernel_rfl)) (by decide) (fun K hK => ?_)
     refine box_step (by rfl) (N:=15) rfl (cs:=#[.slice none 0 0,.slice none 0 0]) (t:=41) ?hra ?_
     (case hra => first|(go_simp;done)|(go_simp;rfl))
     intro g_b15 hg w77 hbox hb
     replace HR:=asd (HR.out.box hg hb hbox)
     clear hg hbox hb
     refine hK.out _ _ ⟨HR.out.cell 17 rfl 0 rfl,HR.out.cell 17 rfl 1 rfl,HR.out.cell 16 rfl 0 rfl,HR.out.cell 16 rfl 1 rfl,HR.out.cell 16 rfl 2 rfl,HR.out.cell 16 rfl 3 rfl,HR.out.cell 16 rfl 4 rfl,HR.out.cell 16 rfl 5 rfl,HR.out.cell 16 rfl 6 rfl,HR.out.cell 16 rfl 7 rfl,HR.out.cell 16 rfl 8 rfl⟩ (fun hHeld => ?_)
     clear hK K
     refine norm_ (a':=?_) ?_ ?_
     rotate_left
     ·show Act.put _ (some 15) _ = _
      simp only [Act.put,List.setIfInBounds_toArray,List.set_cons_zero,List.set_cons_succ,i64_w,i32_w]
      rfl
     exact norm_ (by simp only [putAll,Act.put,List.setIfInBounds_toArray,List.set_cons_zero,List.set_cons_succ]) (hCont (A_e3a,c_e3a,A_e3b,c_e3b,A_f3a,c_f3a,A_f3b,c_f3b,A_h0a,c_h0a,A_h0b,c_h0b,g_b15) _ (HR.out.pick [0,1,2,3,4,5,6,7,8,9,10,11,12,13,14,15,16,17] (by decide)))
    ·skip
     refine box_step (by rfl) (N:=15) rfl (cs:=#[.slice none 0 0,.slice none 0 0]) (t:=41) ?hra ?_
     (case hra => first|(go_simp;done)|(go_simp;rfl))
     intro g_b15 hg w76 hbox hb
     replace HR:=asd (HR.out.box hg hb hbox)
     clear hg hbox hb
     refine hK.out _ _ ⟨HR.out.cell 16 rfl 0 rfl,HR.out.cell 16 rfl 1 rfl,HR.out.cell 15 rfl 0 rfl,HR.out.cell 15 rfl 1 rfl,HR.out.cell 15 rfl 2 rfl,HR.out.cell 15 rfl 3 rfl,HR.out.cell 15 rfl 4 rfl,HR.out.cell 15 rfl 5 rfl,HR.out.cell 15 rfl 6 rfl,HR.out.cell 15 rfl 7 rfl,HR.out.cell 15 rfl 8 rfl⟩ (fun hHeld => ?_)
     clear hK K
     refine norm_ (a':=?_) ?_ ?_
     rotate_left
     ·show Act.put _ (some 15) _ = _
      simp only [Act.put,List.setIfInBounds_toArray,List.set_cons_zero,List.set_cons_succ,i64_w,i32_w]
      rfl
     refine one_ (i:=4) (N:=some 99) #[true,true,true,true,true,false,false,false,true,false,false] rfl rfl (one_of HT_.out (by kernel_rfl)) (by decide) (fun K hK => ?_)
     refine goes_ Tryd.func37 (by kernel_rfl) rfl #[.agg #[.slice A_e3a xd.length c_e3a,.slice A_e3b os.length c_e3b],.agg #[.int .i64 xk.f0.f0,.string xk.f0.f1,.int .i64 xk.f0.f2,.slice A_f3a xk.f0.f3.length c_f3a,.int .i64 xk.f1.f0,.string xk.f1.f1,.int .i64 xk.f1.f2,.slice A_f3b xk.f1.f3.length c_f3b,.string xk.f2]] (by rfl) rfl rfl (by (try simp only [List.map_toArray,List.map_cons,List.map_nil]);first|done|rfl) ?_
     refine (c37 w76 _ _ _ _ _ _ _ _ HR.out.bel (rdD (HR.out.has 2 rfl)).1 (rdD (HR.out.has 2 rfl)).2 (rdO (HR.out.has 2 rfl)).1 (rdO (HR.out.has 2 rfl)).2 (rdA (HR.out.has 1 rfl)).1 (rdA (HR.out.has 1 rfl)).2 (rdB (HR.out.has 1 rfl)).1 (rdB (HR.out.has 1 rfl)).2).mono ?_
     rintro e w77 ⟨A_h0a,c_h0a,A_h0b,c_h0b,rfl,ho,hb⟩
     refine ⟨_,rfl,?_⟩
     replace HR:=asd (HR.out.push _ hb ho)
     clear hb ho
     refine hK.out _ _ ⟨HR.out.cell 17 rfl 0 rfl,HR.out.cell 17 rfl 1 rfl,HR.out.cell 16 rfl 0 rfl,HR.out.cell 16 rfl 1 rfl,HR.out.cell 16 rfl 2 rfl,HR.out.cell 16 rfl 3 rfl,HR.out.cell 16 rfl 4 rfl,HR.out.cell 16 rfl 5 rfl,HR.out.cell 16 rfl 6 rfl,HR.out.cell 16 rfl 7 rfl,HR.out.cell 16 rfl 8 rfl⟩ (fun hHeld => ?_)
     clear hK K
     refine norm_ (a':=?_) ?_ ?_
     rotate_left
     ·show Act.put _ (some 99) _ = _
      simp only [Act.put,List.setIfInBounds_toArray,List.set_cons_zero,List.set_cons_succ,i64_w,i32_w]
      rfl
     refine pure_ (i:=5) (N:=some 94) (v:=?_) (a':=?_) #[true,true,true,true,true,true,false,false,true,false,false] rfl rfl (any_of HT_.out (by kernel_rfl)) (fun _ _ _ h => h) (Or.inl ⟨by rfl,?_⟩) ?_ ?_
     rotate_left
     ·intro w'
      go_simp
      with_reducible rfl
     rotate_left
     ·simp only [Act.put,List.setIfInBounds_toArray,List.set_cons_zero,List.set_cons_succ,i64_w,i32_w]
      rfl
     refine pure_ (i:=6) (N:=some 100) (v:=?_) (a':=?_) #[true,true,true,true,true,true,true,false,true,false,false] rfl rfl (any_of HT_.out (by kernel_rfl)) (fun _ _ _ h => h) (Or.inl ⟨by rfl,?_⟩) ?_ ?_
     rotate_left
     ·intro w'
      go_simp
      with_reducible rfl
     rotate_left
     ·simp only [Act.put,List.setIfInBounds_toArray,List.set_cons_zero,List.set_cons_succ,i64_w,i32_w]
      rfl
     refine pure_ (i:=7) (N:=some 101) (v:=?_) (a':=?_) #[true,true,true,true,true,true,true,true,true,false,false] rfl rfl (any_of HT_.out (by kernel_rfl)) (fun _ _ _ h => h) (Or.inl ⟨by rfl,?_⟩) ?_ ?_
     rotate_left
     ·intro w'
      go_simp
      with_reducible rfl
     rotate_left
     ·simp only [Act.put,List.setIfInBounds_toArray,List.set_cons_zero,List.set_cons_succ,i64_w,i32_w]
      rfl
     exact norm_ (by simp only [putAll,Act.put,List.setIfInBounds_toArray,List.set_cons_zero,List.set_cons_succ]) (hCont (A_e3a,c_e3a,A_e3b,c_e3b,A_f3a,c_f3a,A_f3b,c_f3b,A_h0a,c_h0a,A_h0b,c_h0b,g_b15) _ (HR.out.pick [1,0,2,3,4,5,6,7,8,9,10,11,12,13,14,15,16,17] (by decide)))
   ·skip
    refine box_step (by rfl) (N:=15) rfl (cs:=#[.slice none 0 0,.slice none 0 0]) (t:=41) ?hra ?_
    (case hra => first|(go_simp;done)|(go_simp;rfl))
    intro g_b15 hg w75 hbox hb
    replace HR:=asd (HR.out.box hg hb hbox)
    clear hg hbox hb
    refine hK.out _ _ ⟨HR.out.cell 15 rfl 0 rfl,HR.out.cell 15 rfl 1 rfl,HR.out.cell 14 rfl 0 rfl,HR.out.cell 14 rfl 1 rfl,HR.out.cell 14 rfl 2 rfl,HR.out.cell 14 rfl 3 rfl,HR.out.cell 14 rfl 4 rfl,HR.out.cell 14 rfl 5 rfl,HR.out.cell 14 rfl 6 rfl,HR.out.cell 14 rfl 7 rfl,HR.out.cell 14 rfl 8 rfl⟩ (fun hHeld => ?_)
    clear hK K
    refine norm_ (a':=?_) ?_ ?_
    rotate_left
    ·show Act.put _ (some 15) _ = _
     simp only [Act.put,List.setIfInBounds_toArray,List.set_cons_zero,List.set_cons_succ,i64_w,i32_w]
     rfl
    refine one_ (i:=3) (N:=some 98) #[true,true,true,true,false,false,false,false,true,false,false] rfl rfl (one_of HT_.out (by kernel_rfl)) (by decide) (fun K hK => ?_)
    refine goes_ Tryd.func36 (by kernel_rfl) rfl #[.agg #[.int .i64 cc.f0.f0,.string cc.f0.f1,.int .i64 cc.f0.f2,.slice A_Ca cc.f0.f3.length c_Ca,.int .i64 cc.f1.f0,.string cc.f1.f1,.int .i64 cc.f1.f2,.slice A_Cb cc.f1.f3.length c_Cb,.string cc.f2]] (by rfl) rfl rfl (by (try simp only [List.map_toArray,List.map_cons,List.map_nil]);first|done|rfl) ?_
    refine (c36 w75 _ _ _ _ HL_Ca.out (Kd.C_below HC_Ca.out HR.out.bel) HL_Cb.out (Kd.C_below HC_Cb.out HR.out.bel)).mono ?_
    rintro e w76 ⟨A_f3a,c_f3a,A_f3b,c_f3b,rfl,ho,hb⟩
    refine ⟨_,rfl,?_⟩
    replace HR:=asd (HR.out.push _ hb ho)
    clear hb ho
    refine hK.out _ _ ⟨HR.out.cell 16 rfl 0 rfl,HR.out.cell 16 rfl 1 rfl,HR.out.cell 15 rfl 0 rfl,HR.out.cell 15 rfl 1 rfl,HR.out.cell 15 rfl 2 rfl,HR.out.cell 15 rfl 3 rfl,HR.out.cell 15 rfl 4 rfl,HR.out.cell 15 rfl 5 rfl,HR.out.cell 15 rfl 6 rfl,HR.out.cell 15 rfl 7 rfl,HR.out.cell 15 rfl 8 rfl⟩ (fun hHeld => ?_)
    clear hK K
    refine norm_ (a':=?_) ?_ ?_
    rotate_left
    ·show Act.put _ (some 98) _ = _
     simp only [Act.put,List.setIfInBounds_toArray,List.set_cons_zero,List.set_cons_succ,i64_w,i32_w]
     rfl
    refine one_ (i:=4) (N:=some 99) #[true,true,true,true,true,false,false,false,true,false,false] rfl rfl (one_of HT_.out (by kernel_rfl)) (by decide) (fun K hK => ?_)
    refine goes_ Tryd.func37 (by kernel_rfl) rfl #[.agg #[.slice A_e3a xd.length c_e3a,.slice A_e3b os.length c_e3b],.agg #[.int .i64 xk.f0.f0,.string xk.f0.f1,.int .i64 xk.f0.f2,.slice A_f3a xk.f0.f3.length c_f3a,.int .i64 xk.f1.f0,.string xk.f1.f1,.int .i64 xk.f1.f2,.slice A_f3b xk.f1.f3.length c_f3b,.string xk.f2]] (by rfl) rfl rfl (by (try simp only [List.map_toArray,List.map_cons,List.map_nil]);first|done|rfl) ?_
    refine (c37 w76 _ _ _ _ _ _ _ _ HR.out.bel (rdD (HR.out.has 2 rfl)).1 (rdD (HR.out.has 2 rfl)).2 (rdO (HR.out.has 2 rfl)).1 (rdO (HR.out.has 2 rfl)).2 (rdA (HR.out.has 0 rfl)).1 (rdA (HR.out.has 0 rfl)).2 (rdB (HR.out.has 0 rfl)).1 (rdB (HR.out.has 0 rfl)).2).mono ?_
    rintro e w77 ⟨A_h0a,c_h0a,A_h0b,c_h0b,rfl,ho,hb⟩
    refine ⟨_,rfl,?_⟩
    replace HR:=asd (HR.out.push _ hb ho)
    clear hb ho
    refine hK.out _ _ ⟨HR.out.cell 17 rfl 0 rfl,HR.out.cell 17 rfl 1 rfl,HR.out.cell 16 rfl 0 rfl,HR.out.cell 16 rfl 1 rfl,HR.out.cell 16 rfl 2 rfl,HR.out.cell 16 rfl 3 rfl,HR.out.cell 16 rfl 4 rfl,HR.out.cell 16 rfl 5 rfl,HR.out.cell 16 rfl 6 rfl,HR.out.cell 16 rfl 7 rfl,HR.out.cell 16 rfl 8 rfl⟩ (fun hHeld => ?_)
    clear hK K
    refine norm_ (a':=?_) ?_ ?_
    rotate_left
    ·show Act.put _ (some 99) _ = _
     simp only [Act.put,List.setIfInBounds_toArray,List.set_cons_zero,List.set_cons_succ,i64_w,i32_w]
     rfl
    refine pure_ (i:=5) (N:=some 94) (v:=?_) (a':=?_) #[true,true,true,true,true,true,false,false,true,false,false] rfl rfl (any_of HT_.out (by kernel_rfl)) (fun _ _ _ h => h) (Or.inl ⟨by rfl,?_⟩) ?_ ?_
    rotate_left
    ·intro w'
     go_simp
     with_reducible rfl
    rotate_left
    ·simp only [Act.put,List.setIfInBounds_toArray,List.set_cons_zero,List.set_cons_succ,i64_w,i32_w]
     rfl
    refine pure_ (i:=6) (N:=some 100) (v:=?_) (a':=?_) #[true,true,true,true,true,true,true,false,true,false,false] rfl rfl (any_of HT_.out (by kernel_rfl)) (fun _ _ _ h => h) (Or.inl ⟨by rfl,?_⟩) ?_ ?_
    rotate_left
    ·intro w'
     go_simp
     with_reducible rfl
    rotate_left
    ·simp only [Act.put,List.setIfInBounds_toArray,List.set_cons_zero,List.set_cons_succ,i64_w,i32_w]
     rfl
    refine pure_ (i:=7) (N:=some 101) (v:=?_) (a':=?_) #[true,true,true,true,true,true,true,true,true,false,false] rfl rfl (any_of HT_.out (by kernel_rfl)) (fun _ _ _ h => h) (Or.inl ⟨by rfl,?_⟩) ?_ ?_
    rotate_left
    ·intro w'
     go_simp
     with_reducible rfl
    rotate_left
    ·simp only [Act.put,List.setIfInBounds_toArray,List.set_cons_zero,List.set_cons_succ,i64_w,i32_w]
     rfl
    exact norm_ (by simp only [putAll,Act.put,List.setIfInBounds_toArray,List.set_cons_zero,List.set_cons_succ]) (hCont (A_e3a,c_e3a,A_e3b,c_e3b,A_f3a,c_f3a,A_f3b,c_f3b,A_h0a,c_h0a,A_h0b,c_h0b,g_b15) _ (HR.out.pick [2,0,1,3,4,5,6,7,8,9,10,11,12,13,14,15,16,17] (by decide)))
  ·skip
   refine box_step (by rfl) (N:=15) rfl (cs:=#[.slice none 0 0,.slice none 0 0]) (t:=41) ?hra ?_
   (case hra => first|(go_simp;done)|(go_simp;rfl))
   intro g_b15 hg w74 hbox hb
   replace HR:=asd (HR.out.box hg hb hbox)
   clear hg hbox hb
   refine hK.out _ _ ⟨HR.out.cell 14 rfl 0 rfl,HR.out.cell 14 rfl 1 rfl,HR.out.cell 13 rfl 0 rfl,HR.out.cell 13 rfl 1 rfl,HR.out.cell 13 rfl 2 rfl,HR.out.cell 13 rfl 3 rfl,HR.out.cell 13 rfl 4 rfl,HR.out.cell 13 rfl 5 rfl,HR.out.cell 13 rfl 6 rfl,HR.out.cell 13 rfl 7 rfl,HR.out.cell 13 rfl 8 rfl⟩ (fun hHeld => ?_)
   clear hK K
   refine norm_ (a':=?_) ?_ ?_
   rotate_left
   ·show Act.put _ (some 15) _ = _
    simp only [Act.put,List.setIfInBounds_toArray,List.set_cons_zero,List.set_cons_succ,i64_w,i32_w]
    rfl
   refine one_ (i:=1) (N:=some 96) #[true,true,true,false,false,false,false,false,true,false,false] rfl rfl (one_of HT_.out (by kernel_rfl)) (by decide) (fun K hK => ?_)
   refine goes_ Tryd.func17 (by kernel_rfl) rfl #[.agg #[.slice A_Da l.length c_Da,.slice A_Db os.length c_Db]] (by rfl) rfl rfl (by (try simp only [List.map_toArray,List.map_cons,List.map_nil]);first|done|rfl) ?_
   refine (c17 w74 _ _ _ _ HL_Da.out (Kd.C_below HC_Da.out HR.out.bel) HL_Db.out (Kd.C_below HC_Db.out HR.out.bel)).mono ?_
   rintro e w75 ⟨A_e3a,c_e3a,A_e3b,c_e3b,rfl,ho,hb⟩
   refine ⟨_,rfl,?_⟩
   replace HR:=asd (HR.out.push _ hb ho)
   clear hb ho
   refine hK.out _ _ ⟨HR.out.cell 15 rfl 0 rfl,HR.out.cell 15 rfl 1 rfl,HR.out.cell 14 rfl 0 rfl,HR.out.cell 14 rfl 1 rfl,HR.out.cell 14 rfl 2 rfl,HR.out.cell 14 rfl 3 rfl,HR.out.cell 14 rfl 4 rfl,HR.out.cell 14 rfl 5 rfl,HR.out.cell 14 rfl 6 rfl,HR.out.cell 14 rfl 7 rfl,HR.out.cell 14 rfl 8 rfl⟩ (fun hHeld => ?_)
   clear hK K
   refine norm_ (a':=?_) ?_ ?_
   rotate_left
   ·show Act.put _ (some 96) _ = _
    simp only [Act.put,List.setIfInBounds_toArray,List.set_cons_zero,List.set_cons_succ,i64_w,i32_w]
    rfl
   refine one_ (i:=3) (N:=some 98) #[true,true,true,true,false,false,false,false,true,false,false] rfl rfl (one_of HT_.out (by kernel_rfl)) (by decide) (fun K hK => ?_)
   refine goes_ Tryd.func36 (by kernel_rfl) rfl #[.agg #[.int .i64 cc.f0.f0,.string cc.f0.f1,.int .i64 cc.f0.f2,.slice A_Ca cc.f0.f3.length c_Ca,.int .i64 cc.f1.f0,.string cc.f1.f1,.int .i64 cc.f1.f2,.slice A_Cb cc.f1.f3.length c_Cb,.string cc.f2]] (by rfl) rfl rfl (by (try simp only [List.map_toArray,List.map_cons,List.map_nil]);first|done|rfl) ?_
   refine (c36 w75 _ _ _ _ HL_Ca.out (Kd.C_below HC_Ca.out HR.out.bel) HL_Cb.out (Kd.C_below HC_Cb.out HR.out.bel)).mono ?_
   rintro e w76 ⟨A_f3a,c_f3a,A_f3b,c_f3b,rfl,ho,hb⟩
   refine ⟨_,rfl,?_⟩
   replace HR:=asd (HR.out.push _ hb ho)
   clear hb ho
   refine hK.out _ _ ⟨HR.out.cell 16 rfl 0 rfl,HR.out.cell 16 rfl 1 rfl,HR.out.cell 15 rfl 0 rfl,HR.out.cell 15 rfl 1 rfl,HR.out.cell 15 rfl 2 rfl,HR.out.cell 15 rfl 3 rfl,HR.out.cell 15 rfl 4 rfl,HR.out.cell 15 rfl 5 rfl,HR.out.cell 15 rfl 6 rfl,HR.out.cell 15 rfl 7 rfl,HR.out.cell 15 rfl 8 rfl⟩ (fun hHeld => ?_)
   clear hK K
   refine norm_ (a':=?_) ?_ ?_
   rotate_left
   ·show Act.put _ (some 98) _ = _
    simp only [Act.put,List.setIfInBounds_toArray,List.set_cons_zero,List.set_cons_succ,i64_w,i32_w]
    rfl
   refine one_ (i:=4) (N:=some 99) #[true,true,true,true,true,false,false,false,true,false,false] rfl rfl (one_of HT_.out (by kernel_rfl)) (by decide) (fun K hK => ?_)
   refine goes_ Tryd.func37 (by kernel_rfl) rfl #[.agg #[.slice A_e3a xd.length c_e3a,.slice A_e3b os.length c_e3b],.agg #[.int .i64 xk.f0.f0,.string xk.f0.f1,.int .i64 xk.f0.f2,.slice A_f3a xk.f0.f3.length c_f3a,.int .i64 xk.f1.f0,.string xk.f1.f1,.int .i64 xk.f1.f2,.slice A_f3b xk.f1.f3.length c_f3b,.string xk.f2]] (by rfl) rfl rfl (by (try simp only [List.map_toArray,List.map_cons,List.map_nil]);first|done|rfl) ?_
   refine (c37 w76 _ _ _ _ _ _ _ _ HR.out.bel (rdD (HR.out.has 1 rfl)).1 (rdD (HR.out.has 1 rfl)).2 (rdO (HR.out.has 1 rfl)).1 (rdO (HR.out.has 1 rfl)).2 (rdA (HR.out.has 0 rfl)).1 (rdA (HR.out.has 0 rfl)).2 (rdB (HR.out.has 0 rfl)).1 (rdB (HR.out.has 0 rfl)).2).mono ?_
   rintro e w77 ⟨A_h0a,c_h0a,A_h0b,c_h0b,rfl,ho,hb⟩
   refine ⟨_,rfl,?_⟩
   replace HR:=asd (HR.out.push _ hb ho)
   clear hb ho
   refine hK.out _ _ ⟨HR.out.cell 17 rfl 0 rfl,HR.out.cell 17 rfl 1 rfl,HR.out.cell 16 rfl 0 rfl,HR.out.cell 16 rfl 1 rfl,HR.out.cell 16 rfl 2 rfl,HR.out.cell 16 rfl 3 rfl,HR.out.cell 16 rfl 4 rfl,HR.out.cell 16 rfl 5 rfl,HR.out.cell 16 rfl 6 rfl,HR.out.cell 16 rfl 7 rfl,HR.out.cell 16 rfl 8 rfl⟩ (fun hHeld => ?_)
   clear hK K
   refine norm_ (a':=?_) ?_ ?_
   rotate_left
   ·show Act.put _ (some 99) _ = _
    simp only [Act.put,List.setIfInBounds_toArray,List.set_cons_zero,List.set_cons_succ,i64_w,i32_w]
    rfl
   refine pure_ (i:=5) (N:=some 94) (v:=?_) (a':=?_) #[true,true,true,true,true,true,false,false,true,false,false] rfl rfl (any_of HT_.out (by kernel_rfl)) (fun _ _ _ h => h) (Or.inl ⟨by rfl,?_⟩) ?_ ?_
   rotate_left
   ·intro w'
    go_simp
    with_reducible rfl
   rotate_left
   ·simp only [Act.put,List.setIfInBounds_toArray,List.set_cons_zero,List.set_cons_succ,i64_w,i32_w]
    rfl
   refine pure_ (i:=6) (N:=some 100) (v:=?_) (a':=?_) #[true,true,true,true,true,true,true,false,true,false,false] rfl rfl (any_of HT_.out (by kernel_rfl)) (fun _ _ _ h => h) (Or.inl ⟨by rfl,?_⟩) ?_ ?_
   rotate_left
   ·intro w'
    go_simp
    with_reducible rfl
   rotate_left
   ·simp only [Act.put,List.setIfInBounds_toArray,List.set_cons_zero,List.set_cons_succ,i64_w,i32_w]
    rfl
   refine pure_ (i:=7) (N:=some 101) (v:=?_) (a':=?_) #[true,true,true,true,true,true,true,true,true,false,false] rfl rfl (any_of HT_.out (by kernel_rfl)) (fun _ _ _ h => h) (Or.inl ⟨by rfl,?_⟩) ?_ ?_
   rotate_left
   ·intro w'
    go_simp
    with_reducible rfl
   rotate_left
   ·simp only [Act.put,List.setIfInBounds_toArray,List.set_cons_zero,List.set_cons_succ,i64_w,i32_w]
    rfl
   exact norm_ (by simp only [putAll,Act.put,List.setIfInBounds_toArray,List.set_cons_zero,List.set_cons_succ]) (hCont (A_e3a,c_e3a,A_e3b,c_e3b,A_f3a,c_f3a,A_f3b,c_f3b,A_h0a,c_h0a,A_h0b,c_h0b,g_b15) _ (HR.out.pick [3,0,1,2,4,5,6,7,8,9,10,11,12,13,14,15,16,17] (by decide)))
 rintro ⟨A_e3a,c_e3a,A_e3b,c_e3b,A_f3a,c_f3a,A_f3b,c_f3b,A_h0a,c_h0a,A_h0b,c_h0b,g_b15⟩ w118 hR_
 clear HR
 have HR:=asd (show Run w w (fun _ => False) [As.box g_b15 41 #[.slice none 0 0,.slice none 0 0],(adb (.slice A_h0a xg.length c_h0a) xg (.slice A_h0b os.length c_h0b) os),(acr (.slice A_f3a xk.f0.f3.length c_f3a) xk.f0.f3 (.slice A_f3b xk.f1.f3.length c_f3b) xk.f1.f3),(adb (.slice A_e3a xd.length c_e3a) xd (.slice A_e3b os.length c_e3b) os),(acr (.slice A_f2a xk.f0.f3.length c_f2a) xk.f0.f3 (.slice A_f2b xk.f1.f3.length c_f2b) xk.f1.f3),(adb (.slice A_e2a xd.length c_e2a) xd (.slice A_e2b os.length c_e2b) os),As.box g_b10 41 #[.slice A_g0a xg.length c_g0a,.slice A_g0b os.length c_g0b],(adb (.slice A_g0a xg.length c_g0a) yg (.slice A_g0b os.length c_g0b) yog),As.box g_b9 48 #[.int .i64 xk.f0.f0,.string xk.f0.f1,.int .i64 xk.f0.f2,.slice A_x1a xk.f0.f3.length c_x1a,.int .i64 xk.f1.f0,.string xk.f1.f1,.int .i64 xk.f1.f2,.slice A_x1b xk.f1.f3.length c_x1b,.string xk.f2],(acr (.slice A_x1a xk.f0.f3.length c_x1a) yka (.slice A_x1b xk.f1.f3.length c_x1b) ykb),As.box g_b8 41 #[.slice A_x0a xd.length c_x0a,.slice A_x0b os.length c_x0b],(adb (.slice A_x0a xd.length c_x0a) yd (.slice A_x0b os.length c_x0b) yo),As.box g_b6 41 #[.slice A_w0a xg.length c_w0a,.slice A_w0b os.length c_w0b],(avd (.slice A_w0a xg.length c_w0a) xg (.slice A_w0b os.length c_w0b) os),(acr (.slice A_f0a xk.f0.f3.length c_f0a) xk.f0.f3 (.slice A_f0b xk.f1.f3.length c_f0b) xk.f1.f3),(adb (.slice A_e0a xd.length c_e0a) xd (.slice A_e0b os.length c_e0b) os),As.box g_b3 60 #[.int .i64 cc.f0.f0,.string cc.f0.f1,.int .i64 cc.f0.f2,.slice A_Ca cc.f0.f3.length c_Ca,.int .i64 cc.f1.f0,.string cc.f1.f1,.int .i64 cc.f1.f2,.slice A_Cb cc.f1.f3.length c_Cb,.string cc.f2],As.box g_b2 36 #[.slice A_Da l.length c_Da,.slice A_Db os.length c_Db]] w118 from hR_)
 clear hR_
 refine norm_ (a':=?_) ?_ ?_
 rotate_left
 ·simp only [putAll,Act.put,List.setIfInBounds_toArray,List.set_cons_zero,List.set_cons_succ]
  rfl
 refine last_ (i:=9) (N:=none) #[true,true,true,true,true,true,true,true,true,true,false] rfl rfl (one_of HT_.out (by kernel_rfl)) (by decide) (fun K hK => ?_)
 have hz0_ : w118.cell? ⟨g_b15,0,none⟩ = some (.slice none 0 0):=HR.out.cell 0 rfl 0 rfl
 have fz0_:=HR.out.free 0 rfl 0
 have hz1_ : w118.cell? ⟨g_b15,1,none⟩ = some (.slice none 0 0):=HR.out.cell 0 rfl 1 rfl
 have fz1_:=HR.out.free 0 rfl 1
 refine skip_ (w1:=w118.setCells g_b15 0 [.slice A_h0a xg.length c_h0a,.slice A_h0b os.length c_h0b]) (by rfl) rfl ?_ ?_
 ·first|(go_simp;done)|(go_simp;rfl)
 refine hK.out _ _ ?_
 clear hK K hz0_ fz0_ hz1_ fz1_
 replace HR:=asd (HR.out.store 0 rfl [.slice A_h0a xg.length c_h0a,.slice A_h0b os.length c_h0b] rfl)
 generalize w118.setCells g_b15 0 [.slice A_h0a xg.length c_h0a,.slice A_h0b os.length c_h0b] = w119 at HR ⊢
 refine pure_ (i:=10) (N:=some 16) (v:=?_) (a':=?_) #[true,true,true,true,true,true,true,true,true,true,true] rfl rfl (any_of HT_.out (by kernel_rfl)) (fun _ _ _ h => h) (Or.inl ⟨by rfl,?_⟩) ?_ ?_
 rotate_left
 ·intro w'
  go_simp
  with_reducible rfl
 rotate_left
 ·simp only [Act.put,List.setIfInBounds_toArray,List.set_cons_zero,List.set_cons_succ,i64_w,i32_w]
  rfl
 refine done_ (done_of HT_.out (by kernel_rfl)) ?_
 have hc_b6_0 : w119.cell? ⟨g_b6,0,none⟩ = some (.slice A_w0a xg.length c_w0a):=HR.out.cell 12 rfl 0 rfl
 have hc_b6_1 : w119.cell? ⟨g_b6,1,none⟩ = some (.slice A_w0b os.length c_w0b):=HR.out.cell 12 rfl 1 rfl
 have hc_b15_0 : w119.cell? ⟨g_b15,0,none⟩ = some (.slice A_h0a xg.length c_h0a):=HR.out.cell 0 rfl 0 rfl
 have hc_b15_1 : w119.cell? ⟨g_b15,1,none⟩ = some (.slice A_h0b os.length c_h0b):=HR.out.cell 0 rfl 1 rfl
 go_wp2_with (first
  | (go_at_call 19;with_reducible refine (c19 w119 _ _ _ _ _ _ _ _ (rdD (HR.out.has 1 rfl)).1 (rdD (HR.out.has 1 rfl)).2 (rdO (HR.out.has 1 rfl)).1 (rdO (HR.out.has 1 rfl)).2 (rdVD (HR.out.has 13 rfl)).1 (rdVD (HR.out.has 13 rfl)).2 (rdVO (HR.out.has 13 rfl)).1 (rdVO (HR.out.has 13 rfl)).2).mono ?_;rintro e w120 ⟨rfl,hb⟩;replace HR:=asd (HR.out.step hb);clear hb;clear hc_b6_0 hc_b6_1 hc_b15_0 hc_b15_1;have hc_b10_0 : w120.cell? ⟨g_b10,0,none⟩ = some (.slice A_g0a xg.length c_g0a):=HR.out.cell 6 rfl 0 rfl;have hc_b10_1 : w120.cell? ⟨g_b10,1,none⟩ = some (.slice A_g0b os.length c_g0b):=HR.out.cell 6 rfl 1 rfl)
  | (go_at_call 38;with_reducible refine (c38 w120 _ _ _ _ (rdD (HR.out.has 7 rfl)).1 (rdD (HR.out.has 7 rfl)).2 (rdO (HR.out.has 7 rfl)).1 (rdO (HR.out.has 7 rfl)).2).mono ?_;rintro e w121 ⟨rfl,hb⟩;replace HR:=asd (HR.out.step hb);clear hb;clear hc_b10_0 hc_b10_1))
 go_ret
 exact ⟨rfl,HR.out.bel⟩
set_option maxHeartbeats 32000000 in
set_option maxRecDepth 100000 in
theorem ad_big1 (l : List S60) (os : List ByteArray) (cc : S60) (A_Da : Option Addr) (c_Da : Nat) (A_Db : Option Addr) (c_Db : Nat) (A_Ca : Option Addr) (c_Ca : Nat) (A_Cb : Option Addr) (c_Cb : Nat) (left : Int) (w : World)
  (hl1 : left < 0)
  (hLa : l.length ≤ c_Da)
  (hCa : Kd.C k60 w A_Da l.length l)
  (hLb : os.length ≤ c_Db)
  (hCb : Kd.C Kd.string w A_Db os.length os)
  (hLc : cc.f0.f3.length ≤ c_Ca)
  (hCc : Kd.C k24 w A_Ca cc.f0.f3.length cc.f0.f3)
  (hLd : cc.f1.f3.length ≤ c_Cb)
  (hCd : Kd.C k24 w A_Cb cc.f1.f3.length cc.f1.f3)
  (c15 : ∀ W A c B d,l.length ≤ c → Kd.C k60 W A l.length l → os.length ≤ d → Kd.C Kd.string W B os.length os → Calls Tryd.prog 15 #[.agg #[.slice A l.length c,.slice B os.length d],.int .i64 1048576] W fun e W' => e = .returned (.int .i64 left) ∧ Below W.heap.size W W') :
  Calls Tryd.prog 8 #[.agg #[.slice A_Da l.length c_Da,.slice A_Db os.length c_Db],.agg #[.int .i64 cc.f0.f0,.string cc.f0.f1,.int .i64 cc.f0.f2,.slice A_Ca cc.f0.f3.length c_Ca,.int .i64 cc.f1.f0,.string cc.f1.f1,.int .i64 cc.f1.f2,.slice A_Cb cc.f1.f3.length c_Cb,.string cc.f2]] w fun e w' => e = .returned (.bool true) ∧ Below w.heap.size w w':=by
 have HL_Da:=asd hLa
 have HC_Da:=asd hCa
 have HL_Db:=asd hLb
 have HC_Db:=asd hCb
 have HL_Ca:=asd hLc
 have HC_Ca:=asd hCc
 have HL_Cb:=asd hLd
 have HC_Cb:=asd hCd
 clear hLa hCa hLb hCb hLc hCc hLd hCd
 have cl0 : decide (left < 0) = true:=decide_eq_true hl1
 clear hl1
 have HR:=asd (run_law w)
 go_enter Tryd.func8,Tryd.ntmps8
 go_wp2_with (first
  | ((with_reducible refine gate_dst (N:=2) rfl ?_);refine box_event ?hg2 (N:=2) ?hd2 (cs:=#[.slice A_Da l.length c_Da,.slice A_Db os.length c_Db]) (t:=36) ?hr2 ?_;(case hd2 => rfl);(case hg2 => rfl);(case hr2 => first | (go_simp;done) | (go_simp;rfl));intro g_b2 hg w1 hbox hb;replace HR:=asd (HR.out.box hg hb hbox);clear hg hbox hb)
  | ((with_reducible refine gate_dst (N:=3) rfl ?_);refine box_event ?hg3 (N:=3) ?hd3 (cs:=#[.int .i64 cc.f0.f0,.string cc.f0.f1,.int .i64 cc.f0.f2,.slice A_Ca cc.f0.f3.length c_Ca,.int .i64 cc.f1.f0,.string cc.f1.f1,.int .i64 cc.f1.f2,.slice A_Cb cc.f1.f3.length c_Cb,.string cc.f2]) (t:=60) ?hr3 ?_;(case hd3 => rfl);(case hg3 => rfl);(case hr3 => first | (go_simp;done) | (go_simp;rfl));intro g_b3 hg w2 hbox hb;replace HR:=asd (HR.out.box hg hb hbox);clear hg hbox hb;have hc_b2_0 : w2.cell? ⟨g_b2,0,none⟩ = some (.slice A_Da l.length c_Da):=HR.out.cell 1 rfl 0 rfl;have hc_b2_1 : w2.cell? ⟨g_b2,1,none⟩ = some (.slice A_Db os.length c_Db):=HR.out.cell 1 rfl 1 rfl)
  | (go_at_call 15;with_reducible refine (c15 w2 _ _ _ _ HL_Da.out (Kd.C_below HC_Da.out HR.out.bel) HL_Db.out (Kd.C_below HC_Db.out HR.out.bel)).mono ?_;rintro e w3 ⟨rfl,hb⟩;replace HR:=asd (HR.out.step hb);clear hb;clear hc_b2_0 hc_b2_1;have hc_b3_0 : w3.cell? ⟨g_b3,0,none⟩ = some (.int .i64 cc.f0.f0):=HR.out.cell 0 rfl 0 rfl;have hc_b3_1 : w3.cell? ⟨g_b3,1,none⟩ = some (.string cc.f0.f1):=HR.out.cell 0 rfl 1 rfl;have hc_b3_2 : w3.cell? ⟨g_b3,2,none⟩ = some (.int .i64 cc.f0.f2):=HR.out.cell 0 rfl 2 rfl;have hc_b3_3 : w3.cell? ⟨g_b3,3,none⟩ = some (.slice A_Ca cc.f0.f3.length c_Ca):=HR.out.cell 0 rfl 3 rfl;have hc_b3_4 : w3.cell? ⟨g_b3,4,none⟩ = some (.int .i64 cc.f1.f0):=HR.out.cell 0 rfl 4 rfl;have hc_b3_5 : w3.cell? ⟨g_b3,5,none⟩ = some (.string cc.f1.f1):=HR.out.cell 0 rfl 5 rfl;have hc_b3_6 : w3.cell? ⟨g_b3,6,none⟩ = some (.int .i64 cc.f1.f2):=HR.out.cell 0 rfl 6 rfl;have hc_b3_7 : w3.cell? ⟨g_b3,7,none⟩ = some (.slice A_Cb cc.f1.f3.length c_Cb):=HR.out.cell 0 rfl 7 rfl;have hc_b3_8 : w3.cell? ⟨g_b3,8,none⟩ = some (.string cc.f2):=HR.out.cell 0 rfl 8 rfl))
 go_ret
 exact ⟨rfl,HR.out.bel⟩
set_option maxHeartbeats 32000000 in
set_option maxRecDepth 100000 in
theorem ad_big2 (l : List S60) (os : List ByteArray) (cc : S60) (A_Da : Option Addr) (c_Da : Nat) (A_Db : Option Addr) (c_Db : Nat) (A_Ca : Option Addr) (c_Ca : Nat) (A_Cb : Option Addr) (c_Cb : Nat) (left left2 : Int) (w : World)
  (hl1 : 0 ≤ left)
  (hl2 : left2 < 0)
  (hLa : l.length ≤ c_Da)
  (hCa : Kd.C k60 w A_Da l.length l)
  (hLb : os.length ≤ c_Db)
  (hCb : Kd.C Kd.string w A_Db os.length os)
  (hLc : cc.f0.f3.length ≤ c_Ca)
  (hCc : Kd.C k24 w A_Ca cc.f0.f3.length cc.f0.f3)
  (hLd : cc.f1.f3.length ≤ c_Cb)
  (hCd : Kd.C k24 w A_Cb cc.f1.f3.length cc.f1.f3)
  (c15 : ∀ W A c B d,l.length ≤ c → Kd.C k60 W A l.length l → os.length ≤ d → Kd.C Kd.string W B os.length os → Calls Tryd.prog 15 #[.agg #[.slice A l.length c,.slice B os.length d],.int .i64 1048576] W fun e W' => e = .returned (.int .i64 left) ∧ Below W.heap.size W W')
  (c34 : ∀ W A c B d,cc.f0.f3.length ≤ c → Kd.C k24 W A cc.f0.f3.length cc.f0.f3 → cc.f1.f3.length ≤ d → Kd.C k24 W B cc.f1.f3.length cc.f1.f3 → Calls Tryd.prog 34 #[.agg #[.int .i64 cc.f0.f0,.string cc.f0.f1,.int .i64 cc.f0.f2,.slice A cc.f0.f3.length c,.int .i64 cc.f1.f0,.string cc.f1.f1,.int .i64 cc.f1.f2,.slice B cc.f1.f3.length d,.string cc.f2],.int .i64 left] W fun e W' => e = .returned (.int .i64 left2) ∧ Below W.heap.size W W') :
  Calls Tryd.prog 8 #[.agg #[.slice A_Da l.length c_Da,.slice A_Db os.length c_Db],.agg #[.int .i64 cc.f0.f0,.string cc.f0.f1,.int .i64 cc.f0.f2,.slice A_Ca cc.f0.f3.length c_Ca,.int .i64 cc.f1.f0,.string cc.f1.f1,.int .i64 cc.f1.f2,.slice A_Cb cc.f1.f3.length c_Cb,.string cc.f2]] w fun e w' => e = .returned (.bool true) ∧ Below w.heap.size w w':=by
 have HL_Da:=asd hLa
 have HC_Da:=asd hCa
 have HL_Db:=asd hLb
 have HC_Db:=asd hCb
 have HL_Ca:=asd hLc
 have HC_Ca:=asd hCc
 have HL_Cb:=asd hLd
 have HC_Cb:=asd hCd
 clear hLa hCa hLb hCb hLc hCc hLd hCd
 have cl0 : decide (left < 0) = false:=decide_eq_false (by omega)
 have cl1 : decide (left2 < 0) = true:=decide_eq_true hl2
 clear hl1 hl2
 have HR:=asd (run_law w)
 go_enter Tryd.func8,Tryd.ntmps8
 go_wp2_with (first
  | ((with_reducible refine gate_dst (N:=2) rfl ?_);refine box_event ?hg2 (N:=2) ?hd2 (cs:=#[.slice A_Da l.length c_Da,.slice A_Db os.length c_Db]) (t:=36) ?hr2 ?_;(case hd2 => rfl);(case hg2 => rfl);(case hr2 => first | (go_simp;done) | (go_simp;rfl));intro g_b2 hg w1 hbox hb;replace HR:=asd (HR.out.box hg hb hbox);clear hg hbox hb)
  | ((with_reducible refine gate_dst (N:=3) rfl ?_);refine box_event ?hg3 (N:=3) ?hd3 (cs:=#[.int .i64 cc.f0.f0,.string cc.f0.f1,.int .i64 cc.f0.f2,.slice A_Ca cc.f0.f3.length c_Ca,.int .i64 cc.f1.f0,.string cc.f1.f1,.int .i64 cc.f1.f2,.slice A_Cb cc.f1.f3.length c_Cb,.string cc.f2]) (t:=60) ?hr3 ?_;(case hd3 => rfl);(case hg3 => rfl);(case hr3 => first | (go_simp;done) | (go_simp;rfl));intro g_b3 hg w2 hbox hb;replace HR:=asd (HR.out.box hg hb hbox);clear hg hbox hb;have hc_b2_0 : w2.cell? ⟨g_b2,0,none⟩ = some (.slice A_Da l.length c_Da):=HR.out.cell 1 rfl 0 rfl;have hc_b2_1 : w2.cell? ⟨g_b2,1,none⟩ = some (.slice A_Db os.length c_Db):=HR.out.cell 1 rfl 1 rfl)
  | (go_at_call 15;with_reducible refine (c15 w2 _ _ _ _ HL_Da.out (Kd.C_below HC_Da.out HR.out.bel) HL_Db.out (Kd.C_below HC_Db.out HR.out.bel)).mono ?_;rintro e w3 ⟨rfl,hb⟩;replace HR:=asd (HR.out.step hb);clear hb;clear hc_b2_0 hc_b2_1;have hc_b3_0 : w3.cell? ⟨g_b3,0,none⟩ = some (.int .i64 cc.f0.f0):=HR.out.cell 0 rfl 0 rfl;have hc_b3_1 : w3.cell? ⟨g_b3,1,none⟩ = some (.string cc.f0.f1):=HR.out.cell 0 rfl 1 rfl;have hc_b3_2 : w3.cell? ⟨g_b3,2,none⟩ = some (.int .i64 cc.f0.f2):=HR.out.cell 0 rfl 2 rfl;have hc_b3_3 : w3.cell? ⟨g_b3,3,none⟩ = some (.slice A_Ca cc.f0.f3.length c_Ca):=HR.out.cell 0 rfl 3 rfl;have hc_b3_4 : w3.cell? ⟨g_b3,4,none⟩ = some (.int .i64 cc.f1.f0):=HR.out.cell 0 rfl 4 rfl;have hc_b3_5 : w3.cell? ⟨g_b3,5,none⟩ = some (.string cc.f1.f1):=HR.out.cell 0 rfl 5 rfl;have hc_b3_6 : w3.cell? ⟨g_b3,6,none⟩ = some (.int .i64 cc.f1.f2):=HR.out.cell 0 rfl 6 rfl;have hc_b3_7 : w3.cell? ⟨g_b3,7,none⟩ = some (.slice A_Cb cc.f1.f3.length c_Cb):=HR.out.cell 0 rfl 7 rfl;have hc_b3_8 : w3.cell? ⟨g_b3,8,none⟩ = some (.string cc.f2):=HR.out.cell 0 rfl 8 rfl)
  | (go_at_call 34;with_reducible refine (c34 w3 _ _ _ _ HL_Ca.out (Kd.C_below HC_Ca.out HR.out.bel) HL_Cb.out (Kd.C_below HC_Cb.out HR.out.bel)).mono ?_;rintro e w4 ⟨rfl,hb⟩;replace HR:=asd (HR.out.step hb);clear hb;clear hc_b3_0 hc_b3_1 hc_b3_2 hc_b3_3 hc_b3_4 hc_b3_5 hc_b3_6 hc_b3_7 hc_b3_8))
 go_ret
 exact ⟨rfl,HR.out.bel⟩
end
theorem cns59_wt : ∀ l : List S60,cns59 (l.map toC) ≤ 3 * wtCs l + 7 * l.length
 | [] => by simp [cns59,wtCs]
 | c :: l => by
  have h:=cns59_wt l
  have h1:=cn_wt c.f0
  have h2:=cn_wt c.f1
  rw [List.map_cons,cns59,wtCs,List.length_cons]
  show cn59 (toC c) + _ ≤ _
  have h3 : cn59 (toC c) = 3 * cn29 (to29 c.f0) + 3 * cn29 (to29 c.f1) + 1:=rfl
  have h4 : wtC c = wt24 c.f0 + (wt24 c.f1 + c.f2.size):=rfl
  omega
theorem fine_toC {n : Nat} (z : S60) (hh : htC z ≤ n) (hw : wtC z ≤ 1048576) : fine n (toC z).f0 ∧ fine n (toC z).f1:=by
 unfold htC at hh
 unfold wtC at hw
 have a:=cn_wt z.f0
 have b:=cn_wt z.f1
 exact ⟨⟨by show ht29 (to29 z.f0) ≤ n;rw [ht_to];omega,by show cn29 (to29 z.f0) ≤ _;omega,nm_to n z.f0 (by omega) (by omega)⟩,⟨by show ht29 (to29 z.f1) ≤ n;rw [ht_to];omega,by show cn29 (to29 z.f1) ≤ _;omega,nm_to n z.f1 (by omega) (by omega)⟩⟩
theorem fine_cns {n : Nat} {t : S29} (h : fine n t) : cns29 t.f3 ≤ 1048576 ∧ hts29 t.f3 + 1 ≤ n:=by
 have h1:=h.1
 have h2:=h.2.1
 rw [ht29_eq] at h1
 rw [cn29_eq] at h2
 omega
set_option maxHeartbeats 8000000 in
theorem ad_all (l : List S60) (os : List ByteArray) (A : Option Addr) (c : Nat) (B : Option Addr) (d : Nat) (h b : S24) (s : ByteArray) (A5 : Option Addr) (c5 : Nat) (A6 : Option Addr) (c6 : Nat) (w : World)
  (hC : Kd.C k60 w A l.length l) (hl : l.length ≤ c) (hD : Kd.C Kd.string w B os.length os) (hm : os.length ≤ d) (ho : (∀ x ∈ l,ok60 x) ∧ l.length ≤ 9223372036854775807 ∧ os.length ≤ 9223372036854775807 ∧ ∀ x ∈ os,x.size ≤ 9223372036854775807)
  (hoh : ok24 h) (hob : ok24 b) (hs : s.size ≤ 9223372036854775807) (hl5 : h.f3.length ≤ c5) (hC5 : Kd.C k24 w A5 h.f3.length h.f3) (hl6 : b.f3.length ≤ c6) (hC6 : Kd.C k24 w A6 b.f3.length b.f3) (hT0 : Lib.TabBelow Tryd.prog w.heap.size w "internal/strconv.uint64pow10" .u64 Lib.pow10Tab) :
  Calls Tryd.prog 8 #[.agg #[.slice A l.length c,.slice B os.length d],.agg #[.int .i64 h.f0,.string h.f1,.int .i64 h.f2,.slice A5 h.f3.length c5,.int .i64 b.f0,.string b.f1,.int .i64 b.f2,.slice A6 b.f3.length c6,.string s]] w fun e w' => e = .returned (.bool true) ∧ Below w.heap.size w w':=by
 obtain ⟨ho1,ho2,ho3,ho4⟩:=ho
 obtain ⟨cc,hcc⟩ : ∃ cc : S60,cc = ⟨h,b,s⟩:=⟨_,rfl⟩
 obtain ⟨n,hn⟩ : ∃ n,n = max (htCs l) (htC cc):=⟨_,rfl⟩
 letI:=i_sz n
 letI:=i_eq n
 letI:=i_34 n
 letI:=i_it
 obtain rfl : h = cc.f0:=by rw [hcc]
 obtain rfl : b = cc.f1:=by rw [hcc]
 obtain rfl : s = cc.f2:=by rw [hcc]
 clear hcc
 have hh : ∀ x ∈ l,htC x ≤ n:=fun x hx => by have:=htCs_mem hx;omega
 have hhc : htC cc ≤ n:=by omega
 obtain ⟨k0,hsz⟩:=Ev.rounds (szD_ev n l os ho2 ho3 ho1 ho4 (fun x hx => by have:=hh x hx;omega))
 obtain ⟨left,hleft⟩ : ∃ left,left = szr (l.length + wtCs l + (os.length + wtS os)) 1048576:=⟨_,rfl⟩
 rw [← hleft] at hsz
 have c15 : ∀ W A c B d,l.length ≤ c → Kd.C k60 W A l.length l → os.length ≤ d → Kd.C Kd.string W B os.length os → Calls Tryd.prog 15 #[.agg #[.slice A l.length c,.slice B os.length d],.int .i64 1048576] W fun e W' => e = .returned (.int .i64 left) ∧ Below W.heap.size W W' :=
  fun W A c B d h1 h2 h3 h4 => laws_szDb.calls k0 A c l B d os 1048576 _ W h2 h1 h4 h3 hsz
 by_cases hw : ((l.length + wtCs l + (os.length + wtS os) : Nat) : Int) ≤ 1048576
 case neg => exact ad_big1 l os cc A c B d A5 c5 A6 c6 left w (by rw [hleft,szr_neg hw];decide) hl hC hm hD hl5 hC5 hl6 hC6 c15
 have hlq : left = 1048576 - ((l.length + wtCs l + (os.length + wtS os) : Nat) : Int):=by rw [hleft,szr_pos hw]
 obtain ⟨k7,hsc⟩:=Ev.rounds (szC_ev n cc ⟨hoh,hob,hs⟩ (by omega) left (by omega) (by omega))
 obtain ⟨left2,hleft2⟩ : ∃ left2,left2 = szr (wtC cc) left:=⟨_,rfl⟩
 rw [← hleft2] at hsc
 have c34 : ∀ W A c B d,cc.f0.f3.length ≤ c → Kd.C k24 W A cc.f0.f3.length cc.f0.f3 → cc.f1.f3.length ≤ d → Kd.C k24 W B cc.f1.f3.length cc.f1.f3 → Calls Tryd.prog 34 #[.agg #[.int .i64 cc.f0.f0,.string cc.f0.f1,.int .i64 cc.f0.f2,.slice A cc.f0.f3.length c,.int .i64 cc.f1.f0,.string cc.f1.f1,.int .i64 cc.f1.f2,.slice B cc.f1.f3.length d,.string cc.f2],.int .i64 left] W fun e W' => e = .returned (.int .i64 left2) ∧ Below W.heap.size W W' :=
  fun W A c B d h1 h2 h3 h4 => laws_szClause.calls k7 cc.f0.f0 cc.f0.f1 cc.f0.f2 A c cc.f0.f3 cc.f1.f0 cc.f1.f1 cc.f1.f2 B d cc.f1.f3 cc.f2 left _ W h2 h1 h4 h3 hsc
 by_cases hw2 : ((wtC cc : Nat) : Int) ≤ left
 case neg => exact ad_big2 l os cc A c B d A5 c5 A6 c6 left left2 w (by omega) (by rw [hleft2,szr_neg hw2];decide) hl hC hm hD hl5 hC5 hl6 hC6 c15 c34
 have hlq2 : left2 = left - ((wtC cc : Nat) : Int):=by rw [hleft2,szr_pos hw2]
 have hx : l.length ≤ 1048576:=by omega
 have hxo : os.length ≤ 1048576:=by omega
 have hww : ∀ x ∈ l,wtC x ≤ 1048576:=fun x hx => by have:=wtCs_mem hx;omega
 have hwc : wtC cc ≤ 1048576:=by omega
 obtain ⟨xd,hxd⟩ : ∃ xd,xd = l.map toC:=⟨_,rfl⟩
 obtain ⟨xk,hxk⟩ : ∃ xk,xk = toC cc:=⟨_,rfl⟩
 have hxl : xd.length = l.length:=by rw [hxd,List.length_map]
 have hcs:=cns59_wt l
 rw [← hxd] at hcs
 have hG : ∀ y ∈ xd ++ [xk],fine n y.f0 ∧ fine n y.f1:=fun y hy => by
  rcases List.mem_append.1 hy with hy|hy
  ·rw [hxd] at hy
   obtain ⟨z,hz,rfl⟩:=List.mem_map.1 hy
   exact fine_toC z (hh z hz) (hww z hz)
  ·obtain rfl : y = xk:=by simpa using hy
   rw [hxk]
   exact fine_toC cc hhc hwc
 have hGd : ∀ y ∈ xd,fine n y.f0 ∧ fine n y.f1:=fun y hy => hG y (List.mem_append.2 (.inl hy))
 have hGk : fine n xk.f0 ∧ fine n xk.f1:=hG xk (List.mem_append.2 (.inr (by simp)))
 have hMK : ∀ y : S48,fine n y.f0 ∧ fine n y.f1 → MarkOf mtx y.f0.f3 ∧ MarkOf mtx y.f1.f3:=fun y g => ⟨mark_calls mtx 11 (fun n h0 h1 => mtx_ok n h0 h1) n _ (by have:=(fine_cns g.1).2;omega),mark_calls mtx 11 (fun n h0 h1 => mtx_ok n h0 h1) n _ (by have:=(fine_cns g.2).2;omega)⟩
 have hHD : ∀ y : S48,fine n y.f0 ∧ fine n y.f1 → HeldOf y.f0.f3 ∧ HeldOf y.f1.f3:=fun y g => ⟨held_ev n _ (by have:=(fine_cns g.1).2;omega) (fine_cns g.1).1,held_ev n _ (by have:=(fine_cns g.2).2;omega) (fine_cns g.2).1⟩
 have hCP : ∀ y : S48,fine n y.f0 ∧ fine n y.f1 → CpCl y:=fun y g => cpCl y (cp_all _ (rn_all n _ g.1.1 (fine_cns g.1).1)) (cp_all _ (rn_all n _ g.2.1 (fine_cns g.2).1))
 have hEQ : ∀ y : S48,fine n y.f0 ∧ fine n y.f1 → EqOk y:=fun y g => ⟨Ev.rounds (eq_ev (n + 1) y.f0 (by have:=g.1.1;omega) g.1.2.1),Ev.rounds (eq_ev (n + 1) y.f1 (by have:=g.2.1;omega) g.2.2.1)⟩
 obtain ⟨bo,hbo⟩ : ∃ bo,bo = dbB (xd ++ [xk]) os:=⟨_,rfl⟩
 obtain ⟨xg,hxg⟩ : ∃ xg,xg = if bo = true then xd ++ [xk] else xd:=⟨_,rfl⟩
 have hal : (xd ++ [xk]).length ≤ 1048577:=by rw [List.length_append,List.length_singleton];omega
 have hGg : ∀ y ∈ xg,fine n y.f0 ∧ fine n y.f1:=fun y hy => by
  rw [hxg] at hy
  split at hy
  ·exact hG y hy
  ·exact hGd y hy
 have hgl : xg.length ≤ 1048576:=by
  rw [hxg]
  split
  ·rename_i hb
   rw [hbo] at hb
   unfold dbB at hb
   simp only [Bool.and_eq_true,decide_eq_true_eq] at hb
   omega
  ·omega
 have hk59 : cn59 xk ≤ 6291463:=by
  have h1:=hGk.1.2.1
  have h2:=hGk.2.2.1
  unfold cn59
  omega
 have hgc : cns59 xg ≤ cns59 xd + 6291463:=by
  rw [hxg]
  split
  ·rw [cns59_append,cns59,cns59]
   omega
  ·omega
 obtain ⟨k1,hts⟩:=Ev.rounds (toTexts_ev os hxo)
 obtain ⟨k2,hok⟩ : ∃ k,spec_DbOk.f k (xd ++ [xk]) os = some bo:=by
  refine Ev.rounds (g:=fun k => spec_DbOk.f k (xd ++ [xk]) os) ?_
  rw [hbo]
  exact spec_db_l (xd ++ [xk]) os hal (fun y hy => by
   obtain ⟨g1,g2⟩:=hG y hy
   exact ⟨g1.2.1,g1.2.2,g2.2.1,g2.2.2,(fine_sz g1).1,(fine_sz g1).2⟩) _ 0 (by omega) rfl
 obtain ⟨k3,h34⟩:=Ev.rounds (l34Db_ev n xg os hgl hxo (fun y hy => by
  obtain ⟨g1,g2⟩:=hGg y hy
  exact ⟨(fine_sz g1).1,(fine_sz g1).2,g1.2.1,g2.2.1,g1.1,g2.1⟩))
 obtain ⟨k4,hes⟩ : ∃ k,laws_eqStringS.f k os os = some true:=by
  refine Ev.rounds (g:=fun k => laws_eqStringS.f k os os) ?_
  unfold laws_eqStringS.f
  exact Ev.pos rfl (eqS_l os hxo _ 0 (by omega) rfl)
 have hCl : ∀ (A : Option Addr) (c : Nat) (W : World),Kd.C k60 W A l.length l → l.length ≤ c → Calls Tryd.prog 49 #[.slice A l.length c] W fun e W' => ∃ v,e = .returned v ∧ Kd.S kD59 48 W' W.heap.size (fun _ => True) v xd ∧ Below W.heap.size W W':=fun A c W h1 h2 => by
  rw [hxd]
  exact toCs_calls l hx (fun x hx2 => ⟨(toT_all n).1 x.f0 (by have:=hh x hx2;unfold htC at this;omega) (by have:=hww x hx2;unfold wtC at this;omega),(toT_all n).1 x.f1 (by have:=hh x hx2;unfold htC at this;omega) (by have:=hww x hx2;unfold wtC at this;omega)⟩) A c W h1 h2
 have hkf : xk.f0.f0 = cc.f0.f0 ∧ xk.f0.f1 = cc.f0.f1 ∧ xk.f0.f2 = cc.f0.f2 ∧ xk.f0.f3 = tos29 cc.f0.f3:=by
  rw [hxk]
  show (to29 cc.f0).f0 = _ ∧ (to29 cc.f0).f1 = _ ∧ (to29 cc.f0).f2 = _ ∧ (to29 cc.f0).f3 = _
  rw [to29_eq]
  exact ⟨rfl,rfl,rfl,rfl⟩
 have hkg : xk.f1.f0 = cc.f1.f0 ∧ xk.f1.f1 = cc.f1.f1 ∧ xk.f1.f2 = cc.f1.f2 ∧ xk.f1.f3 = tos29 cc.f1.f3:=by
  rw [hxk]
  show (to29 cc.f1).f0 = _ ∧ (to29 cc.f1).f1 = _ ∧ (to29 cc.f1).f2 = _ ∧ (to29 cc.f1).f3 = _
  rw [to29_eq]
  exact ⟨rfl,rfl,rfl,rfl⟩
 have hks : xk.f2 = cc.f2:=by rw [hxk];rfl
 refine ad_walk l os cc A c B d A5 c5 A6 c6 left left2 (1 + (cns59 xg : Int) + (os.length : Int)) (1 + (cns59 xd : Int) + (os.length : Int)) (1 + (cns59 xd : Int) + (os.length : Int) + 3 * (cns29 xk.f0.f3 : Int) + 3 * (cns29 xk.f1.f3 : Int)) xd xg (mks59 mtx xd 1) (mks59 mtx xg 1) xk bo (mkS mtx os (1 + (cns59 xd : Int))) (mkS mtx os (1 + (cns59 xg : Int)))
  (mks29 mtx xk.f0.f3 (1 + (cns59 xd : Int) + (os.length : Int))) (mks29 mtx xk.f1.f3 (1 + (cns59 xd : Int) + (os.length : Int) + 3 * (cns29 xk.f0.f3 : Int))) w (by omega) (by omega) (by omega) (by omega) hl hC hm hD hl5 hC5 hl6 hC6 c15 c34 ?_ ?_ ?_ ?_ ?_ ?_ ?_ ?_ ?_ ?_ ?_
 ·exact fun W A c B d h1 h2 h3 h4 => toDb_calls l os xd A c B d W h2 h1 h4 h3 hCl (fun A c W q1 q2 => laws_toStringS.calls k1 A c os os W q1 q2 hts)
 ·intro W A c B d h1 h2 h3 h4
  refine (toClause_calls cc.f0 cc.f1 cc.f2 ((toT_all n).1 cc.f0 (by unfold htC at hhc;omega) (by unfold wtC at hwc;omega)) ((toT_all n).1 cc.f1 (by unfold htC at hhc;omega) (by unfold wtC at hwc;omega)) A c B d W h2 h1 h4 h3).mono ?_
  rintro e W' ⟨v1,v2,N,rfl,hS1,hS2,hb⟩
  rw [← hkf.2.2.2] at hS1
  rw [← hkg.2.2.2] at hS2
  obtain ⟨A1,c1,rfl⟩:=Kd.S_slice hS1
  obtain ⟨A2,c2,rfl⟩:=Kd.S_slice hS2
  rw [← hkf.1,← hkf.2.1,← hkf.2.2.1,← hkg.1,← hkg.2.1,← hkg.2.2.1,← hks]
  exact ⟨A1,c1,A2,c2,rfl,⟨fun k => k < N,Kd.S_mono (Kd.S_bound hS1) (fun k hk => ⟨hk.2.1,hk.1⟩),Kd.S_mono (Kd.S_bound hS2) (fun k hk => ⟨hk.2.1,by have:=hk.1;omega⟩)⟩,hb⟩
 ·intro W A c B d A2 c2 B2 d2 h1 h2 h3 h4 g1 g2 g3 g4
  refine spec_ad xd xg os xk A c B d A2 c2 B2 d2 bo W (fun W' hB => ?_) (fun W' A c B d q1 q2 q3 q4 => ?_)
  ·have hokc : ∀ (l : List S48),l = xd ++ [xk] → ∀ (W2 : World) (A : Option Addr) (c : Nat) (B : Option Addr) (d : Nat),Below W'.heap.size W' W2 → Kd.C k48 W2 A l.length l → l.length ≤ c → Kd.C Kd.string W2 B os.length os → os.length ≤ d → Calls Tryd.prog 20 #[.agg #[.slice A l.length c,.slice B os.length d]] W2 fun e W3 => e = .returned (.bool bo) ∧ Below W2.heap.size W2 W3 :=
    fun l hl W2 A c B d _ q1 q2 q3 q4 => spec_DbOk.calls k2 A c l B d os bo W2 q1 q2 q3 q4 (by rw [hl];exact hok)
   rcases Bool.eq_false_or_eq_true bo with hb|hb
   ·rw [hxg,if_pos hb,hb]
    rw [hb] at hokc
    exact raw_ok xd os xk (by omega) hxo A c B d A2 c2 B2 d2 W' (Kd.C_below h2 hB) h1 (Kd.C_below h4 hB) h3 (Kd.C_below g2 hB) g1 (Kd.C_below g4 hB) g3 hokc
   ·rw [hxg,if_neg (by rw [hb];decide),hb]
    rw [hb] at hokc
    exact raw_no xd os xk (by omega) hxo A c B d A2 c2 B2 d2 W' (Kd.C_below h2 hB) h1 (Kd.C_below h4 hB) h3 (Kd.C_below g2 hB) g1 (Kd.C_below g4 hB) g3 hokc
  ·refine (spec_l34Db.calls k3 A c xg B d os xg os W' q1 q2 q3 q4 h34).mono ?_
   rintro e W2 ⟨v1,v2,rfl,r1,r2,hb⟩
   obtain ⟨A1,c1,rfl⟩:=Kd.R_slice r1
   obtain ⟨A2,c2,rfl⟩:=Kd.R_slice r2
   exact ⟨A1,c1,A2,c2,rfl,⟨Kd.R_V (base':=0) (Kd.R_mono (Kd.R_bound r1) (fun k hk => hk.2.1)),Kd.R_V (base':=0) (Kd.R_mono (Kd.R_bound r2) (fun k hk => hk.2.1))⟩,hb⟩
 ·intro W A c B d A2 c2 B2 d2 hB h1 h2 h3 h4 g1 g2 g3 g4
  have hdb : ∀ (A : Option Addr) (c : Nat) (B : Option Addr) (d : Nat) (W2 : World),Below W.heap.size W W2 → Kd.C k48 W2 A (xd ++ [xk]).length (xd ++ [xk]) → (xd ++ [xk]).length ≤ c → Kd.C Kd.string W2 B os.length os → os.length ≤ d → Calls Tryd.prog 21 #[.agg #[.slice A (xd ++ [xk]).length c,.slice B os.length d]] W2 fun e W3 => e = .returned (.bool bo) ∧ Below W2.heap.size W2 W3:=fun A c B d W2 hb2 q1 q2 _ _ => by
   rw [hbo]
   exact dbOk (xd ++ [xk]) os hal hxo (fun y hy => ⟨ok_i (hG y hy).1,ok_i (hG y hy).2,hd_i (hG y hy).1⟩) A c B d W2 (tab_at (tab_at hT0 hB) hb2) q1 q2
  have hq : xd.length ≤ 1048576:=by omega
  rcases Bool.eq_false_or_eq_true bo with hb|hb
  ·rw [hxg,if_pos hb,hb]
   rw [hb] at hdb
   exact added_ok xd os xk hq hxo (fun y hy => hCP y (hGd y hy)) (hCP xk hGk) A c B d A2 c2 B2 d2 W h2 h1 h4 h3 g2 g1 g4 g3 hdb
  ·rw [hxg,if_neg (by rw [hb];decide),hb]
   rw [hb] at hdb
   exact added_no xd os xk hq hxo (fun y hy => hCP y (hGd y hy)) (hCP xk hGk) A c B d A2 c2 B2 d2 W h2 h1 h4 h3 g2 g1 g4 g3 hdb
 ·exact fun W A c B d A2 c2 B2 d2 h1 h2 h3 h4 g1 g2 g3 g4 => eqDb xg os hgl (fun y hy => hEQ y (hGg y hy)) k4 hes A c B d A2 c2 B2 d2 W h2 h1 h4 h3 g2 g1 g4 g3
 ·exact fun W A c B d A2 c2 B2 d2 h1 h2 h3 h4 g1 g2 g3 g4 => eqDb xd os (by omega) (fun y hy => hEQ y (hGd y hy)) k4 hes A c B d A2 c2 B2 d2 W h2 h1 h4 h3 g2 g1 g4 g3
 ·exact fun W A c B d A2 c2 B2 d2 h1 h2 h3 h4 g1 g2 g3 g4 => eqC xk (hEQ xk hGk) A c B d A2 c2 B2 d2 W h2 h1 h4 h3 g2 g1 g4 g3
 ·exact fun W ok A c B d q1 q2 q3 => markDb_calls mtx 11 (fun n h0 h1 => mtx_ok n h0 h1) xd os (fun y hy => hMK y (hGd y hy)) 1 (by omega) (by omega) w W ok A c B d q1 q2 q3
 ·intro W ok A c B d q1 q2 q3
  obtain ⟨p,g1,g2⟩:=q3
  have e1:=(fine_cns hGk.1).1
  have e2:=(fine_cns hGk.2).1
  refine (markClause_calls mtx xk.f0.f3 xk.f1.f3 (hMK xk hGk).1 (hMK xk hGk).2 xk.f0.f0 xk.f0.f1 xk.f0.f2 A c xk.f1.f0 xk.f1.f1 xk.f1.f2 B d xk.f2 (1 + (cns59 xd : Int) + (os.length : Int)) W w.heap.size (fun k => (ok k ∧ p k) ∧ k < W.heap.size) (fun k => ok k ∧ ¬ p k) (by omega) (by omega) q1.size (fun k h h2 => h2.2 h.1.2) (Kd.S_mono (Kd.S_bound g1) (fun k h => ⟨h.1,h.2.2.1⟩)) g2 (fun h => Nat.lt_irrefl _ h.2)).mono ?_
  rintro e W' ⟨rfl,h1,h2,h3,h4⟩
  exact ⟨rfl,⟨p,Kd.S_mono h1 (fun k h => ⟨.inl h.1.1,h.1.2⟩),Kd.S_mono h2 (fun k h => ⟨.inl h.1,h.2⟩)⟩,h3,⟨h4.1,fun k hl hn => h4.2 k hl (fun h => hn (h.elim (fun h => h.1.1) (fun h => h.1)))⟩⟩
 ·exact fun W ok A c B d q1 q2 q3 => markDb_calls mtx 11 (fun n h0 h1 => mtx_ok n h0 h1) xg os (fun y hy => hMK y (hGg y hy)) 1 (by omega) (by omega) w W ok A c B d q1 q2 q3
 ·exact fun W A c B d h1 h2 h3 h4 => heldDb_calls xg os (fun y hy => hHD y (hGg y hy)) 1 (by omega) (by omega) W A c B d h2 h1 h4 h3
end Go.Proofs.YtojedbogbodkiaaDoor.KAd
