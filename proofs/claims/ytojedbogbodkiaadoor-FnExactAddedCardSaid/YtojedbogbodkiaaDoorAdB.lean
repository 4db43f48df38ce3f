/- Of this claim's own making;what nothing names is struck (fewall.py). -/
import Derived.Test.YtojedbogbodkiaaDoorKAdx10
import Derived.Test.YtojedbogbodkiaaDoorAdA
import Derived.Test.YtojedbogbodkiaaDoorKS
set_option linter.unusedVariables false
set_option linter.unusedSimpArgs false
namespace Go.Proofs.YtojedbogbodkiaaDoor.KAd
open Go.RowKit Go.Proofs.YtojedbogbodkiaaDoorW.PrintWords Go.Proofs.YtojedbogbodkiaaDoorW.PrintLast Go.Proofs.YtojedbogbodkiaaDoorW.PrintMore
section
set_option linter.unusedSectionVars false
variable [fk_laws_szTerm] [fk_laws_eqTerm] [fk_spec_l34Term] [fk_strconv_Itoa]
def adb (v : Value) (xs : List S48) (v' : Value) (os : List ByteArray) : As:=As.star (As.row kD59 48 v xs) (As.rrow Kd.string 9 v' os)
theorem rdD {b : Nat} {W : World} {ok : Nat → Prop} {A : Option Addr} {n c : Nat} {xs : List S48} {v' : Value} {os : List ByteArray} (h : (adb (.slice A n c) xs v' os).M b W ok) : n ≤ c ∧ Kd.C k48 W A n xs:=readS59 (as_fst h)
theorem rdO {b : Nat} {W : World} {ok : Nat → Prop} {A : Option Addr} {n c : Nat} {os : List ByteArray} {v : Value} {xs : List S48} (h : (adb v xs (.slice A n c) os).M b W ok) : n ≤ c ∧ Kd.C Kd.string W A n os:=by
 obtain ⟨h1,h2,h3⟩:=Kd.R_reads' (as_snd h)
 rw [h1]
 exact ⟨by omega,h3⟩
def MadeDb (xs : List S48) (os : List ByteArray) (W : World) (e : Ending) (W' : World) : Prop:=∃ A c B d,e = .returned (.agg #[.slice A xs.length c,.slice B os.length d]) ∧ (adb (.slice A xs.length c) xs (.slice B os.length d) os).M W.heap.size W' (fun k => W.heap.size ≤ k) ∧ Below W.heap.size W W'
set_option maxHeartbeats 16000000 in
set_option maxRecDepth 100000 in
theorem toDb_calls (l : List S60) (os : List ByteArray) (xs : List S48) (A : Option Addr) (c : Nat) (B : Option Addr) (d : Nat) (w : World) (hX : Kd.C k60 w A l.length l) (hXC : l.length ≤ c) (hO : Kd.C Kd.string w B os.length os) (hOC : os.length ≤ d)
  (hC : ∀ (A : Option Addr) (c : Nat) (W : World),Kd.C k60 W A l.length l → l.length ≤ c → Calls Tryd.prog 49 #[.slice A l.length c] W fun e W' => ∃ v,e = .returned v ∧ Kd.S kD59 48 W' W.heap.size (fun _ => True) v xs ∧ Below W.heap.size W W')
  (hS : ∀ (A : Option Addr) (c : Nat) (W : World),Kd.C Kd.string W A os.length os → os.length ≤ c → Calls Tryd.prog 50 #[.slice A os.length c] W fun e W' => ∃ v,e = .returned v ∧ Kd.R Kd.string 9 W' W.heap.size (fun _ => True) v os ∧ Below W.heap.size W W') :
  Calls Tryd.prog 17 #[.agg #[.slice A l.length c,.slice B os.length d]] w fun e w' => MadeDb xs os w e w':=by
 have HR:=asd (run_law w)
 have HX:=asd hX
 have HXC:=asd hXC
 have HO:=asd hO
 have HOC:=asd hOC
 have HC:=asd hC
 have HS:=asd hS
 clear hX hXC hO hOC hC hS
 go_enter Tryd.func17,Tryd.ntmps17
 go_wp2_with (first
  | ((with_reducible refine gate_dst (N:=1) rfl ?_);refine box_event ?hg1 (N:=1) ?hd1 (cs:=#[.slice A l.length c,.slice B os.length d]) (t:=36) ?hr1 ?_;(case hd1 => rfl);(case hg1 => rfl);(case hr1 => first | (go_simp;done) | (go_simp;rfl));intro ga hg w1 hbox hb;replace HR:=asd (HR.out.box hg hb hbox);clear hg hbox hb)
  | ((with_reducible refine gate_dst (N:=2) rfl ?_);refine box_event ?hg2 (N:=2) ?hd2 (cs:=#[.slice none 0 0,.slice none 0 0]) (t:=41) ?hr2 ?_;(case hd2 => rfl);(case hg2 => rfl);(case hr2 => first | (go_simp;done) | (go_simp;rfl));intro gr hg w2 hbox hb;replace HR:=asd (HR.out.box hg hb hbox);clear hg hbox hb)
  | ((with_reducible refine gate_dst (N:=3) rfl ?_);refine box_event ?hg3 (N:=3) ?hd3 (cs:=#[.slice none 0 0,.slice none 0 0]) (t:=41) ?hr3 ?_;(case hd3 => rfl);(case hg3 => rfl);(case hr3 => first | (go_simp;done) | (go_simp;rfl));intro go hg w3 hbox hb;replace HR:=asd (HR.out.box hg hb hbox);clear hg hbox hb;have hc3_ga_0 : w3.cell? ⟨ga,0,none⟩ = some (.slice A l.length c):=HR.out.cell 2 rfl 0 rfl;have hc3_ga_1 : w3.cell? ⟨ga,1,none⟩ = some (.slice B os.length d):=HR.out.cell 2 rfl 1 rfl;have hc3_go_0 : w3.cell? ⟨go,0,none⟩ = some (.slice none 0 0):=HR.out.cell 0 rfl 0 rfl;have hc3_go_1 : w3.cell? ⟨go,1,none⟩ = some (.slice none 0 0):=HR.out.cell 0 rfl 1 rfl;have fc3_go_0:=HR.out.free 0 rfl 0;have fc3_go_1:=HR.out.free 0 rfl 1)
  | (go_at_call 49;refine (HC.out A c w3 (Kd.C_below HX.out HR.out.bel) HXC.out).mono ?_;rintro e w4 ⟨v_,rfl,ho,hb⟩;obtain ⟨A1,c1,rfl⟩:=Kd.S_slice ho;replace HR:=asd (HR.out.push (As.row kD59 48 _ xs) hb (as_row ho));clear hb ho;clear hc3_ga_0 hc3_ga_1 hc3_go_0 hc3_go_1 fc3_go_0 fc3_go_1;have hc4_ga_0 : w4.cell? ⟨ga,0,none⟩ = some (.slice A l.length c):=HR.out.cell 3 rfl 0 rfl;have hc4_ga_1 : w4.cell? ⟨ga,1,none⟩ = some (.slice B os.length d):=HR.out.cell 3 rfl 1 rfl;have hc4_go_0 : w4.cell? ⟨go,0,none⟩ = some (.slice none 0 0):=HR.out.cell 1 rfl 0 rfl;have hc4_go_1 : w4.cell? ⟨go,1,none⟩ = some (.slice none 0 0):=HR.out.cell 1 rfl 1 rfl;have fc4_go_0:=HR.out.free 1 rfl 0;have fc4_go_1:=HR.out.free 1 rfl 1)
  | ((with_reducible refine gate_store (t:=39) (p:=7) rfl ?_);refine store_event (t:=39) (p:=7) (v:=?vo5) (w1:=w4.setCell ⟨go,0,none⟩ (.slice A1 xs.length c1)) ?hgs5 ?hos5 ?hns5 ?hrs5 ?_;(case hos5 => rfl);(case hgs5 => rfl);(case hns5 => rfl);(case hrs5 => first | (go_simp;done) | (go_simp;rfl));intro w5 hw;replace HR:=asd (hw ▸ HR.out.set 1 rfl 0 (.slice A1 xs.length c1));clear hw;clear hc4_ga_0 hc4_ga_1 hc4_go_0 hc4_go_1 fc4_go_0 fc4_go_1;have hc5_ga_0 : w5.cell? ⟨ga,0,none⟩ = some (.slice A l.length c):=HR.out.cell 3 rfl 0 rfl;have hc5_ga_1 : w5.cell? ⟨ga,1,none⟩ = some (.slice B os.length d):=HR.out.cell 3 rfl 1 rfl;have hc5_go_0 : w5.cell? ⟨go,0,none⟩ = some (.slice A1 xs.length c1):=HR.out.cell 1 rfl 0 rfl;have hc5_go_1 : w5.cell? ⟨go,1,none⟩ = some (.slice none 0 0):=HR.out.cell 1 rfl 1 rfl;have fc5_go_0:=HR.out.free 1 rfl 0;have fc5_go_1:=HR.out.free 1 rfl 1)
  | (go_at_call 50;refine (HS.out B d w5 (Kd.C_below HO.out HR.out.bel) HOC.out).mono ?_;rintro e w6 ⟨v_,rfl,ho,hb⟩;obtain ⟨B1,d1,rfl⟩:=Kd.R_slice ho;replace HR:=asd (HR.out.push (As.rrow Kd.string 9 _ os) hb (as_rrow ho));clear hb ho;clear hc5_ga_0 hc5_ga_1 hc5_go_0 hc5_go_1 fc5_go_0 fc5_go_1;have hc6_go_0 : w6.cell? ⟨go,0,none⟩ = some (.slice A1 xs.length c1):=HR.out.cell 2 rfl 0 rfl;have hc6_go_1 : w6.cell? ⟨go,1,none⟩ = some (.slice none 0 0):=HR.out.cell 2 rfl 1 rfl;have fc6_go_0:=HR.out.free 2 rfl 0;have fc6_go_1:=HR.out.free 2 rfl 1)
  | ((with_reducible refine gate_store (t:=34) (p:=11) rfl ?_);refine store_event (t:=34) (p:=11) (v:=?vo7) (w1:=w6.setCell ⟨go,1,none⟩ (.slice B1 os.length d1)) ?hgs7 ?hos7 ?hns7 ?hrs7 ?_;(case hos7 => rfl);(case hgs7 => rfl);(case hns7 => rfl);(case hrs7 => first | (go_simp;done) | (go_simp;rfl));intro w7 hw;replace HR:=asd (hw ▸ HR.out.set 2 rfl 1 (.slice B1 os.length d1));clear hw;clear hc6_go_0 hc6_go_1 fc6_go_0 fc6_go_1;have hc7_go_0 : w7.cell? ⟨go,0,none⟩ = some (.slice A1 xs.length c1):=HR.out.cell 2 rfl 0 rfl;have hc7_go_1 : w7.cell? ⟨go,1,none⟩ = some (.slice B1 os.length d1):=HR.out.cell 2 rfl 1 rfl;have hc7_gr_0 : w7.cell? ⟨gr,0,none⟩ = some (.slice none 0 0):=HR.out.cell 3 rfl 0 rfl;have hc7_gr_1 : w7.cell? ⟨gr,1,none⟩ = some (.slice none 0 0):=HR.out.cell 3 rfl 1 rfl;have fc7_gr_0:=HR.out.free 3 rfl 0;have fc7_gr_1:=HR.out.free 3 rfl 1)
  | ((with_reducible refine gate_store (t:=41) (p:=2) rfl ?_);refine store_event (t:=41) (p:=2) (v:=?vo8) (w1:=w7.setCells gr 0 [.slice A1 xs.length c1,.slice B1 os.length d1]) ?hgs8 ?hos8 ?hns8 ?hrs8 ?_;(case hos8 => rfl);(case hgs8 => rfl);(case hns8 => rfl);(case hrs8 => first | (go_simp;done) | (go_simp;rfl));intro w8 hw;replace HR:=asd (hw ▸ HR.out.store 3 rfl [.slice A1 xs.length c1,.slice B1 os.length d1] rfl);clear hw;clear hc7_go_0 hc7_go_1 hc7_gr_0 hc7_gr_1 fc7_gr_0 fc7_gr_1))
 refine bodyPost_ret (results_cell_row rfl _ _ gr 41 #[.slice A1 xs.length c1,.slice B1 os.length d1] (0,0) _ rfl (HR.out.has 3 rfl).2 Tryd.underlying41 rfl (by kernel_rfl)) rfl ?_
 exact ⟨_,_,_,_,rfl,(HR.out.two 1 0 rfl rfl (by decide)).elim fun p h => ⟨p,As.mono _ (fun k hk => ⟨hk.1.elim False.elim id,hk.2⟩) h.1,As.mono _ (fun k hk => ⟨hk.1.elim False.elim id,hk.2⟩) h.2⟩,HR.out.bel⟩
end
section
set_option linter.unusedSectionVars false
variable [fk_laws_szTerm] [fk_laws_eqTerm] [fk_spec_l34Term] [fk_strconv_Itoa]
def MadeT (x : S29) (W : World) (e : Ending) (W' : World) : Prop:=∃ A c,e = .returned (.agg #[.int .i64 x.f0,.string x.f1,.int .i64 x.f2,.slice A x.f3.length c]) ∧ (As.row kD29 29 (.slice A x.f3.length c) x.f3).M W.heap.size W' (fun k => W.heap.size ≤ k) ∧ Below W.heap.size W W'
def RnT (t : S29) : Prop:=∀ (A : Option Addr) (c : Nat) (W : World),Kd.C k29 W A t.f3.length t.f3 → t.f3.length ≤ c → Calls Tryd.prog 104 #[.agg #[.int .i64 t.f0,.string t.f1,.int .i64 t.f2,.slice A t.f3.length c],.func (.func 105) #[] #[]] W fun e W' => MadeT t W e W'
def CpT (t : S29) : Prop:=∀ (A : Option Addr) (c : Nat) (W : World),Kd.C k29 W A t.f3.length t.f3 → t.f3.length ≤ c → Calls Tryd.prog 81 #[.agg #[.int .i64 t.f0,.string t.f1,.int .i64 t.f2,.slice A t.f3.length c]] W fun e W' => MadeT t W e W'
theorem id_calls (a : Int) (w : World) : Calls Tryd.prog 105 #[.int .i64 a] w fun e w' => e = .returned (.int .i64 a) ∧ Below w.heap.size w w':=by
 go_enter Tryd.func105,Tryd.ntmps105
 go_wp2
 go_ret
 exact ⟨rfl,Below.refl _ _⟩
def rn8_T : Bool × List (List Nat × List Nat):=(true,[([],[]),([0],[0]),([],[]),([],[]),([2,3],[2,3]),([4],[4]),([1,5,4],[1,5]),([0,1,2,3,4,5,6],[]),([7,6,6,0,1,2,3,4,5,6],[6,7])])
def rn8_B : List Nat:=[0,1,0,0,12,28,63,127,255]
theorem rn8_tab : rtab .any (opsOf Tryd.f104 8) = rn8_T:=by kernel_rfl
theorem rn8_bits : waitsOk rn8_T.2 rn8_B = true:=by kernel_rfl
set_option maxHeartbeats 16000000 in
set_option maxRecDepth 100000 in
theorem rn_other (t : S29) (hk : (t.f0 == 1) = false) (hlen : t.f3.length ≤ 1048576) (ih : ∀ x ∈ t.f3,RnT x) : RnT t:=by
 intro A c w hC hc
 have HC:=asd hC
 have HCC:=asd hc
 have HL:=asd hlen
 have IH:=asd ih
 have HR:=asd (run_law w)
 clear hC hc hlen ih
 go_enter Tryd.func104,Tryd.ntmps104
 go_wp2_with (first
  | ((with_reducible refine gate_dst (N:=2) rfl ?_);refine box_event ?hg2 (N:=2) ?hd2 (cs:=#[.int .i64 t.f0,.string t.f1,.int .i64 t.f2,.slice A t.f3.length c]) (t:=29) ?hr2 ?_;(case hd2 => rfl);(case hg2 => rfl);(case hr2 => first | (go_simp;done) | (go_simp;rfl));intro ga hg w1 hbox hb;replace HR:=asd (HR.out.box hg hb hbox);clear hg hbox hb)
  | ((with_reducible refine gate_dst (N:=4) rfl ?_);refine box_event ?hg4 (N:=4) ?hd4 (cs:=#[.int .i64 0,.string (⟨#[]⟩ : ByteArray),.int .i64 0,.slice none 0 0]) (t:=29) ?hr4 ?_;(case hd4 => rfl);(case hg4 => rfl);(case hr4 => first | (go_simp;done) | (go_simp;rfl));intro gr hg w2 hbox hb;replace HR:=asd (HR.out.box hg hb hbox);clear hg hbox hb;have hc2_ga_0 : w2.cell? ⟨ga,0,none⟩ = some (.int .i64 t.f0):=HR.out.cell 1 rfl 0 rfl;have hc2_ga_1 : w2.cell? ⟨ga,1,none⟩ = some (.string t.f1):=HR.out.cell 1 rfl 1 rfl;have hc2_ga_2 : w2.cell? ⟨ga,2,none⟩ = some (.int .i64 t.f2):=HR.out.cell 1 rfl 2 rfl;have hc2_ga_3 : w2.cell? ⟨ga,3,none⟩ = some (.slice A t.f3.length c):=HR.out.cell 1 rfl 3 rfl)
  | ((with_reducible refine gate_dst (N:=5) rfl ?_);refine box_event ?hg5 (N:=5) ?hd5 (cs:=#[.int .i64 0,.string (⟨#[]⟩ : ByteArray),.int .i64 0,.slice none 0 0]) (t:=29) ?hr5 ?_;(case hd5 => rfl);(case hg5 => rfl);(case hr5 => first | (go_simp;done) | (go_simp;rfl));intro go hg w3 hbox hb;replace HR:=asd (HR.out.box hg hb hbox);clear hg hbox hb;clear hc2_ga_0 hc2_ga_1 hc2_ga_2 hc2_ga_3;have hc3_ga_0 : w3.cell? ⟨ga,0,none⟩ = some (.int .i64 t.f0):=HR.out.cell 2 rfl 0 rfl;have hc3_ga_1 : w3.cell? ⟨ga,1,none⟩ = some (.string t.f1):=HR.out.cell 2 rfl 1 rfl;have hc3_ga_2 : w3.cell? ⟨ga,2,none⟩ = some (.int .i64 t.f2):=HR.out.cell 2 rfl 2 rfl;have hc3_ga_3 : w3.cell? ⟨ga,3,none⟩ = some (.slice A t.f3.length c):=HR.out.cell 2 rfl 3 rfl;have hc3_go_0 : w3.cell? ⟨go,0,none⟩ = some (.int .i64 0):=HR.out.cell 0 rfl 0 rfl;have hc3_go_1 : w3.cell? ⟨go,1,none⟩ = some (.string (⟨#[]⟩ : ByteArray)):=HR.out.cell 0 rfl 1 rfl;have hc3_go_2 : w3.cell? ⟨go,2,none⟩ = some (.int .i64 0):=HR.out.cell 0 rfl 2 rfl;have hc3_go_3 : w3.cell? ⟨go,3,none⟩ = some (.slice none 0 0):=HR.out.cell 0 rfl 3 rfl;have fc3_go_0:=HR.out.free 0 rfl 0;have fc3_go_1:=HR.out.free 0 rfl 1;have fc3_go_2:=HR.out.free 0 rfl 2;have fc3_go_3:=HR.out.free 0 rfl 3)
  | ((with_reducible refine gate_store (t:=29) (p:=5) rfl ?_);refine store_event (t:=29) (p:=5) (v:=?vo4) (w1:=w3.setCells go 0 [.int .i64 t.f0,.string t.f1,.int .i64 t.f2,.slice A t.f3.length c]) ?hgs4 ?hos4 ?hns4 ?hrs4 ?_;(case hos4 => rfl);(case hgs4 => rfl);(case hns4 => rfl);(case hrs4 => first | (go_simp;done) | (go_simp;rfl));intro w4 hw;replace HR:=asd (hw ▸ HR.out.store 0 rfl [.int .i64 t.f0,.string t.f1,.int .i64 t.f2,.slice A t.f3.length c] rfl);clear hw;clear hc3_ga_0 hc3_ga_1 hc3_ga_2 hc3_ga_3 hc3_go_0 hc3_go_1 hc3_go_2 hc3_go_3 fc3_go_0 fc3_go_1 fc3_go_2 fc3_go_3;have hc4_ga_0 : w4.cell? ⟨ga,0,none⟩ = some (.int .i64 t.f0):=HR.out.cell 2 rfl 0 rfl;have hc4_ga_1 : w4.cell? ⟨ga,1,none⟩ = some (.string t.f1):=HR.out.cell 2 rfl 1 rfl;have hc4_ga_2 : w4.cell? ⟨ga,2,none⟩ = some (.int .i64 t.f2):=HR.out.cell 2 rfl 2 rfl;have hc4_ga_3 : w4.cell? ⟨ga,3,none⟩ = some (.slice A t.f3.length c):=HR.out.cell 2 rfl 3 rfl;have hc4_go_0 : w4.cell? ⟨go,0,none⟩ = some (.int .i64 t.f0):=HR.out.cell 0 rfl 0 rfl;have hc4_go_1 : w4.cell? ⟨go,1,none⟩ = some (.string t.f1):=HR.out.cell 0 rfl 1 rfl;have hc4_go_2 : w4.cell? ⟨go,2,none⟩ = some (.int .i64 t.f2):=HR.out.cell 0 rfl 2 rfl;have hc4_go_3 : w4.cell? ⟨go,3,none⟩ = some (.slice A t.f3.length c):=HR.out.cell 0 rfl 3 rfl;have fc4_go_0:=HR.out.free 0 rfl 0;have fc4_go_1:=HR.out.free 0 rfl 1;have fc4_go_2:=HR.out.free 0 rfl 2;have fc4_go_3:=HR.out.free 0 rfl 3)
  | ((with_reducible refine gate_store (t:=27) (p:=9) rfl ?_);refine store_event (t:=27) (p:=9) (v:=?vo5) (w1:=w4.setCell ⟨go,3,none⟩ (.slice none 0 0)) ?hgs5 ?hos5 ?hns5 ?hrs5 ?_;(case hos5 => rfl);(case hgs5 => rfl);(case hns5 => rfl);(case hrs5 => first | (go_simp;done) | (go_simp;rfl));intro w5 hw;replace HR:=asd (hw ▸ HR.out.set 0 rfl 3 (.slice none 0 0));clear hw;clear hc4_ga_0 hc4_ga_1 hc4_ga_2 hc4_ga_3 hc4_go_0 hc4_go_1 hc4_go_2 hc4_go_3 fc4_go_0 fc4_go_1 fc4_go_2 fc4_go_3;have hc5_ga_0 : w5.cell? ⟨ga,0,none⟩ = some (.int .i64 t.f0):=HR.out.cell 2 rfl 0 rfl;have hc5_ga_1 : w5.cell? ⟨ga,1,none⟩ = some (.string t.f1):=HR.out.cell 2 rfl 1 rfl;have hc5_ga_2 : w5.cell? ⟨ga,2,none⟩ = some (.int .i64 t.f2):=HR.out.cell 2 rfl 2 rfl;have hc5_ga_3 : w5.cell? ⟨ga,3,none⟩ = some (.slice A t.f3.length c):=HR.out.cell 2 rfl 3 rfl;have hc5_go_0 : w5.cell? ⟨go,0,none⟩ = some (.int .i64 t.f0):=HR.out.cell 0 rfl 0 rfl;have hc5_go_1 : w5.cell? ⟨go,1,none⟩ = some (.string t.f1):=HR.out.cell 0 rfl 1 rfl;have hc5_go_2 : w5.cell? ⟨go,2,none⟩ = some (.int .i64 t.f2):=HR.out.cell 0 rfl 2 rfl;have hc5_go_3 : w5.cell? ⟨go,3,none⟩ = some (.slice none 0 0):=HR.out.cell 0 rfl 3 rfl;have fc5_go_0:=HR.out.free 0 rfl 0;have fc5_go_1:=HR.out.free 0 rfl 1;have fc5_go_2:=HR.out.free 0 rfl 2;have fc5_go_3:=HR.out.free 0 rfl 3))
 go_loopg [21] t.f3.length (fun m v21 w' => ∃ (i : Nat) (A_o : Option Addr) (c_o : Nat) (ys : List S29),v21 = .int .i64 i ∧ Aside0 (m + i = t.f3.length) ∧ Aside0 (ys = t.f3.take i) ∧ Aside0 (Run w w (fun _ => False) [As.row kD29 29 (.slice A_o ys.length c_o) ys,As.box go 29 #[.int .i64 t.f0,.string t.f1,.int .i64 t.f2,.slice A_o ys.length c_o],As.box gr 29 #[.int .i64 0,.string (⟨#[]⟩ : ByteArray),.int .i64 0,.slice none 0 0],As.box ga 29 #[.int .i64 t.f0,.string t.f1,.int .i64 t.f2,.slice A t.f3.length c]] w'))
 case atStart => exact ⟨0,none,0,[],rfl,⟨by omega⟩,⟨rfl⟩,⟨HR.out.push (As.row kD29 29 (.slice none 0 0) []) (Below.refl _ _) (Kd.S_nil _ _ _ _ _)⟩⟩
 case round =>
  clear HR hc5_ga_0 hc5_ga_1 hc5_ga_2 hc5_ga_3 hc5_go_0 hc5_go_1 hc5_go_2 hc5_go_3 fc5_go_0 fc5_go_1 fc5_go_2 fc5_go_3
  obtain ⟨i,A_o,c_o,ys,rfl,hi,HYS,HR⟩:=hrel
  by_cases hlt : (i : Int) < (t.f3.length : Int)
  ·have c3b0 : decide ((i : Int) < (t.f3.length : Int)) = true:=decide_eq_true hlt
   have hlt' : i < t.f3.length:=by omega
   have c3b1 : decide (i < t.f3.length) = true:=decide_eq_true hlt'
   obtain ⟨ad,A3,c3,e1,hx0,hx1,hx2,hx3,hl3,hi3⟩:=at_T29 HC.out (i : Int) (by omega) hlt
   cases e1
   obtain ⟨x,hx⟩ : ∃ x,x = t.f3[i]:=⟨_,rfl⟩
   rw [rd29_at _ i hlt',← hx] at hx0 hx1 hx2 hx3 hl3 hi3
   simp only [Int.toNat_natCast] at hx0 hx1 hx2 hx3
   have HX:=asd (show x ∈ t.f3 by rw [hx];exact List.getElem_mem hlt')
   have HT:=asd (show t.f3.take (i + 1) = ys ++ [x] by rw [hx,HYS.out];exact List.take_succ_eq_append_getElem hlt')
   have HI3:=asd hi3
   have HL3:=asd hl3
   clear hi3 hl3 hx
   replace hx0:=(HR.out.bel.cell (World.block_lt_of_cell? w _ hx0)).trans hx0
   replace hx1:=(HR.out.bel.cell (World.block_lt_of_cell? w _ hx1)).trans hx1
   replace hx2:=(HR.out.bel.cell (World.block_lt_of_cell? w _ hx2)).trans hx2
   replace hx3:=(HR.out.bel.cell (World.block_lt_of_cell? w _ hx3)).trans hx3
   go_wp2_with (first
    | ((with_reducible refine gate_dst (N:=7) rfl ?_);refine box_event ?hg7 (N:=7) ?hd7 (cs:=#[.int .i64 0,.string (⟨#[]⟩ : ByteArray),.int .i64 0,.slice none 0 0]) (t:=29) ?hr7 ?_;(case hd7 => rfl);(case hg7 => rfl);(case hr7 => first | (go_simp;done) | (go_simp;rfl));intro gk hg w16 hbox hb;replace HR:=asd (HR.out.box hg hb hbox);clear hg hbox hb;have hc6_gk_0 : w16.cell? ⟨gk,0,none⟩ = some (.int .i64 0):=HR.out.cell 0 rfl 0 rfl;have hc6_gk_1 : w16.cell? ⟨gk,1,none⟩ = some (.string (⟨#[]⟩ : ByteArray)):=HR.out.cell 0 rfl 1 rfl;have hc6_gk_2 : w16.cell? ⟨gk,2,none⟩ = some (.int .i64 0):=HR.out.cell 0 rfl 2 rfl;have hc6_gk_3 : w16.cell? ⟨gk,3,none⟩ = some (.slice none 0 0):=HR.out.cell 0 rfl 3 rfl;have fc6_gk_0:=HR.out.free 0 rfl 0;have fc6_gk_1:=HR.out.free 0 rfl 1;have fc6_gk_2:=HR.out.free 0 rfl 2;have fc6_gk_3:=HR.out.free 0 rfl 3)
    | ((with_reducible refine gate_store (t:=29) (p:=7) rfl ?_);refine store_event (t:=29) (p:=7) (v:=?vo17) (w1:=w16.setCells gk 0 [.int .i64 x.f0,.string x.f1,.int .i64 x.f2,.slice A3 x.f3.length c3]) ?hgs17 ?hos17 ?hns17 ?hrs17 ?_;(case hos17 => rfl);(case hgs17 => rfl);(case hns17 => rfl);(case hrs17 => first | (go_simp;done) | (go_simp;rfl));intro w17 hw;replace HR:=asd (hw ▸ HR.out.store 0 rfl [.int .i64 x.f0,.string x.f1,.int .i64 x.f2,.slice A3 x.f3.length c3] rfl);clear hw;clear hc6_gk_0 hc6_gk_1 hc6_gk_2 hc6_gk_3 fc6_gk_0 fc6_gk_1 fc6_gk_2 fc6_gk_3;have hc7_gk_0 : w17.cell? ⟨gk,0,none⟩ = some (.int .i64 x.f0):=HR.out.cell 0 rfl 0 rfl;have hc7_gk_1 : w17.cell? ⟨gk,1,none⟩ = some (.string x.f1):=HR.out.cell 0 rfl 1 rfl;have hc7_gk_2 : w17.cell? ⟨gk,2,none⟩ = some (.int .i64 x.f2):=HR.out.cell 0 rfl 2 rfl;have hc7_gk_3 : w17.cell? ⟨gk,3,none⟩ = some (.slice A3 x.f3.length c3):=HR.out.cell 0 rfl 3 rfl;have hc7_go_0 : w17.cell? ⟨go,0,none⟩ = some (.int .i64 t.f0):=HR.out.cell 2 rfl 0 rfl;have hc7_go_1 : w17.cell? ⟨go,1,none⟩ = some (.string t.f1):=HR.out.cell 2 rfl 1 rfl;have hc7_go_2 : w17.cell? ⟨go,2,none⟩ = some (.int .i64 t.f2):=HR.out.cell 2 rfl 2 rfl;have hc7_go_3 : w17.cell? ⟨go,3,none⟩ = some (.slice A_o ys.length c_o):=HR.out.cell 2 rfl 3 rfl))
   replace HR:=asd (HR.out.drew)
   clear hc7_gk_0 hc7_gk_1 hc7_gk_2 hc7_gk_3 hc7_go_0 hc7_go_1 hc7_go_2 hc7_go_3
   refine start_ (n:=9) (S:=fun w' => w'.cell? ⟨go,0,none⟩ = some (.int .i64 t.f0) ∧ w'.cell? ⟨go,1,none⟩ = some (.string t.f1) ∧ w'.cell? ⟨go,2,none⟩ = some (.int .i64 t.f2) ∧ w'.cell? ⟨go,3,none⟩ = some (.slice A_o ys.length c_o) ∧ w'.cell? ⟨gk,0,none⟩ = some (.int .i64 x.f0) ∧ w'.cell? ⟨gk,1,none⟩ = some (.string x.f1) ∧ w'.cell? ⟨gk,2,none⟩ = some (.int .i64 x.f2) ∧ w'.cell? ⟨gk,3,none⟩ = some (.slice A3 x.f3.length c3)) (ds:=[8]) #[false,false,false,false,false,false,false,false,false] (by kernel_rfl) rfl rfl ⟨HR.out.cell 2 rfl 0 rfl,HR.out.cell 2 rfl 1 rfl,HR.out.cell 2 rfl 2 rfl,HR.out.cell 2 rfl 3 rfl,HR.out.cell 0 rfl 0 rfl,HR.out.cell 0 rfl 1 rfl,HR.out.cell 0 rfl 2 rfl,HR.out.cell 0 rfl 3 rfl⟩ (fun hHeld => ?_);refine with_tabW rn8_tab rn8_bits (fun HT_ HW_ => ?_)
   generalize w17.drew = w18 at HR hHeld ⊢
   refine pure_ (i:=0) (N:=some 25) (v:=?_) (a':=?_) #[true,false,false,false,false,false,false,false,false] rfl rfl (any_of HT_.out (by kernel_rfl)) (fun _ _ _ h => h) (Or.inl ⟨by rfl,?_⟩) ?_ ?_
   rotate_left
   ·intro w'
    go_simp
    with_reducible rfl
   rotate_left
   ·simp only [Act.put,List.setIfInBounds_toArray,List.set_cons_zero,List.set_cons_succ,i64_w,i32_w]
    rfl
   refine pure_ (i:=3) (N:=some 28) (v:=?_) (a':=?_) #[true,false,false,true,false,false,false,false,false] rfl rfl (any_of HT_.out (by kernel_rfl)) (fun _ _ _ h => h) (Or.inl ⟨by rfl,?_⟩) ?_ ?_
   rotate_left
   ·intro w'
    go_simp
    with_reducible rfl
   rotate_left
   ·simp only [Act.put,List.setIfInBounds_toArray,List.set_cons_zero,List.set_cons_succ,i64_w,i32_w]
    rfl
   refine take_ (i:=1) (N:=some 26) (v:=?_) (a':=?_) #[true,true,false,true,false,false,false,false,false] rfl rfl (take_ofW HT_.out HW_.out (by kernel_rfl)) (fun _ _ _ h => h) (Or.inl ⟨by rfl,?_⟩) hHeld ?_ ?_
   rotate_left
   ·rintro w' ⟨s0,s1,s2,s3,s4,s5,s6,s7⟩
    go_simp
    with_reducible rfl
   rotate_left
   ·simp only [Act.put,List.setIfInBounds_toArray,List.set_cons_zero,List.set_cons_succ,i64_w,i32_w]
    rfl
   refine take_ (i:=2) (N:=some 27) (v:=?_) (a':=?_) #[true,true,true,true,false,false,false,false,false] rfl rfl (take_ofW HT_.out HW_.out (by kernel_rfl)) (fun _ _ _ h => h) (Or.inl ⟨by rfl,?_⟩) hHeld ?_ ?_
   rotate_left
   ·rintro w' ⟨s0,s1,s2,s3,s4,s5,s6,s7⟩
    go_simp
    with_reducible rfl
   rotate_left
   ·simp only [Act.put,List.setIfInBounds_toArray,List.set_cons_zero,List.set_cons_succ,i64_w,i32_w]
    rfl
   refine one_ (i:=4) (N:=some 29) #[true,true,true,true,true,false,false,false,false] rfl rfl (one_of HT_.out (by kernel_rfl)) (by decide) (fun K hK => ?_)
   refine goes_ Tryd.func104 (by kernel_rfl) rfl #[.agg #[.int .i64 x.f0,.string x.f1,.int .i64 x.f2,.slice A3 x.f3.length c3],.func (.func 105) #[] #[]] (by rfl) rfl rfl (by (try simp only [List.map_toArray,List.map_cons,List.map_nil]);first|done|rfl) ?_
   refine (IH.out x HX.out A3 c3 w18 (Kd.C_below HI3.out HR.out.bel) HL3.out).mono ?_
   rintro e w19 ⟨A4,c4,rfl,ho,hb⟩
   refine ⟨_,rfl,?_⟩
   replace HR:=asd (HR.out.push _ hb ho)
   clear ho hb
   refine hK.out _ _ ⟨HR.out.cell 3 rfl 0 rfl,HR.out.cell 3 rfl 1 rfl,HR.out.cell 3 rfl 2 rfl,HR.out.cell 3 rfl 3 rfl,HR.out.cell 1 rfl 0 rfl,HR.out.cell 1 rfl 1 rfl,HR.out.cell 1 rfl 2 rfl,HR.out.cell 1 rfl 3 rfl⟩ (fun hHeld => ?_)
   clear hK K
   refine norm_ (a':=?_) ?_ ?_
   rotate_left
   ·show Act.put _ (some 29) _ = _
    simp only [Act.put,List.setIfInBounds_toArray,List.set_cons_zero,List.set_cons_succ,i64_w,i32_w]
    rfl
   refine one_ (i:=5) (N:=some 30) #[true,true,true,true,true,true,false,false,false] rfl rfl (one_of HT_.out (by kernel_rfl)) (by decide) (fun K hK => ?_)
   refine value_ (w1:=?_) (v:=?_) (by rfl) rfl ?_ ?_
   rotate_left 2
   ·go_simp
    constructor
    ·rfl
    ·rfl
   refine hK.out _ _ ⟨(blk_cell (blk_alloc (HR.out.has 3 rfl).2 _) 0).trans rfl,(blk_cell (blk_alloc (HR.out.has 3 rfl).2 _) 1).trans rfl,(blk_cell (blk_alloc (HR.out.has 3 rfl).2 _) 2).trans rfl,(blk_cell (blk_alloc (HR.out.has 3 rfl).2 _) 3).trans rfl,(blk_cell (blk_alloc (HR.out.has 1 rfl).2 _) 0).trans rfl,(blk_cell (blk_alloc (HR.out.has 1 rfl).2 _) 1).trans rfl,(blk_cell (blk_alloc (HR.out.has 1 rfl).2 _) 2).trans rfl,(blk_cell (blk_alloc (HR.out.has 1 rfl).2 _) 3).trans rfl⟩ (fun hHeld => ?_)
   clear hK K
   refine norm_ (a':=?_) ?_ ?_
   rotate_left
   ·show Act.put _ (some 30) _ = _
    simp only [Act.put,List.setIfInBounds_toArray,List.set_cons_zero,List.set_cons_succ,i64_w,i32_w]
    rfl
   refine one_ (i:=6) (N:=some 31) #[true,true,true,true,true,true,true,false,false] rfl rfl (one_of HT_.out (by kernel_rfl)) (by decide) (fun K hK => ?_)
   refine HR.out.appStep 2 0 kD29 rfl rfl (by decide) x [.int .i64 x.f0,.string x.f1,.int .i64 x.f2,.slice A4 x.f3.length c4] (fun okj hj_ => kD29_mkM _ _ _ x hj_) (by rfl) (.tmp 26) (.tmp 30) 27 (.agg #[(.int .i64 0),(.string ⟨#[]⟩),(.int .i64 0),(.slice none 0 0)]) 56 rfl Tryd.underlying27 info29 rfl (by decide) (by omega) rfl rfl (by have h1_:=HL.out;have h2_ : ys.length ≤ t.f3.length:=(by rw [HYS.out,List.length_take];omega);omega) ?_
   intro v_ w20 hq_
   obtain ⟨l_n,hz_⟩ : ∃ z_,z_ = (ys ++ [x]):=⟨_,rfl⟩
   rw [← hz_] at hq_
   have HZ_n:=asd hz_
   clear hz_
   obtain ⟨A_n,c_n,rfl⟩:=Kd.S_slice (hq_.has 2 rfl)
   clear HR
   have HR:=asd hq_
   clear hq_
   refine hK.out _ _ ⟨HR.out.cell 3 rfl 0 rfl,HR.out.cell 3 rfl 1 rfl,HR.out.cell 3 rfl 2 rfl,HR.out.cell 3 rfl 3 rfl,HR.out.cell 1 rfl 0 rfl,HR.out.cell 1 rfl 1 rfl,HR.out.cell 1 rfl 2 rfl,HR.out.cell 1 rfl 3 rfl⟩ (fun hHeld => ?_)
   clear hK K
   refine norm_ (a':=?_) ?_ ?_
   rotate_left
   ·show Act.put _ (some 31) _ = _
    simp only [Act.put,List.setIfInBounds_toArray,List.set_cons_zero,List.set_cons_succ,i64_w,i32_w]
    rfl
   refine pure_ (i:=7) (N:=some 32) (v:=?_) (a':=?_) #[true,true,true,true,true,true,true,true,false] rfl rfl (any_of HT_.out (by kernel_rfl)) (fun _ _ _ h => h) (Or.inl ⟨by rfl,?_⟩) ?_ ?_
   rotate_left
   ·intro w'
    go_simp
    with_reducible rfl
   rotate_left
   ·simp only [Act.put,List.setIfInBounds_toArray,List.set_cons_zero,List.set_cons_succ,i64_w,i32_w]
    rfl
   refine last_ (i:=8) (N:=none) #[true,true,true,true,true,true,true,true,true] rfl rfl (one_of HT_.out (by kernel_rfl)) (by decide) (fun K hK => ?_)
   have hz0_ : w20.cell? ⟨go,0,none⟩ = some (.int .i64 t.f0):=HR.out.cell 3 rfl 0 rfl
   have fz0_:=HR.out.free 3 rfl 0
   have hz1_ : w20.cell? ⟨go,1,none⟩ = some (.string t.f1):=HR.out.cell 3 rfl 1 rfl
   have fz1_:=HR.out.free 3 rfl 1
   have hz2_ : w20.cell? ⟨go,2,none⟩ = some (.int .i64 t.f2):=HR.out.cell 3 rfl 2 rfl
   have fz2_:=HR.out.free 3 rfl 2
   have hz3_ : w20.cell? ⟨go,3,none⟩ = some (.slice A_o ys.length c_o):=HR.out.cell 3 rfl 3 rfl
   have fz3_:=HR.out.free 3 rfl 3
   refine skip_ (w1:=w20.setCell ⟨go,3,none⟩ (.slice A_n l_n.length c_n)) (by rfl) rfl ?_ ?_
   ·first|(go_simp;done)|(go_simp;rfl)
   refine hK.out _ _ ?_
   clear hK K hz0_ fz0_ hz1_ fz1_ hz2_ fz2_ hz3_ fz3_
   replace HR:=asd (HR.out.set 3 rfl 3 (.slice A_n l_n.length c_n))
   generalize w20.setCell ⟨go,3,none⟩ (.slice A_n l_n.length c_n) = w21 at HR ⊢
   refine done_ (done_of HT_.out (by kernel_rfl)) ?_
   try go_wp2
   go_roundg (t.f3.length - (i + 1))
   case measure => have:=hi.out;omega
   case rel => exact ⟨i + 1,A_n,c_n,l_n,by rw [next_i i _ hlt' HL.out],⟨by have:=hi.out;omega⟩,⟨HZ_n.out.trans HT.out.symm⟩,⟨HR.out.pick [2,3,4,5] (by decide)⟩⟩
  ·have c3b0 : decide ((i : Int) < (t.f3.length : Int)) = false:=decide_eq_false hlt
   have c3b1 : decide (i < t.f3.length) = false:=decide_eq_false (by omega)
   have he : ys = t.f3:=HYS.out.trans (List.take_of_length_le (by omega))
   rw [he] at HR
   clear he
   have hc8_go_0 : wr.cell? ⟨go,0,none⟩ = some (.int .i64 t.f0):=HR.out.cell 1 rfl 0 rfl
   have hc8_go_1 : wr.cell? ⟨go,1,none⟩ = some (.string t.f1):=HR.out.cell 1 rfl 1 rfl
   have hc8_go_2 : wr.cell? ⟨go,2,none⟩ = some (.int .i64 t.f2):=HR.out.cell 1 rfl 2 rfl
   have hc8_go_3 : wr.cell? ⟨go,3,none⟩ = some (.slice A_o t.f3.length c_o):=HR.out.cell 1 rfl 3 rfl
   have hc8_gr_0 : wr.cell? ⟨gr,0,none⟩ = some (.int .i64 0):=HR.out.cell 2 rfl 0 rfl
   have hc8_gr_1 : wr.cell? ⟨gr,1,none⟩ = some (.string (⟨#[]⟩ : ByteArray)):=HR.out.cell 2 rfl 1 rfl
   have hc8_gr_2 : wr.cell? ⟨gr,2,none⟩ = some (.int .i64 0):=HR.out.cell 2 rfl 2 rfl
   have hc8_gr_3 : wr.cell? ⟨gr,3,none⟩ = some (.slice none 0 0):=HR.out.cell 2 rfl 3 rfl
   have fc8_gr_0:=HR.out.free 2 rfl 0
   have fc8_gr_1:=HR.out.free 2 rfl 1
   have fc8_gr_2:=HR.out.free 2 rfl 2
   have fc8_gr_3:=HR.out.free 2 rfl 3
   go_wp2_with (first
    | ((with_reducible refine gate_store (t:=29) (p:=4) rfl ?_);refine store_event (t:=29) (p:=4) (v:=?vo32) (w1:=wr.setCells gr 0 [.int .i64 t.f0,.string t.f1,.int .i64 t.f2,.slice A_o t.f3.length c_o]) ?hgs32 ?hos32 ?hns32 ?hrs32 ?_;(case hos32 => rfl);(case hgs32 => rfl);(case hns32 => rfl);(case hrs32 => first | (go_simp;done) | (go_simp;rfl));intro w32 hw;replace HR:=asd (hw ▸ HR.out.store 2 rfl [.int .i64 t.f0,.string t.f1,.int .i64 t.f2,.slice A_o t.f3.length c_o] rfl);clear hw;clear hc8_go_0 hc8_go_1 hc8_go_2 hc8_go_3 hc8_gr_0 hc8_gr_1 hc8_gr_2 hc8_gr_3 fc8_gr_0 fc8_gr_1 fc8_gr_2 fc8_gr_3))
   refine bodyPost_ret (results_cell_row rfl _ _ gr 29 #[.int .i64 t.f0,.string t.f1,.int .i64 t.f2,.slice A_o t.f3.length c_o] (0,0) _ rfl (HR.out.has 2 rfl).2 Tryd.underlying29 rfl (by kernel_rfl)) rfl ?_
   exact ⟨_,_,rfl,As.mono _ (fun k hk => hk.elim False.elim id) (HR.out.one 0 rfl),HR.out.bel⟩
set_option maxHeartbeats 16000000 in
set_option maxRecDepth 100000 in
theorem rn_var (t : S29) (hk : (t.f0 == 1) = true) (hlen : t.f3.length ≤ 1048576) (ih : ∀ x ∈ t.f3,RnT x) : RnT t:=by
 intro A c w hC hc
 have HC:=asd hC
 have HCC:=asd hc
 have HL:=asd hlen
 have IH:=asd ih
 have HR:=asd (run_law w)
 clear hC hc hlen ih
 go_enter Tryd.func104,Tryd.ntmps104
 go_wp2_with (first
  | ((with_reducible refine gate_dst (N:=2) rfl ?_);refine box_event ?hg2 (N:=2) ?hd2 (cs:=#[.int .i64 t.f0,.string t.f1,.int .i64 t.f2,.slice A t.f3.length c]) (t:=29) ?hr2 ?_;(case hd2 => rfl);(case hg2 => rfl);(case hr2 => first | (go_simp;done) | (go_simp;rfl));intro ga hg w1 hbox hb;replace HR:=asd (HR.out.box hg hb hbox);clear hg hbox hb)
  | ((with_reducible refine gate_dst (N:=4) rfl ?_);refine box_event ?hg4 (N:=4) ?hd4 (cs:=#[.int .i64 0,.string (⟨#[]⟩ : ByteArray),.int .i64 0,.slice none 0 0]) (t:=29) ?hr4 ?_;(case hd4 => rfl);(case hg4 => rfl);(case hr4 => first | (go_simp;done) | (go_simp;rfl));intro gr hg w2 hbox hb;replace HR:=asd (HR.out.box hg hb hbox);clear hg hbox hb;have hc2_ga_0 : w2.cell? ⟨ga,0,none⟩ = some (.int .i64 t.f0):=HR.out.cell 1 rfl 0 rfl;have hc2_ga_1 : w2.cell? ⟨ga,1,none⟩ = some (.string t.f1):=HR.out.cell 1 rfl 1 rfl;have hc2_ga_2 : w2.cell? ⟨ga,2,none⟩ = some (.int .i64 t.f2):=HR.out.cell 1 rfl 2 rfl;have hc2_ga_3 : w2.cell? ⟨ga,3,none⟩ = some (.slice A t.f3.length c):=HR.out.cell 1 rfl 3 rfl)
  | ((with_reducible refine gate_dst (N:=5) rfl ?_);refine box_event ?hg5 (N:=5) ?hd5 (cs:=#[.int .i64 0,.string (⟨#[]⟩ : ByteArray),.int .i64 0,.slice none 0 0]) (t:=29) ?hr5 ?_;(case hd5 => rfl);(case hg5 => rfl);(case hr5 => first | (go_simp;done) | (go_simp;rfl));intro go hg w3 hbox hb;replace HR:=asd (HR.out.box hg hb hbox);clear hg hbox hb;clear hc2_ga_0 hc2_ga_1 hc2_ga_2 hc2_ga_3;have hc3_ga_0 : w3.cell? ⟨ga,0,none⟩ = some (.int .i64 t.f0):=HR.out.cell 2 rfl 0 rfl;have hc3_ga_1 : w3.cell? ⟨ga,1,none⟩ = some (.string t.f1):=HR.out.cell 2 rfl 1 rfl;have hc3_ga_2 : w3.cell? ⟨ga,2,none⟩ = some (.int .i64 t.f2):=HR.out.cell 2 rfl 2 rfl;have hc3_ga_3 : w3.cell? ⟨ga,3,none⟩ = some (.slice A t.f3.length c):=HR.out.cell 2 rfl 3 rfl;have hc3_go_0 : w3.cell? ⟨go,0,none⟩ = some (.int .i64 0):=HR.out.cell 0 rfl 0 rfl;have hc3_go_1 : w3.cell? ⟨go,1,none⟩ = some (.string (⟨#[]⟩ : ByteArray)):=HR.out.cell 0 rfl 1 rfl;have hc3_go_2 : w3.cell? ⟨go,2,none⟩ = some (.int .i64 0):=HR.out.cell 0 rfl 2 rfl;have hc3_go_3 : w3.cell? ⟨go,3,none⟩ = some (.slice none 0 0):=HR.out.cell 0 rfl 3 rfl;have fc3_go_0:=HR.out.free 0 rfl 0;have fc3_go_1:=HR.out.free 0 rfl 1;have fc3_go_2:=HR.out.free 0 rfl 2;have fc3_go_3:=HR.out.free 0 rfl 3)
  | ((with_reducible refine gate_store (t:=29) (p:=5) rfl ?_);refine store_event (t:=29) (p:=5) (v:=?vo4) (w1:=w3.setCells go 0 [.int .i64 t.f0,.string t.f1,.int .i64 t.f2,.slice A t.f3.length c]) ?hgs4 ?hos4 ?hns4 ?hrs4 ?_;(case hos4 => rfl);(case hgs4 => rfl);(case hns4 => rfl);(case hrs4 => first | (go_simp;done) | (go_simp;rfl));intro w4 hw;replace HR:=asd (hw ▸ HR.out.store 0 rfl [.int .i64 t.f0,.string t.f1,.int .i64 t.f2,.slice A t.f3.length c] rfl);clear hw;clear hc3_ga_0 hc3_ga_1 hc3_ga_2 hc3_ga_3 hc3_go_0 hc3_go_1 hc3_go_2 hc3_go_3 fc3_go_0 fc3_go_1 fc3_go_2 fc3_go_3;have hc4_ga_0 : w4.cell? ⟨ga,0,none⟩ = some (.int .i64 t.f0):=HR.out.cell 2 rfl 0 rfl;have hc4_ga_1 : w4.cell? ⟨ga,1,none⟩ = some (.string t.f1):=HR.out.cell 2 rfl 1 rfl;have hc4_ga_2 : w4.cell? ⟨ga,2,none⟩ = some (.int .i64 t.f2):=HR.out.cell 2 rfl 2 rfl;have hc4_ga_3 : w4.cell? ⟨ga,3,none⟩ = some (.slice A t.f3.length c):=HR.out.cell 2 rfl 3 rfl;have hc4_go_0 : w4.cell? ⟨go,0,none⟩ = some (.int .i64 t.f0):=HR.out.cell 0 rfl 0 rfl;have hc4_go_1 : w4.cell? ⟨go,1,none⟩ = some (.string t.f1):=HR.out.cell 0 rfl 1 rfl;have hc4_go_2 : w4.cell? ⟨go,2,none⟩ = some (.int .i64 t.f2):=HR.out.cell 0 rfl 2 rfl;have hc4_go_3 : w4.cell? ⟨go,3,none⟩ = some (.slice A t.f3.length c):=HR.out.cell 0 rfl 3 rfl;have fc4_go_0:=HR.out.free 0 rfl 0;have fc4_go_1:=HR.out.free 0 rfl 1;have fc4_go_2:=HR.out.free 0 rfl 2;have fc4_go_3:=HR.out.free 0 rfl 3)
  | ((with_reducible refine gate_store (t:=27) (p:=9) rfl ?_);refine store_event (t:=27) (p:=9) (v:=?vo5) (w1:=w4.setCell ⟨go,3,none⟩ (.slice none 0 0)) ?hgs5 ?hos5 ?hns5 ?hrs5 ?_;(case hos5 => rfl);(case hgs5 => rfl);(case hns5 => rfl);(case hrs5 => first | (go_simp;done) | (go_simp;rfl));intro w5 hw;replace HR:=asd (hw ▸ HR.out.set 0 rfl 3 (.slice none 0 0));clear hw;clear hc4_ga_0 hc4_ga_1 hc4_ga_2 hc4_ga_3 hc4_go_0 hc4_go_1 hc4_go_2 hc4_go_3 fc4_go_0 fc4_go_1 fc4_go_2 fc4_go_3;have hc5_ga_0 : w5.cell? ⟨ga,0,none⟩ = some (.int .i64 t.f0):=HR.out.cell 2 rfl 0 rfl;have hc5_ga_1 : w5.cell? ⟨ga,1,none⟩ = some (.string t.f1):=HR.out.cell 2 rfl 1 rfl;have hc5_ga_2 : w5.cell? ⟨ga,2,none⟩ = some (.int .i64 t.f2):=HR.out.cell 2 rfl 2 rfl;have hc5_ga_3 : w5.cell? ⟨ga,3,none⟩ = some (.slice A t.f3.length c):=HR.out.cell 2 rfl 3 rfl;have hc5_go_0 : w5.cell? ⟨go,0,none⟩ = some (.int .i64 t.f0):=HR.out.cell 0 rfl 0 rfl;have hc5_go_1 : w5.cell? ⟨go,1,none⟩ = some (.string t.f1):=HR.out.cell 0 rfl 1 rfl;have hc5_go_2 : w5.cell? ⟨go,2,none⟩ = some (.int .i64 t.f2):=HR.out.cell 0 rfl 2 rfl;have hc5_go_3 : w5.cell? ⟨go,3,none⟩ = some (.slice none 0 0):=HR.out.cell 0 rfl 3 rfl;have fc5_go_0:=HR.out.free 0 rfl 0;have fc5_go_1:=HR.out.free 0 rfl 1;have fc5_go_2:=HR.out.free 0 rfl 2;have fc5_go_3:=HR.out.free 0 rfl 3)
  | (go_at_call 105;refine (id_calls t.f2 w5).mono ?_;rintro e w6 ⟨rfl,hb⟩;replace HR:=asd (HR.out.step hb);clear hb;clear hc5_ga_0 hc5_ga_1 hc5_ga_2 hc5_ga_3 hc5_go_0 hc5_go_1 hc5_go_2 hc5_go_3 fc5_go_0 fc5_go_1 fc5_go_2 fc5_go_3;have hc6_ga_0 : w6.cell? ⟨ga,0,none⟩ = some (.int .i64 t.f0):=HR.out.cell 2 rfl 0 rfl;have hc6_ga_1 : w6.cell? ⟨ga,1,none⟩ = some (.string t.f1):=HR.out.cell 2 rfl 1 rfl;have hc6_ga_2 : w6.cell? ⟨ga,2,none⟩ = some (.int .i64 t.f2):=HR.out.cell 2 rfl 2 rfl;have hc6_ga_3 : w6.cell? ⟨ga,3,none⟩ = some (.slice A t.f3.length c):=HR.out.cell 2 rfl 3 rfl;have hc6_go_0 : w6.cell? ⟨go,0,none⟩ = some (.int .i64 t.f0):=HR.out.cell 0 rfl 0 rfl;have hc6_go_1 : w6.cell? ⟨go,1,none⟩ = some (.string t.f1):=HR.out.cell 0 rfl 1 rfl;have hc6_go_2 : w6.cell? ⟨go,2,none⟩ = some (.int .i64 t.f2):=HR.out.cell 0 rfl 2 rfl;have hc6_go_3 : w6.cell? ⟨go,3,none⟩ = some (.slice none 0 0):=HR.out.cell 0 rfl 3 rfl;have fc6_go_0:=HR.out.free 0 rfl 0;have fc6_go_1:=HR.out.free 0 rfl 1;have fc6_go_2:=HR.out.free 0 rfl 2;have fc6_go_3:=HR.out.free 0 rfl 3)
  | ((with_reducible refine gate_store (t:=3) (p:=17) rfl ?_);refine store_event (t:=3) (p:=17) (v:=?vo7) (w1:=w6.setCell ⟨go,2,none⟩ (.int .i64 t.f2)) ?hgs7 ?hos7 ?hns7 ?hrs7 ?_;(case hos7 => rfl);(case hgs7 => rfl);(case hns7 => rfl);(case hrs7 => first | (go_simp;done) | (go_simp;rfl));intro w7 hw;replace HR:=asd (hw ▸ HR.out.set 0 rfl 2 (.int .i64 t.f2));clear hw;clear hc6_ga_0 hc6_ga_1 hc6_ga_2 hc6_ga_3 hc6_go_0 hc6_go_1 hc6_go_2 hc6_go_3 fc6_go_0 fc6_go_1 fc6_go_2 fc6_go_3;have hc7_ga_0 : w7.cell? ⟨ga,0,none⟩ = some (.int .i64 t.f0):=HR.out.cell 2 rfl 0 rfl;have hc7_ga_1 : w7.cell? ⟨ga,1,none⟩ = some (.string t.f1):=HR.out.cell 2 rfl 1 rfl;have hc7_ga_2 : w7.cell? ⟨ga,2,none⟩ = some (.int .i64 t.f2):=HR.out.cell 2 rfl 2 rfl;have hc7_ga_3 : w7.cell? ⟨ga,3,none⟩ = some (.slice A t.f3.length c):=HR.out.cell 2 rfl 3 rfl;have hc7_go_0 : w7.cell? ⟨go,0,none⟩ = some (.int .i64 t.f0):=HR.out.cell 0 rfl 0 rfl;have hc7_go_1 : w7.cell? ⟨go,1,none⟩ = some (.string t.f1):=HR.out.cell 0 rfl 1 rfl;have hc7_go_2 : w7.cell? ⟨go,2,none⟩ = some (.int .i64 t.f2):=HR.out.cell 0 rfl 2 rfl;have hc7_go_3 : w7.cell? ⟨go,3,none⟩ = some (.slice none 0 0):=HR.out.cell 0 rfl 3 rfl;have fc7_go_0:=HR.out.free 0 rfl 0;have fc7_go_1:=HR.out.free 0 rfl 1;have fc7_go_2:=HR.out.free 0 rfl 2;have fc7_go_3:=HR.out.free 0 rfl 3))
 go_loopg [21] t.f3.length (fun m v21 w' => ∃ (i : Nat) (A_o : Option Addr) (c_o : Nat) (ys : List S29),v21 = .int .i64 i ∧ Aside0 (m + i = t.f3.length) ∧ Aside0 (ys = t.f3.take i) ∧ Aside0 (Run w w (fun _ => False) [As.row kD29 29 (.slice A_o ys.length c_o) ys,As.box go 29 #[.int .i64 t.f0,.string t.f1,.int .i64 t.f2,.slice A_o ys.length c_o],As.box gr 29 #[.int .i64 0,.string (⟨#[]⟩ : ByteArray),.int .i64 0,.slice none 0 0],As.box ga 29 #[.int .i64 t.f0,.string t.f1,.int .i64 t.f2,.slice A t.f3.length c]] w'))
 case atStart => exact ⟨0,none,0,[],rfl,⟨by omega⟩,⟨rfl⟩,⟨HR.out.push (As.row kD29 29 (.slice none 0 0) []) (Below.refl _ _) (Kd.S_nil _ _ _ _ _)⟩⟩
 case round =>
  clear HR hc7_ga_0 hc7_ga_1 hc7_ga_2 hc7_ga_3 hc7_go_0 hc7_go_1 hc7_go_2 hc7_go_3 fc7_go_0 fc7_go_1 fc7_go_2 fc7_go_3
  obtain ⟨i,A_o,c_o,ys,rfl,hi,HYS,HR⟩:=hrel
  by_cases hlt : (i : Int) < (t.f3.length : Int)
  ·have c3b0 : decide ((i : Int) < (t.f3.length : Int)) = true:=decide_eq_true hlt
   have hlt' : i < t.f3.length:=by omega
   have c3b1 : decide (i < t.f3.length) = true:=decide_eq_true hlt'
   obtain ⟨ad,A3,c3,e1,hx0,hx1,hx2,hx3,hl3,hi3⟩:=at_T29 HC.out (i : Int) (by omega) hlt
   cases e1
   obtain ⟨x,hx⟩ : ∃ x,x = t.f3[i]:=⟨_,rfl⟩
   rw [rd29_at _ i hlt',← hx] at hx0 hx1 hx2 hx3 hl3 hi3
   simp only [Int.toNat_natCast] at hx0 hx1 hx2 hx3
   have HX:=asd (show x ∈ t.f3 by rw [hx];exact List.getElem_mem hlt')
   have HT:=asd (show t.f3.take (i + 1) = ys ++ [x] by rw [hx,HYS.out];exact List.take_succ_eq_append_getElem hlt')
   have HI3:=asd hi3
   have HL3:=asd hl3
   clear hi3 hl3 hx
   replace hx0:=(HR.out.bel.cell (World.block_lt_of_cell? w _ hx0)).trans hx0
   replace hx1:=(HR.out.bel.cell (World.block_lt_of_cell? w _ hx1)).trans hx1
   replace hx2:=(HR.out.bel.cell (World.block_lt_of_cell? w _ hx2)).trans hx2
   replace hx3:=(HR.out.bel.cell (World.block_lt_of_cell? w _ hx3)).trans hx3
   go_wp2_with (first
    | ((with_reducible refine gate_dst (N:=7) rfl ?_);refine box_event ?hg7 (N:=7) ?hd7 (cs:=#[.int .i64 0,.string (⟨#[]⟩ : ByteArray),.int .i64 0,.slice none 0 0]) (t:=29) ?hr7 ?_;(case hd7 => rfl);(case hg7 => rfl);(case hr7 => first | (go_simp;done) | (go_simp;rfl));intro gk hg w18 hbox hb;replace HR:=asd (HR.out.box hg hb hbox);clear hg hbox hb;have hc8_gk_0 : w18.cell? ⟨gk,0,none⟩ = some (.int .i64 0):=HR.out.cell 0 rfl 0 rfl;have hc8_gk_1 : w18.cell? ⟨gk,1,none⟩ = some (.string (⟨#[]⟩ : ByteArray)):=HR.out.cell 0 rfl 1 rfl;have hc8_gk_2 : w18.cell? ⟨gk,2,none⟩ = some (.int .i64 0):=HR.out.cell 0 rfl 2 rfl;have hc8_gk_3 : w18.cell? ⟨gk,3,none⟩ = some (.slice none 0 0):=HR.out.cell 0 rfl 3 rfl;have fc8_gk_0:=HR.out.free 0 rfl 0;have fc8_gk_1:=HR.out.free 0 rfl 1;have fc8_gk_2:=HR.out.free 0 rfl 2;have fc8_gk_3:=HR.out.free 0 rfl 3)
    | ((with_reducible refine gate_store (t:=29) (p:=7) rfl ?_);refine store_event (t:=29) (p:=7) (v:=?vo19) (w1:=w18.setCells gk 0 [.int .i64 x.f0,.string x.f1,.int .i64 x.f2,.slice A3 x.f3.length c3]) ?hgs19 ?hos19 ?hns19 ?hrs19 ?_;(case hos19 => rfl);(case hgs19 => rfl);(case hns19 => rfl);(case hrs19 => first | (go_simp;done) | (go_simp;rfl));intro w19 hw;replace HR:=asd (hw ▸ HR.out.store 0 rfl [.int .i64 x.f0,.string x.f1,.int .i64 x.f2,.slice A3 x.f3.length c3] rfl);clear hw;clear hc8_gk_0 hc8_gk_1 hc8_gk_2 hc8_gk_3 fc8_gk_0 fc8_gk_1 fc8_gk_2 fc8_gk_3;have hc9_gk_0 : w19.cell? ⟨gk,0,none⟩ = some (.int .i64 x.f0):=HR.out.cell 0 rfl 0 rfl;have hc9_gk_1 : w19.cell? ⟨gk,1,none⟩ = some (.string x.f1):=HR.out.cell 0 rfl 1 rfl;have hc9_gk_2 : w19.cell? ⟨gk,2,none⟩ = some (.int .i64 x.f2):=HR.out.cell 0 rfl 2 rfl;have hc9_gk_3 : w19.cell? ⟨gk,3,none⟩ = some (.slice A3 x.f3.length c3):=HR.out.cell 0 rfl 3 rfl;have hc9_go_0 : w19.cell? ⟨go,0,none⟩ = some (.int .i64 t.f0):=HR.out.cell 2 rfl 0 rfl;have hc9_go_1 : w19.cell? ⟨go,1,none⟩ = some (.string t.f1):=HR.out.cell 2 rfl 1 rfl;have hc9_go_2 : w19.cell? ⟨go,2,none⟩ = some (.int .i64 t.f2):=HR.out.cell 2 rfl 2 rfl;have hc9_go_3 : w19.cell? ⟨go,3,none⟩ = some (.slice A_o ys.length c_o):=HR.out.cell 2 rfl 3 rfl))
   replace HR:=asd (HR.out.drew)
   clear hc9_gk_0 hc9_gk_1 hc9_gk_2 hc9_gk_3 hc9_go_0 hc9_go_1 hc9_go_2 hc9_go_3
   refine start_ (n:=9) (S:=fun w' => w'.cell? ⟨go,0,none⟩ = some (.int .i64 t.f0) ∧ w'.cell? ⟨go,1,none⟩ = some (.string t.f1) ∧ w'.cell? ⟨go,2,none⟩ = some (.int .i64 t.f2) ∧ w'.cell? ⟨go,3,none⟩ = some (.slice A_o ys.length c_o) ∧ w'.cell? ⟨gk,0,none⟩ = some (.int .i64 x.f0) ∧ w'.cell? ⟨gk,1,none⟩ = some (.string x.f1) ∧ w'.cell? ⟨gk,2,none⟩ = some (.int .i64 x.f2) ∧ w'.cell? ⟨gk,3,none⟩ = some (.slice A3 x.f3.length c3)) (ds:=[8]) #[false,false,false,false,false,false,false,false,false] (by kernel_rfl) rfl rfl ⟨HR.out.cell 2 rfl 0 rfl,HR.out.cell 2 rfl 1 rfl,HR.out.cell 2 rfl 2 rfl,HR.out.cell 2 rfl 3 rfl,HR.out.cell 0 rfl 0 rfl,HR.out.cell 0 rfl 1 rfl,HR.out.cell 0 rfl 2 rfl,HR.out.cell 0 rfl 3 rfl⟩ (fun hHeld => ?_);refine with_tabW rn8_tab rn8_bits (fun HT_ HW_ => ?_)
   generalize w19.drew = w20 at HR hHeld ⊢
   refine pure_ (i:=0) (N:=some 25) (v:=?_) (a':=?_) #[true,false,false,false,false,false,false,false,false] rfl rfl (any_of HT_.out (by kernel_rfl)) (fun _ _ _ h => h) (Or.inl ⟨by rfl,?_⟩) ?_ ?_
   rotate_left
   ·intro w'
    go_simp
    with_reducible rfl
   rotate_left
   ·simp only [Act.put,List.setIfInBounds_toArray,List.set_cons_zero,List.set_cons_succ,i64_w,i32_w]
    rfl
   refine pure_ (i:=3) (N:=some 28) (v:=?_) (a':=?_) #[true,false,false,true,false,false,false,false,false] rfl rfl (any_of HT_.out (by kernel_rfl)) (fun _ _ _ h => h) (Or.inl ⟨by rfl,?_⟩) ?_ ?_
   rotate_left
   ·intro w'
    go_simp
    with_reducible rfl
   rotate_left
   ·simp only [Act.put,List.setIfInBounds_toArray,List.set_cons_zero,List.set_cons_succ,i64_w,i32_w]
    rfl
   refine take_ (i:=1) (N:=some 26) (v:=?_) (a':=?_) #[true,true,false,true,false,false,false,false,false] rfl rfl (take_ofW HT_.out HW_.out (by kernel_rfl)) (fun _ _ _ h => h) (Or.inl ⟨by rfl,?_⟩) hHeld ?_ ?_
   rotate_left
   ·rintro w' ⟨s0,s1,s2,s3,s4,s5,s6,s7⟩
    go_simp
    with_reducible rfl
   rotate_left
   ·simp only [Act.put,List.setIfInBounds_toArray,List.set_cons_zero,List.set_cons_succ,i64_w,i32_w]
    rfl
   refine take_ (i:=2) (N:=some 27) (v:=?_) (a':=?_) #[true,true,true,true,false,false,false,false,false] rfl rfl (take_ofW HT_.out HW_.out (by kernel_rfl)) (fun _ _ _ h => h) (Or.inl ⟨by rfl,?_⟩) hHeld ?_ ?_
   rotate_left
   ·rintro w' ⟨s0,s1,s2,s3,s4,s5,s6,s7⟩
    go_simp
    with_reducible rfl
   rotate_left
   ·simp only [Act.put,List.setIfInBounds_toArray,List.set_cons_zero,List.set_cons_succ,i64_w,i32_w]
    rfl
   refine one_ (i:=4) (N:=some 29) #[true,true,true,true,true,false,false,false,false] rfl rfl (one_of HT_.out (by kernel_rfl)) (by decide) (fun K hK => ?_)
   refine goes_ Tryd.func104 (by kernel_rfl) rfl #[.agg #[.int .i64 x.f0,.string x.f1,.int .i64 x.f2,.slice A3 x.f3.length c3],.func (.func 105) #[] #[]] (by rfl) rfl rfl (by (try simp only [List.map_toArray,List.map_cons,List.map_nil]);first|done|rfl) ?_
   refine (IH.out x HX.out A3 c3 w20 (Kd.C_below HI3.out HR.out.bel) HL3.out).mono ?_
   rintro e w21 ⟨A4,c4,rfl,ho,hb⟩
   refine ⟨_,rfl,?_⟩
   replace HR:=asd (HR.out.push _ hb ho)
   clear ho hb
   refine hK.out _ _ ⟨HR.out.cell 3 rfl 0 rfl,HR.out.cell 3 rfl 1 rfl,HR.out.cell 3 rfl 2 rfl,HR.out.cell 3 rfl 3 rfl,HR.out.cell 1 rfl 0 rfl,HR.out.cell 1 rfl 1 rfl,HR.out.cell 1 rfl 2 rfl,HR.out.cell 1 rfl 3 rfl⟩ (fun hHeld => ?_)
   clear hK K
   refine norm_ (a':=?_) ?_ ?_
   rotate_left
   ·show Act.put _ (some 29) _ = _
    simp only [Act.put,List.setIfInBounds_toArray,List.set_cons_zero,List.set_cons_succ,i64_w,i32_w]
    rfl
   refine one_ (i:=5) (N:=some 30) #[true,true,true,true,true,true,false,false,false] rfl rfl (one_of HT_.out (by kernel_rfl)) (by decide) (fun K hK => ?_)
   refine value_ (w1:=?_) (v:=?_) (by rfl) rfl ?_ ?_
   rotate_left 2
   ·go_simp
    constructor
    ·rfl
    ·rfl
   refine hK.out _ _ ⟨(blk_cell (blk_alloc (HR.out.has 3 rfl).2 _) 0).trans rfl,(blk_cell (blk_alloc (HR.out.has 3 rfl).2 _) 1).trans rfl,(blk_cell (blk_alloc (HR.out.has 3 rfl).2 _) 2).trans rfl,(blk_cell (blk_alloc (HR.out.has 3 rfl).2 _) 3).trans rfl,(blk_cell (blk_alloc (HR.out.has 1 rfl).2 _) 0).trans rfl,(blk_cell (blk_alloc (HR.out.has 1 rfl).2 _) 1).trans rfl,(blk_cell (blk_alloc (HR.out.has 1 rfl).2 _) 2).trans rfl,(blk_cell (blk_alloc (HR.out.has 1 rfl).2 _) 3).trans rfl⟩ (fun hHeld => ?_)
   clear hK K
   refine norm_ (a':=?_) ?_ ?_
   rotate_left
   ·show Act.put _ (some 30) _ = _
    simp only [Act.put,List.setIfInBounds_toArray,List.set_cons_zero,List.set_cons_succ,i64_w,i32_w]
    rfl
   refine one_ (i:=6) (N:=some 31) #[true,true,true,true,true,true,true,false,false] rfl rfl (one_of HT_.out (by kernel_rfl)) (by decide) (fun K hK => ?_)
   refine HR.out.appStep 2 0 kD29 rfl rfl (by decide) x [.int .i64 x.f0,.string x.f1,.int .i64 x.f2,.slice A4 x.f3.length c4] (fun okj hj_ => kD29_mkM _ _ _ x hj_) (by rfl) (.tmp 26) (.tmp 30) 27 (.agg #[(.int .i64 0),(.string ⟨#[]⟩),(.int .i64 0),(.slice none 0 0)]) 56 rfl Tryd.underlying27 info29 rfl (by decide) (by omega) rfl rfl (by have h1_:=HL.out;have h2_ : ys.length ≤ t.f3.length:=(by rw [HYS.out,List.length_take];omega);omega) ?_
   intro v_ w22 hq_
   obtain ⟨l_n,hz_⟩ : ∃ z_,z_ = (ys ++ [x]):=⟨_,rfl⟩
   rw [← hz_] at hq_
   have HZ_n:=asd hz_
   clear hz_
   obtain ⟨A_n,c_n,rfl⟩:=Kd.S_slice (hq_.has 2 rfl)
   clear HR
   have HR:=asd hq_
   clear hq_
   refine hK.out _ _ ⟨HR.out.cell 3 rfl 0 rfl,HR.out.cell 3 rfl 1 rfl,HR.out.cell 3 rfl 2 rfl,HR.out.cell 3 rfl 3 rfl,HR.out.cell 1 rfl 0 rfl,HR.out.cell 1 rfl 1 rfl,HR.out.cell 1 rfl 2 rfl,HR.out.cell 1 rfl 3 rfl⟩ (fun hHeld => ?_)
   clear hK K
   refine norm_ (a':=?_) ?_ ?_
   rotate_left
   ·show Act.put _ (some 31) _ = _
    simp only [Act.put,List.setIfInBounds_toArray,List.set_cons_zero,List.set_cons_succ,i64_w,i32_w]
    rfl
   refine pure_ (i:=7) (N:=some 32) (v:=?_) (a':=?_) #[true,true,true,true,true,true,true,true,false] rfl rfl (any_of HT_.out (by kernel_rfl)) (fun _ _ _ h => h) (Or.inl ⟨by rfl,?_⟩) ?_ ?_
   rotate_left
   ·intro w'
    go_simp
    with_reducible rfl
   rotate_left
   ·simp only [Act.put,List.setIfInBounds_toArray,List.set_cons_zero,List.set_cons_succ,i64_w,i32_w]
    rfl
   refine last_ (i:=8) (N:=none) #[true,true,true,true,true,true,true,true,true] rfl rfl (one_of HT_.out (by kernel_rfl)) (by decide) (fun K hK => ?_)
   have hz0_ : w22.cell? ⟨go,0,none⟩ = some (.int .i64 t.f0):=HR.out.cell 3 rfl 0 rfl
   have fz0_:=HR.out.free 3 rfl 0
   have hz1_ : w22.cell? ⟨go,1,none⟩ = some (.string t.f1):=HR.out.cell 3 rfl 1 rfl
   have fz1_:=HR.out.free 3 rfl 1
   have hz2_ : w22.cell? ⟨go,2,none⟩ = some (.int .i64 t.f2):=HR.out.cell 3 rfl 2 rfl
   have fz2_:=HR.out.free 3 rfl 2
   have hz3_ : w22.cell? ⟨go,3,none⟩ = some (.slice A_o ys.length c_o):=HR.out.cell 3 rfl 3 rfl
   have fz3_:=HR.out.free 3 rfl 3
   refine skip_ (w1:=w22.setCell ⟨go,3,none⟩ (.slice A_n l_n.length c_n)) (by rfl) rfl ?_ ?_
   ·first|(go_simp;done)|(go_simp;rfl)
   refine hK.out _ _ ?_
   clear hK K hz0_ fz0_ hz1_ fz1_ hz2_ fz2_ hz3_ fz3_
   replace HR:=asd (HR.out.set 3 rfl 3 (.slice A_n l_n.length c_n))
   generalize w22.setCell ⟨go,3,none⟩ (.slice A_n l_n.length c_n) = w23 at HR ⊢
   refine done_ (done_of HT_.out (by kernel_rfl)) ?_
   try go_wp2
   go_roundg (t.f3.length - (i + 1))
   case measure => have:=hi.out;omega
   case rel => exact ⟨i + 1,A_n,c_n,l_n,by rw [next_i i _ hlt' HL.out],⟨by have:=hi.out;omega⟩,⟨HZ_n.out.trans HT.out.symm⟩,⟨HR.out.pick [2,3,4,5] (by decide)⟩⟩
  ·have c3b0 : decide ((i : Int) < (t.f3.length : Int)) = false:=decide_eq_false hlt
   have c3b1 : decide (i < t.f3.length) = false:=decide_eq_false (by omega)
   have he : ys = t.f3:=HYS.out.trans (List.take_of_length_le (by omega))
   rw [he] at HR
   clear he
   have hc10_go_0 : wr.cell? ⟨go,0,none⟩ = some (.int .i64 t.f0):=HR.out.cell 1 rfl 0 rfl
   have hc10_go_1 : wr.cell? ⟨go,1,none⟩ = some (.string t.f1):=HR.out.cell 1 rfl 1 rfl
   have hc10_go_2 : wr.cell? ⟨go,2,none⟩ = some (.int .i64 t.f2):=HR.out.cell 1 rfl 2 rfl
   have hc10_go_3 : wr.cell? ⟨go,3,none⟩ = some (.slice A_o t.f3.length c_o):=HR.out.cell 1 rfl 3 rfl
   have hc10_gr_0 : wr.cell? ⟨gr,0,none⟩ = some (.int .i64 0):=HR.out.cell 2 rfl 0 rfl
   have hc10_gr_1 : wr.cell? ⟨gr,1,none⟩ = some (.string (⟨#[]⟩ : ByteArray)):=HR.out.cell 2 rfl 1 rfl
   have hc10_gr_2 : wr.cell? ⟨gr,2,none⟩ = some (.int .i64 0):=HR.out.cell 2 rfl 2 rfl
   have hc10_gr_3 : wr.cell? ⟨gr,3,none⟩ = some (.slice none 0 0):=HR.out.cell 2 rfl 3 rfl
   have fc10_gr_0:=HR.out.free 2 rfl 0
   have fc10_gr_1:=HR.out.free 2 rfl 1
   have fc10_gr_2:=HR.out.free 2 rfl 2
   have fc10_gr_3:=HR.out.free 2 rfl 3
   go_wp2_with (first
    | ((with_reducible refine gate_store (t:=29) (p:=4) rfl ?_);refine store_event (t:=29) (p:=4) (v:=?vo34) (w1:=wr.setCells gr 0 [.int .i64 t.f0,.string t.f1,.int .i64 t.f2,.slice A_o t.f3.length c_o]) ?hgs34 ?hos34 ?hns34 ?hrs34 ?_;(case hos34 => rfl);(case hgs34 => rfl);(case hns34 => rfl);(case hrs34 => first | (go_simp;done) | (go_simp;rfl));intro w34 hw;replace HR:=asd (hw ▸ HR.out.store 2 rfl [.int .i64 t.f0,.string t.f1,.int .i64 t.f2,.slice A_o t.f3.length c_o] rfl);clear hw;clear hc10_go_0 hc10_go_1 hc10_go_2 hc10_go_3 hc10_gr_0 hc10_gr_1 hc10_gr_2 hc10_gr_3 fc10_gr_0 fc10_gr_1 fc10_gr_2 fc10_gr_3))
   refine bodyPost_ret (results_cell_row rfl _ _ gr 29 #[.int .i64 t.f0,.string t.f1,.int .i64 t.f2,.slice A_o t.f3.length c_o] (0,0) _ rfl (HR.out.has 2 rfl).2 Tryd.underlying29 rfl (by kernel_rfl)) rfl ?_
   exact ⟨_,_,rfl,As.mono _ (fun k hk => hk.elim False.elim id) (HR.out.one 0 rfl),HR.out.bel⟩
theorem rn_all (n : Nat) : ∀ t : S29,ht29 t ≤ n → cns29 t.f3 ≤ 1048576 → RnT t:=by
 induction n with
 | zero => intro t h;have:=ht29_eq t;omega
 | succ n ih =>
  intro t h hc
  have h1:=cns29_len t.f3
  have h2 : ∀ x ∈ t.f3,RnT x:=fun x hx => ih x (by have:=hts29_mem hx;have:=ht29_eq t;omega) (by have:=cns29_mem hx;have:=cn29_eq x;omega)
  by_cases hk : (t.f0 == 1) = true
  ·exact rn_var t hk (by omega) h2
  ·exact rn_other t (by simpa using hk) (by omega) h2
set_option maxHeartbeats 16000000 in
set_option maxRecDepth 100000 in
theorem cp_all (t : S29) (hn : RnT t) : CpT t:=by
 intro A c w hC hc
 have HC:=asd hC
 have HCC:=asd hc
 have HN:=asd hn
 have HR:=asd (run_law w)
 clear hC hc hn
 go_enter Tryd.func81,Tryd.ntmps81
 go_wp2_with (first
  | ((with_reducible refine gate_dst (N:=1) rfl ?_);refine box_event ?hg1 (N:=1) ?hd1 (cs:=#[.int .i64 t.f0,.string t.f1,.int .i64 t.f2,.slice A t.f3.length c]) (t:=29) ?hr1 ?_;(case hd1 => rfl);(case hg1 => rfl);(case hr1 => first | (go_simp;done) | (go_simp;rfl));intro ga hg w1 hbox hb;replace HR:=asd (HR.out.box hg hb hbox);clear hg hbox hb)
  | ((with_reducible refine gate_dst (N:=2) rfl ?_);refine box_event ?hg2 (N:=2) ?hd2 (cs:=#[.int .i64 0,.string (⟨#[]⟩ : ByteArray),.int .i64 0,.slice none 0 0]) (t:=29) ?hr2 ?_;(case hd2 => rfl);(case hg2 => rfl);(case hr2 => first | (go_simp;done) | (go_simp;rfl));intro gr hg w2 hbox hb;replace HR:=asd (HR.out.box hg hb hbox);clear hg hbox hb;have hc2_ga_0 : w2.cell? ⟨ga,0,none⟩ = some (.int .i64 t.f0):=HR.out.cell 1 rfl 0 rfl;have hc2_ga_1 : w2.cell? ⟨ga,1,none⟩ = some (.string t.f1):=HR.out.cell 1 rfl 1 rfl;have hc2_ga_2 : w2.cell? ⟨ga,2,none⟩ = some (.int .i64 t.f2):=HR.out.cell 1 rfl 2 rfl;have hc2_ga_3 : w2.cell? ⟨ga,3,none⟩ = some (.slice A t.f3.length c):=HR.out.cell 1 rfl 3 rfl)
  | (go_at_call 104;refine (HN.out A c w2 (Kd.C_below HC.out HR.out.bel) HCC.out).mono ?_;rintro e w3 ⟨A4,c4,rfl,ho,hb⟩;replace HR:=asd (HR.out.push _ hb ho);clear hb ho;clear hc2_ga_0 hc2_ga_1 hc2_ga_2 hc2_ga_3;have hc3_gr_0 : w3.cell? ⟨gr,0,none⟩ = some (.int .i64 0):=HR.out.cell 1 rfl 0 rfl;have hc3_gr_1 : w3.cell? ⟨gr,1,none⟩ = some (.string (⟨#[]⟩ : ByteArray)):=HR.out.cell 1 rfl 1 rfl;have hc3_gr_2 : w3.cell? ⟨gr,2,none⟩ = some (.int .i64 0):=HR.out.cell 1 rfl 2 rfl;have hc3_gr_3 : w3.cell? ⟨gr,3,none⟩ = some (.slice none 0 0):=HR.out.cell 1 rfl 3 rfl;have fc3_gr_0:=HR.out.free 1 rfl 0;have fc3_gr_1:=HR.out.free 1 rfl 1;have fc3_gr_2:=HR.out.free 1 rfl 2;have fc3_gr_3:=HR.out.free 1 rfl 3)
  | ((with_reducible refine gate_store (t:=29) (p:=2) rfl ?_);refine store_event (t:=29) (p:=2) (v:=?vo4) (w1:=w3.setCells gr 0 [.int .i64 t.f0,.string t.f1,.int .i64 t.f2,.slice A4 t.f3.length c4]) ?hgs4 ?hos4 ?hns4 ?hrs4 ?_;(case hos4 => rfl);(case hgs4 => rfl);(case hns4 => rfl);(case hrs4 => first | (go_simp;done) | (go_simp;rfl));intro w4 hw;replace HR:=asd (hw ▸ HR.out.store 1 rfl [.int .i64 t.f0,.string t.f1,.int .i64 t.f2,.slice A4 t.f3.length c4] rfl);clear hw;clear hc3_gr_0 hc3_gr_1 hc3_gr_2 hc3_gr_3 fc3_gr_0 fc3_gr_1 fc3_gr_2 fc3_gr_3))
 refine bodyPost_ret (results_cell_row rfl _ _ gr 29 #[.int .i64 t.f0,.string t.f1,.int .i64 t.f2,.slice A4 t.f3.length c4] (0,0) _ rfl (HR.out.has 1 rfl).2 Tryd.underlying29 rfl (by kernel_rfl)) rfl ?_
 exact ⟨_,_,rfl,As.mono _ (fun k hk => hk.elim False.elim id) (HR.out.one 0 rfl),HR.out.bel⟩
end
section
set_option linter.unusedSectionVars false
variable [fk_laws_szTerm] [fk_laws_eqTerm] [fk_spec_l34Term] [fk_strconv_Itoa]
def ac (x : S48) (v v' : Value) : As:=As.star (As.row kD29 29 v x.f0.f3) (As.row kD29 29 v' x.f1.f3)
def MadeC (x : S48) (W : World) (e : Ending) (W' : World) : Prop:=∃ A c B d,e = .returned (.agg #[.int .i64 x.f0.f0,.string x.f0.f1,.int .i64 x.f0.f2,.slice A x.f0.f3.length c,.int .i64 x.f1.f0,.string x.f1.f1,.int .i64 x.f1.f2,.slice B x.f1.f3.length d,.string x.f2]) ∧ (ac x (.slice A x.f0.f3.length c) (.slice B x.f1.f3.length d)).M W.heap.size W' (fun k => W.heap.size ≤ k) ∧ Below W.heap.size W W'
def CpCl (x : S48) : Prop:=∀ (A : Option Addr) (c : Nat) (B : Option Addr) (d : Nat) (W : World),Kd.C k29 W A x.f0.f3.length x.f0.f3 → x.f0.f3.length ≤ c → Kd.C k29 W B x.f1.f3.length x.f1.f3 → x.f1.f3.length ≤ d → Calls Tryd.prog 63 #[.agg #[.int .i64 x.f0.f0,.string x.f0.f1,.int .i64 x.f0.f2,.slice A x.f0.f3.length c,.int .i64 x.f1.f0,.string x.f1.f1,.int .i64 x.f1.f2,.slice B x.f1.f3.length d,.string x.f2]] W fun e W' => MadeC x W e W'
def cc1_T : Bool × List (List Nat × List Nat):=(true,[([],[]),([0],[0]),([1],[1]),([],[]),([3],[3]),([4,2],[4]),([],[]),([6],[6]),([2,5,7],[2,5,7]),([8,5,0,1,2,3,4,5,6,7,8],[8])])
def cc1_B : List Nat:=[0,1,3,0,8,31,0,64,255,511]
theorem cc1_tab : rtab .any (opsOf Tryd.f63 1) = cc1_T:=by kernel_rfl
theorem cc1_bits : waitsOk cc1_T.2 cc1_B = true:=by kernel_rfl
def cd1_T : Bool × List (List Nat × List Nat):=(true,[([],[]),([0],[0]),([1],[1]),([],[]),([3],[3]),([4,2],[4]),([2,5],[2,5]),([6,5,0,1,2,3,4,5,6],[6])])
def cd1_B : List Nat:=[0,1,3,0,8,31,63,127]
theorem cd1_tab : rtab .any (opsOf Tryd.f72 1) = cd1_T:=by kernel_rfl
theorem cd1_bits : waitsOk cd1_T.2 cd1_B = true:=by kernel_rfl
set_option maxHeartbeats 16000000 in
set_option maxRecDepth 100000 in
theorem cpCl (x : S48) (h1 : CpT x.f0) (h2 : CpT x.f1) : CpCl x:=by
 intro A c B d w hC hc hD hd
 have HC:=asd hC
 have HCC:=asd hc
 have HD:=asd hD
 have HDD:=asd hd
 have H1:=asd h1
 have H2:=asd h2
 have HR:=asd (run_law w)
 clear hC hc hD hd h1 h2
 go_enter Tryd.func63,Tryd.ntmps63
 go_wp2_with (first
  | ((with_reducible refine gate_dst (N:=1) rfl ?_);refine box_event ?hg1 (N:=1) ?hd1 (cs:=#[.int .i64 x.f0.f0,.string x.f0.f1,.int .i64 x.f0.f2,.slice A x.f0.f3.length c,.int .i64 x.f1.f0,.string x.f1.f1,.int .i64 x.f1.f2,.slice B x.f1.f3.length d,.string x.f2]) (t:=48) ?hr1 ?_;(case hd1 => rfl);(case hg1 => rfl);(case hr1 => first | (go_simp;done) | (go_simp;rfl));intro ga hg w1 hbox hb;replace HR:=asd (HR.out.box hg hb hbox);clear hg hbox hb)
  | ((with_reducible refine gate_dst (N:=2) rfl ?_);refine box_event ?hg2 (N:=2) ?hd2 (cs:=#[.int .i64 0,.string (⟨#[]⟩ : ByteArray),.int .i64 0,.slice none 0 0,.int .i64 0,.string (⟨#[]⟩ : ByteArray),.int .i64 0,.slice none 0 0,.string (⟨#[]⟩ : ByteArray)]) (t:=48) ?hr2 ?_;(case hd2 => rfl);(case hg2 => rfl);(case hr2 => first | (go_simp;done) | (go_simp;rfl));intro gr hg w2 hbox hb;replace HR:=asd (HR.out.box hg hb hbox);clear hg hbox hb))
 replace HR:=asd (HR.out.drew)
 refine start_ (n:=10) (S:=fun w' => w'.cell? ⟨ga,0,none⟩ = some (.int .i64 x.f0.f0) ∧ w'.cell? ⟨ga,1,none⟩ = some (.string x.f0.f1) ∧ w'.cell? ⟨ga,2,none⟩ = some (.int .i64 x.f0.f2) ∧ w'.cell? ⟨ga,3,none⟩ = some (.slice A x.f0.f3.length c) ∧ w'.cell? ⟨ga,4,none⟩ = some (.int .i64 x.f1.f0) ∧ w'.cell? ⟨ga,5,none⟩ = some (.string x.f1.f1) ∧ w'.cell? ⟨ga,6,none⟩ = some (.int .i64 x.f1.f2) ∧ w'.cell? ⟨ga,7,none⟩ = some (.slice B x.f1.f3.length d) ∧ w'.cell? ⟨ga,8,none⟩ = some (.string x.f2)) (ds:=[9]) #[false,false,false,false,false,false,false,false,false,false] (by kernel_rfl) rfl rfl ⟨HR.out.cell 1 rfl 0 rfl,HR.out.cell 1 rfl 1 rfl,HR.out.cell 1 rfl 2 rfl,HR.out.cell 1 rfl 3 rfl,HR.out.cell 1 rfl 4 rfl,HR.out.cell 1 rfl 5 rfl,HR.out.cell 1 rfl 6 rfl,HR.out.cell 1 rfl 7 rfl,HR.out.cell 1 rfl 8 rfl⟩ (fun hHeld => ?_);refine with_tabW cc1_tab cc1_bits (fun HT_ HW_ => ?_)
 generalize w2.drew = w3 at HR hHeld ⊢
 refine pure_ (i:=0) (N:=some 3) (v:=?_) (a':=?_) #[true,false,false,false,false,false,false,false,false,false] rfl rfl (any_of HT_.out (by kernel_rfl)) (fun _ _ _ h => h) (Or.inl ⟨by rfl,?_⟩) ?_ ?_
 rotate_left
 ·intro w'
  go_simp
  with_reducible rfl
 rotate_left
 ·simp only [Act.put,List.setIfInBounds_toArray,List.set_cons_zero,List.set_cons_succ,i64_w,i32_w]
  rfl
 refine pure_ (i:=3) (N:=some 6) (v:=?_) (a':=?_) #[true,false,false,true,false,false,false,false,false,false] rfl rfl (any_of HT_.out (by kernel_rfl)) (fun _ _ _ h => h) (Or.inl ⟨by rfl,?_⟩) ?_ ?_
 rotate_left
 ·intro w'
  go_simp
  with_reducible rfl
 rotate_left
 ·simp only [Act.put,List.setIfInBounds_toArray,List.set_cons_zero,List.set_cons_succ,i64_w,i32_w]
  rfl
 refine pure_ (i:=6) (N:=some 9) (v:=?_) (a':=?_) #[true,false,false,true,false,false,true,false,false,false] rfl rfl (any_of HT_.out (by kernel_rfl)) (fun _ _ _ h => h) (Or.inl ⟨by rfl,?_⟩) ?_ ?_
 rotate_left
 ·intro w'
  go_simp
  with_reducible rfl
 rotate_left
 ·simp only [Act.put,List.setIfInBounds_toArray,List.set_cons_zero,List.set_cons_succ,i64_w,i32_w]
  rfl
 refine take_ (i:=1) (N:=some 4) (v:=?_) (a':=?_) #[true,true,false,true,false,false,true,false,false,false] rfl rfl (take_ofW HT_.out HW_.out (by kernel_rfl)) (fun _ _ _ h => h) (Or.inl ⟨by rfl,?_⟩) hHeld ?_ ?_
 rotate_left
 ·rintro w' ⟨s0,s1,s2,s3,s4,s5,s6,s7,s8⟩
  go_simp
  with_reducible rfl
 rotate_left
 ·simp only [Act.put,List.setIfInBounds_toArray,List.set_cons_zero,List.set_cons_succ,i64_w,i32_w]
  rfl
 refine take_ (i:=4) (N:=some 7) (v:=?_) (a':=?_) #[true,true,false,true,true,false,true,false,false,false] rfl rfl (take_ofW HT_.out HW_.out (by kernel_rfl)) (fun _ _ _ h => h) (Or.inl ⟨by rfl,?_⟩) hHeld ?_ ?_
 rotate_left
 ·rintro w' ⟨s0,s1,s2,s3,s4,s5,s6,s7,s8⟩
  go_simp
  with_reducible rfl
 rotate_left
 ·simp only [Act.put,List.setIfInBounds_toArray,List.set_cons_zero,List.set_cons_succ,i64_w,i32_w]
  rfl
 refine take_ (i:=7) (N:=some 10) (v:=?_) (a':=?_) #[true,true,false,true,true,false,true,true,false,false] rfl rfl (take_ofW HT_.out HW_.out (by kernel_rfl)) (fun _ _ _ h => h) (Or.inl ⟨by rfl,?_⟩) hHeld ?_ ?_
 rotate_left
 ·rintro w' ⟨s0,s1,s2,s3,s4,s5,s6,s7,s8⟩
  go_simp
  with_reducible rfl
 rotate_left
 ·simp only [Act.put,List.setIfInBounds_toArray,List.set_cons_zero,List.set_cons_succ,i64_w,i32_w]
  rfl
 refine one_ (i:=2) (N:=some 5) #[true,true,true,true,true,false,true,true,false,false] rfl rfl (one_of HT_.out (by kernel_rfl)) (by decide) (fun K hK => ?_)
 refine goes_ Tryd.func81 (by kernel_rfl) rfl #[.agg #[.int .i64 x.f0.f0,.string x.f0.f1,.int .i64 x.f0.f2,.slice A x.f0.f3.length c]] (by rfl) rfl rfl (by (try simp only [List.map_toArray,List.map_cons,List.map_nil]);first|done|rfl) ?_
 refine (H1.out A c w3 (Kd.C_below HC.out HR.out.bel) HCC.out).mono ?_
 rintro e w4 ⟨A1,c1,rfl,ho,hb⟩
 refine ⟨_,rfl,?_⟩
 replace HR:=asd (HR.out.push _ hb ho)
 clear ho hb
 refine hK.out _ _ ⟨HR.out.cell 2 rfl 0 rfl,HR.out.cell 2 rfl 1 rfl,HR.out.cell 2 rfl 2 rfl,HR.out.cell 2 rfl 3 rfl,HR.out.cell 2 rfl 4 rfl,HR.out.cell 2 rfl 5 rfl,HR.out.cell 2 rfl 6 rfl,HR.out.cell 2 rfl 7 rfl,HR.out.cell 2 rfl 8 rfl⟩ (fun hHeld => ?_)
 clear hK K
 refine norm_ (a':=?_) ?_ ?_
 rotate_left
 ·show Act.put _ (some 5) _ = _
  simp only [Act.put,List.setIfInBounds_toArray,List.set_cons_zero,List.set_cons_succ,i64_w,i32_w]
  rfl
 refine one_ (i:=5) (N:=some 8) #[true,true,true,true,true,true,true,true,false,false] rfl rfl (one_of HT_.out (by kernel_rfl)) (by decide) (fun K hK => ?_)
 refine goes_ Tryd.func81 (by kernel_rfl) rfl #[.agg #[.int .i64 x.f1.f0,.string x.f1.f1,.int .i64 x.f1.f2,.slice B x.f1.f3.length d]] (by rfl) rfl rfl (by (try simp only [List.map_toArray,List.map_cons,List.map_nil]);first|done|rfl) ?_
 refine (H2.out B d w4 (Kd.C_below HD.out HR.out.bel) HDD.out).mono ?_
 rintro e w5 ⟨A2,c2,rfl,ho,hb⟩
 refine ⟨_,rfl,?_⟩
 replace HR:=asd (HR.out.push _ hb ho)
 clear ho hb
 refine hK.out _ _ ⟨HR.out.cell 3 rfl 0 rfl,HR.out.cell 3 rfl 1 rfl,HR.out.cell 3 rfl 2 rfl,HR.out.cell 3 rfl 3 rfl,HR.out.cell 3 rfl 4 rfl,HR.out.cell 3 rfl 5 rfl,HR.out.cell 3 rfl 6 rfl,HR.out.cell 3 rfl 7 rfl,HR.out.cell 3 rfl 8 rfl⟩ (fun hHeld => ?_)
 clear hK K
 refine norm_ (a':=?_) ?_ ?_
 rotate_left
 ·show Act.put _ (some 8) _ = _
  simp only [Act.put,List.setIfInBounds_toArray,List.set_cons_zero,List.set_cons_succ,i64_w,i32_w]
  rfl
 refine pure_ (i:=8) (N:=some 11) (v:=?_) (a':=?_) #[true,true,true,true,true,true,true,true,true,false] rfl rfl (any_of HT_.out (by kernel_rfl)) (fun _ _ _ h => h) (Or.inl ⟨by rfl,?_⟩) ?_ ?_
 rotate_left
 ·intro w'
  go_simp
  with_reducible rfl
 rotate_left
 ·simp only [Act.put,List.setIfInBounds_toArray,List.set_cons_zero,List.set_cons_succ,i64_w,i32_w]
  rfl
 refine last_ (i:=9) (N:=none) #[true,true,true,true,true,true,true,true,true,true] rfl rfl (one_of HT_.out (by kernel_rfl)) (by decide) (fun K hK => ?_)
 have hz0_ : w5.cell? ⟨gr,0,none⟩ = some (.int .i64 0):=HR.out.cell 2 rfl 0 rfl
 have fz0_:=HR.out.free 2 rfl 0
 have hz1_ : w5.cell? ⟨gr,1,none⟩ = some (.string (⟨#[]⟩ : ByteArray)):=HR.out.cell 2 rfl 1 rfl
 have fz1_:=HR.out.free 2 rfl 1
 have hz2_ : w5.cell? ⟨gr,2,none⟩ = some (.int .i64 0):=HR.out.cell 2 rfl 2 rfl
 have fz2_:=HR.out.free 2 rfl 2
 have hz3_ : w5.cell? ⟨gr,3,none⟩ = some (.slice none 0 0):=HR.out.cell 2 rfl 3 rfl
 have fz3_:=HR.out.free 2 rfl 3
 have hz4_ : w5.cell? ⟨gr,4,none⟩ = some (.int .i64 0):=HR.out.cell 2 rfl 4 rfl
 have fz4_:=HR.out.free 2 rfl 4
 have hz5_ : w5.cell? ⟨gr,5,none⟩ = some (.string (⟨#[]⟩ : ByteArray)):=HR.out.cell 2 rfl 5 rfl
 have fz5_:=HR.out.free 2 rfl 5
 have hz6_ : w5.cell? ⟨gr,6,none⟩ = some (.int .i64 0):=HR.out.cell 2 rfl 6 rfl
 have fz6_:=HR.out.free 2 rfl 6
 have hz7_ : w5.cell? ⟨gr,7,none⟩ = some (.slice none 0 0):=HR.out.cell 2 rfl 7 rfl
 have fz7_:=HR.out.free 2 rfl 7
 have hz8_ : w5.cell? ⟨gr,8,none⟩ = some (.string (⟨#[]⟩ : ByteArray)):=HR.out.cell 2 rfl 8 rfl
 have fz8_:=HR.out.free 2 rfl 8
 refine skip_ (w1:=w5.setCells gr 0 [.int .i64 x.f0.f0,.string x.f0.f1,.int .i64 x.f0.f2,.slice A1 x.f0.f3.length c1,.int .i64 x.f1.f0,.string x.f1.f1,.int .i64 x.f1.f2,.slice A2 x.f1.f3.length c2,.string x.f2]) (by rfl) rfl ?_ ?_
 ·first|(go_simp;done)|(go_simp;rfl)
 refine hK.out _ _ ?_
 clear hK K hz0_ fz0_ hz1_ fz1_ hz2_ fz2_ hz3_ fz3_ hz4_ fz4_ hz5_ fz5_ hz6_ fz6_ hz7_ fz7_ hz8_ fz8_
 replace HR:=asd (HR.out.store 2 rfl [.int .i64 x.f0.f0,.string x.f0.f1,.int .i64 x.f0.f2,.slice A1 x.f0.f3.length c1,.int .i64 x.f1.f0,.string x.f1.f1,.int .i64 x.f1.f2,.slice A2 x.f1.f3.length c2,.string x.f2] rfl)
 generalize w5.setCells gr 0 [.int .i64 x.f0.f0,.string x.f0.f1,.int .i64 x.f0.f2,.slice A1 x.f0.f3.length c1,.int .i64 x.f1.f0,.string x.f1.f1,.int .i64 x.f1.f2,.slice A2 x.f1.f3.length c2,.string x.f2] = w6 at HR ⊢
 refine done_ (done_of HT_.out (by kernel_rfl)) ?_
 try go_wp2
 refine bodyPost_ret (results_cell_row rfl _ _ gr 48 #[.int .i64 x.f0.f0,.string x.f0.f1,.int .i64 x.f0.f2,.slice A1 x.f0.f3.length c1,.int .i64 x.f1.f0,.string x.f1.f1,.int .i64 x.f1.f2,.slice A2 x.f1.f3.length c2,.string x.f2] (0,0) _ rfl (HR.out.has 2 rfl).2 Tryd.underlying48 rfl (by kernel_rfl)) rfl ?_
 exact ⟨_,_,_,_,rfl,As.mono _ (fun k hk => hk.elim False.elim id) (HR.out.two 1 0 rfl rfl (by decide)),HR.out.bel⟩
def MadeCs (xs : List S48) (W : World) (e : Ending) (W' : World) : Prop:=∃ A c,e = .returned (.slice A xs.length c) ∧ (As.row kD59 48 (.slice A xs.length c) xs).M W.heap.size W' (fun k => W.heap.size ≤ k) ∧ Below W.heap.size W W'
set_option maxHeartbeats 16000000 in
set_option maxRecDepth 100000 in
theorem cpCs (xs : List S48) (hlen : xs.length ≤ 1048576) (ih : ∀ x ∈ xs,CpCl x) (A : Option Addr) (c : Nat) (w : World) (hC : Kd.C k48 w A xs.length xs) (hc : xs.length ≤ c) : Calls Tryd.prog 93 #[.slice A xs.length c] w fun e w' => MadeCs xs w e w':=by
 have HC:=asd hC
 have HCC:=asd hc
 have HL:=asd hlen
 have IH:=asd ih
 have HR:=asd (run_law w)
 clear hC hc hlen ih
 go_enter Tryd.func93,Tryd.ntmps93
 go_wp2
 go_loopg [3,8] xs.length (fun m v3 v8 w' => ∃ (i : Nat) (A_o : Option Addr) (c_o : Nat) (ys : List S48),v8 = .int .i64 i ∧ v3 = .slice A_o ys.length c_o ∧ Aside0 (m + i = xs.length) ∧ Aside0 (ys = xs.take i) ∧ Aside0 (Run w w (fun _ => False) [As.row kD59 48 (.slice A_o ys.length c_o) ys] w'))
 case atStart => exact ⟨0,none,0,[],rfl,rfl,⟨by omega⟩,⟨rfl⟩,⟨HR.out.push (As.row kD59 48 (.slice none 0 0) []) (Below.refl _ _) (Kd.S_nil _ _ _ _ _)⟩⟩
 case round =>
  clear HR
  obtain ⟨i,A_o,c_o,ys,rfl,rfl,hi,HYS,HR⟩:=hrel
  by_cases hlt : (i : Int) < (xs.length : Int)
  ·have c3b0 : decide ((i : Int) < (xs.length : Int)) = true:=decide_eq_true hlt
   have hlt' : i < xs.length:=by omega
   have c3b1 : decide (i < xs.length) = true:=decide_eq_true hlt'
   obtain ⟨ad,A3,c3,A7,c7,e1,hx0,hx1,hx2,hx3,hx4,hx5,hx6,hx7,hx8,hl3,hi3,hl7,hi7⟩:=at_T48 HC.out (i : Int) (by omega) hlt
   cases e1
   obtain ⟨x,hx⟩ : ∃ x,x = xs[i]:=⟨_,rfl⟩
   rw [show rd_T48 xs (i : Int) = x by rw [hx];unfold rd_T48;simp [List.getD,hlt']] at hx0 hx1 hx2 hx3 hx4 hx5 hx6 hx7 hx8 hl3 hi3 hl7 hi7
   simp only [Int.toNat_natCast] at hx0 hx1 hx2 hx3 hx4 hx5 hx6 hx7 hx8
   have HX:=asd (show x ∈ xs by rw [hx];exact List.getElem_mem hlt')
   have HT:=asd (show xs.take (i + 1) = ys ++ [x] by rw [hx,HYS.out];exact List.take_succ_eq_append_getElem hlt')
   have HI3:=asd hi3
   have HL3:=asd hl3
   have HI7:=asd hi7
   have HL7:=asd hl7
   clear hi3 hl3 hi7 hl7 hx
   replace hx0:=(HR.out.bel.cell (World.block_lt_of_cell? w _ hx0)).trans hx0
   replace hx1:=(HR.out.bel.cell (World.block_lt_of_cell? w _ hx1)).trans hx1
   replace hx2:=(HR.out.bel.cell (World.block_lt_of_cell? w _ hx2)).trans hx2
   replace hx3:=(HR.out.bel.cell (World.block_lt_of_cell? w _ hx3)).trans hx3
   replace hx4:=(HR.out.bel.cell (World.block_lt_of_cell? w _ hx4)).trans hx4
   replace hx5:=(HR.out.bel.cell (World.block_lt_of_cell? w _ hx5)).trans hx5
   replace hx6:=(HR.out.bel.cell (World.block_lt_of_cell? w _ hx6)).trans hx6
   replace hx7:=(HR.out.bel.cell (World.block_lt_of_cell? w _ hx7)).trans hx7
   replace hx8:=(HR.out.bel.cell (World.block_lt_of_cell? w _ hx8)).trans hx8
   go_wp2_with (first
    | ((with_reducible refine gate_dst (N:=5) rfl ?_);refine box_event ?hg5 (N:=5) ?hd5 (cs:=#[.int .i64 0,.string (⟨#[]⟩ : ByteArray),.int .i64 0,.slice none 0 0,.int .i64 0,.string (⟨#[]⟩ : ByteArray),.int .i64 0,.slice none 0 0,.string (⟨#[]⟩ : ByteArray)]) (t:=48) ?hr5 ?_;(case hd5 => rfl);(case hg5 => rfl);(case hr5 => first | (go_simp;done) | (go_simp;rfl));intro gk hg w11 hbox hb;replace HR:=asd (HR.out.box hg hb hbox);clear hg hbox hb;have hc1_gk_0 : w11.cell? ⟨gk,0,none⟩ = some (.int .i64 0):=HR.out.cell 0 rfl 0 rfl;have hc1_gk_1 : w11.cell? ⟨gk,1,none⟩ = some (.string (⟨#[]⟩ : ByteArray)):=HR.out.cell 0 rfl 1 rfl;have hc1_gk_2 : w11.cell? ⟨gk,2,none⟩ = some (.int .i64 0):=HR.out.cell 0 rfl 2 rfl;have hc1_gk_3 : w11.cell? ⟨gk,3,none⟩ = some (.slice none 0 0):=HR.out.cell 0 rfl 3 rfl;have hc1_gk_4 : w11.cell? ⟨gk,4,none⟩ = some (.int .i64 0):=HR.out.cell 0 rfl 4 rfl;have hc1_gk_5 : w11.cell? ⟨gk,5,none⟩ = some (.string (⟨#[]⟩ : ByteArray)):=HR.out.cell 0 rfl 5 rfl;have hc1_gk_6 : w11.cell? ⟨gk,6,none⟩ = some (.int .i64 0):=HR.out.cell 0 rfl 6 rfl;have hc1_gk_7 : w11.cell? ⟨gk,7,none⟩ = some (.slice none 0 0):=HR.out.cell 0 rfl 7 rfl;have hc1_gk_8 : w11.cell? ⟨gk,8,none⟩ = some (.string (⟨#[]⟩ : ByteArray)):=HR.out.cell 0 rfl 8 rfl;have fc1_gk_0:=HR.out.free 0 rfl 0;have fc1_gk_1:=HR.out.free 0 rfl 1;have fc1_gk_2:=HR.out.free 0 rfl 2;have fc1_gk_3:=HR.out.free 0 rfl 3;have fc1_gk_4:=HR.out.free 0 rfl 4;have fc1_gk_5:=HR.out.free 0 rfl 5;have fc1_gk_6:=HR.out.free 0 rfl 6;have fc1_gk_7:=HR.out.free 0 rfl 7;have fc1_gk_8:=HR.out.free 0 rfl 8)
    | ((with_reducible refine gate_store (t:=48) (p:=5) rfl ?_);refine store_event (t:=48) (p:=5) (v:=?vo12) (w1:=w11.setCells gk 0 [.int .i64 x.f0.f0,.string x.f0.f1,.int .i64 x.f0.f2,.slice A3 x.f0.f3.length c3,.int .i64 x.f1.f0,.string x.f1.f1,.int .i64 x.f1.f2,.slice A7 x.f1.f3.length c7,.string x.f2]) ?hgs12 ?hos12 ?hns12 ?hrs12 ?_;(case hos12 => rfl);(case hgs12 => rfl);(case hns12 => rfl);(case hrs12 => first | (go_simp;done) | (go_simp;rfl));intro w12 hw;replace HR:=asd (hw ▸ HR.out.store 0 rfl [.int .i64 x.f0.f0,.string x.f0.f1,.int .i64 x.f0.f2,.slice A3 x.f0.f3.length c3,.int .i64 x.f1.f0,.string x.f1.f1,.int .i64 x.f1.f2,.slice A7 x.f1.f3.length c7,.string x.f2] rfl);clear hw;clear hc1_gk_0 hc1_gk_1 hc1_gk_2 hc1_gk_3 hc1_gk_4 hc1_gk_5 hc1_gk_6 hc1_gk_7 hc1_gk_8 fc1_gk_0 fc1_gk_1 fc1_gk_2 fc1_gk_3 fc1_gk_4 fc1_gk_5 fc1_gk_6 fc1_gk_7 fc1_gk_8;have hc2_gk_0 : w12.cell? ⟨gk,0,none⟩ = some (.int .i64 x.f0.f0):=HR.out.cell 0 rfl 0 rfl;have hc2_gk_1 : w12.cell? ⟨gk,1,none⟩ = some (.string x.f0.f1):=HR.out.cell 0 rfl 1 rfl;have hc2_gk_2 : w12.cell? ⟨gk,2,none⟩ = some (.int .i64 x.f0.f2):=HR.out.cell 0 rfl 2 rfl;have hc2_gk_3 : w12.cell? ⟨gk,3,none⟩ = some (.slice A3 x.f0.f3.length c3):=HR.out.cell 0 rfl 3 rfl;have hc2_gk_4 : w12.cell? ⟨gk,4,none⟩ = some (.int .i64 x.f1.f0):=HR.out.cell 0 rfl 4 rfl;have hc2_gk_5 : w12.cell? ⟨gk,5,none⟩ = some (.string x.f1.f1):=HR.out.cell 0 rfl 5 rfl;have hc2_gk_6 : w12.cell? ⟨gk,6,none⟩ = some (.int .i64 x.f1.f2):=HR.out.cell 0 rfl 6 rfl;have hc2_gk_7 : w12.cell? ⟨gk,7,none⟩ = some (.slice A7 x.f1.f3.length c7):=HR.out.cell 0 rfl 7 rfl;have hc2_gk_8 : w12.cell? ⟨gk,8,none⟩ = some (.string x.f2):=HR.out.cell 0 rfl 8 rfl)
    | (go_at_call 63;refine (IH.out x HX.out A3 c3 A7 c7 w12 (Kd.C_below HI3.out HR.out.bel) HL3.out (Kd.C_below HI7.out HR.out.bel) HL7.out).mono ?_;rintro e w13 ⟨A4,c4,A8,c8,rfl,ho,hb⟩;replace HR:=asd (HR.out.push _ hb ho);clear hb ho;clear hc2_gk_0 hc2_gk_1 hc2_gk_2 hc2_gk_3 hc2_gk_4 hc2_gk_5 hc2_gk_6 hc2_gk_7 hc2_gk_8)
    | ((with_reducible refine gate_builtin (b:=.append) (xs:=#[.tmp 12,.tmp 15]) rfl ?_);at_builtin;refine HR.out.app 2 0 kD59 rfl rfl (by decide) x [.int .i64 x.f0.f0,.string x.f0.f1,.int .i64 x.f0.f2,.slice A4 x.f0.f3.length c4,.int .i64 x.f1.f0,.string x.f1.f1,.int .i64 x.f1.f2,.slice A8 x.f1.f3.length c8,.string x.f2] (fun okj hj_ => hj_.elim fun p h => kD59_mkM _ _ _ p x h.1 h.2) rfl (.tmp 12) (.tmp 15) 39 (.agg #[(.int .i64 0),(.string ⟨#[]⟩),(.int .i64 0),(.slice none 0 0),(.int .i64 0),(.string ⟨#[]⟩),(.int .i64 0),(.slice none 0 0),(.string ⟨#[]⟩)]) 128 rfl Tryd.underlying39 info48 rfl (by decide) (by omega) rfl rfl (by have h1_:=HL.out;have h2_ : ys.length ≤ xs.length:=(by rw [HYS.out,List.length_take];omega);omega) ?_;intro v_ w14 hq_;obtain ⟨l_n,hz_⟩ : ∃ z_,z_ = (ys ++ [x]):=⟨_,rfl⟩;rw [← hz_] at hq_;have HZ_n:=asd hz_;clear hz_;obtain ⟨A_n,c_n,rfl⟩:=Kd.S_slice (hq_.has 2 rfl);clear HR;have HR:=asd hq_;clear hq_))
   go_roundg (xs.length - (i + 1))
   case measure => have:=hi.out;omega
   case rel => exact ⟨i + 1,A_n,c_n,l_n,by rw [next_i i _ hlt' HL.out],rfl,⟨by have:=hi.out;omega⟩,⟨HZ_n.out.trans HT.out.symm⟩,⟨HR.out.pick [2] (by decide)⟩⟩
  ·have c3b0 : decide ((i : Int) < (xs.length : Int)) = false:=decide_eq_false hlt
   have c3b1 : decide (i < xs.length) = false:=decide_eq_false (by omega)
   have he : ys = xs:=HYS.out.trans (List.take_of_length_le (by omega))
   rw [he] at HR ⊢
   clear he
   go_wp2
   go_ret
   exact ⟨_,_,rfl,As.mono _ (fun k hk => hk.elim False.elim id) (HR.out.one 0 rfl),HR.out.bel⟩
set_option maxHeartbeats 16000000 in
set_option maxRecDepth 100000 in
theorem cpDb (xs : List S48) (os : List ByteArray) (hlen : xs.length ≤ 1048576) (hlo : os.length ≤ 1048576) (ih : ∀ x ∈ xs,CpCl x) (A : Option Addr) (c : Nat) (B : Option Addr) (d : Nat) (w : World) (hC : Kd.C k48 w A xs.length xs) (hc : xs.length ≤ c) (hD : Kd.C Kd.string w B os.length os) (hd : os.length ≤ d) : Calls Tryd.prog 72 #[.agg #[.slice A xs.length c,.slice B os.length d]] w fun e w' => MadeDb xs os w e w':=by
 have HC:=asd hC
 have HCC:=asd hc
 have HD:=asd hD
 have HDD:=asd hd
 have HL:=asd hlen
 have HLO:=asd hlo
 have IH:=asd ih
 have HR:=asd (run_law w)
 clear hC hc hD hd hlen hlo ih
 go_enter Tryd.func72,Tryd.ntmps72
 go_wp2_with (first
  | ((with_reducible refine gate_dst (N:=1) rfl ?_);refine box_event ?hg1 (N:=1) ?hd1 (cs:=#[.slice A xs.length c,.slice B os.length d]) (t:=41) ?hr1 ?_;(case hd1 => rfl);(case hg1 => rfl);(case hr1 => first | (go_simp;done) | (go_simp;rfl));intro ga hg w1 hbox hb;replace HR:=asd (HR.out.box hg hb hbox);clear hg hbox hb)
  | ((with_reducible refine gate_dst (N:=2) rfl ?_);refine box_event ?hg2 (N:=2) ?hd2 (cs:=#[.slice none 0 0,.slice none 0 0]) (t:=41) ?hr2 ?_;(case hd2 => rfl);(case hg2 => rfl);(case hr2 => first | (go_simp;done) | (go_simp;rfl));intro gr hg w2 hbox hb;replace HR:=asd (HR.out.box hg hb hbox);clear hg hbox hb))
 replace HR:=asd (HR.out.drew)
 refine start_ (n:=8) (S:=fun w' => w'.cell? ⟨ga,0,none⟩ = some (.slice A xs.length c) ∧ w'.cell? ⟨ga,1,none⟩ = some (.slice B os.length d)) (ds:=[7]) #[false,false,false,false,false,false,false,false] (by kernel_rfl) rfl rfl ⟨HR.out.cell 1 rfl 0 rfl,HR.out.cell 1 rfl 1 rfl⟩ (fun hHeld => ?_);refine with_tabW cd1_tab cd1_bits (fun HT_ HW_ => ?_)
 generalize w2.drew = w3 at HR hHeld ⊢
 refine pure_ (i:=0) (N:=some 3) (v:=?_) (a':=?_) #[true,false,false,false,false,false,false,false] rfl rfl (any_of HT_.out (by kernel_rfl)) (fun _ _ _ h => h) (Or.inl ⟨by rfl,?_⟩) ?_ ?_
 rotate_left
 ·intro w'
  go_simp
  with_reducible rfl
 rotate_left
 ·simp only [Act.put,List.setIfInBounds_toArray,List.set_cons_zero,List.set_cons_succ,i64_w,i32_w]
  rfl
 refine pure_ (i:=3) (N:=some 6) (v:=?_) (a':=?_) #[true,false,false,true,false,false,false,false] rfl rfl (any_of HT_.out (by kernel_rfl)) (fun _ _ _ h => h) (Or.inl ⟨by rfl,?_⟩) ?_ ?_
 rotate_left
 ·intro w'
  go_simp
  with_reducible rfl
 rotate_left
 ·simp only [Act.put,List.setIfInBounds_toArray,List.set_cons_zero,List.set_cons_succ,i64_w,i32_w]
  rfl
 refine take_ (i:=1) (N:=some 4) (v:=?_) (a':=?_) #[true,true,false,true,false,false,false,false] rfl rfl (take_ofW HT_.out HW_.out (by kernel_rfl)) (fun _ _ _ h => h) (Or.inl ⟨by rfl,?_⟩) hHeld ?_ ?_
 rotate_left
 ·rintro w' ⟨s0,s1⟩
  go_simp
  with_reducible rfl
 rotate_left
 ·simp only [Act.put,List.setIfInBounds_toArray,List.set_cons_zero,List.set_cons_succ,i64_w,i32_w]
  rfl
 refine take_ (i:=4) (N:=some 7) (v:=?_) (a':=?_) #[true,true,false,true,true,false,false,false] rfl rfl (take_ofW HT_.out HW_.out (by kernel_rfl)) (fun _ _ _ h => h) (Or.inl ⟨by rfl,?_⟩) hHeld ?_ ?_
 rotate_left
 ·rintro w' ⟨s0,s1⟩
  go_simp
  with_reducible rfl
 rotate_left
 ·simp only [Act.put,List.setIfInBounds_toArray,List.set_cons_zero,List.set_cons_succ,i64_w,i32_w]
  rfl
 refine one_ (i:=2) (N:=some 5) #[true,true,true,true,true,false,false,false] rfl rfl (one_of HT_.out (by kernel_rfl)) (by decide) (fun K hK => ?_)
 refine goes_ Tryd.func93 (by kernel_rfl) rfl #[.slice A xs.length c] (by rfl) rfl rfl (by (try simp only [List.map_toArray,List.map_cons,List.map_nil]);first|done|rfl) ?_
 refine (cpCs xs HL.out IH.out A c w3 (Kd.C_below HC.out HR.out.bel) HCC.out).mono ?_
 rintro e w4 ⟨A1,c1,rfl,ho,hb⟩
 refine ⟨_,rfl,?_⟩
 replace HR:=asd (HR.out.push _ hb ho)
 clear ho hb
 refine hK.out _ _ ⟨HR.out.cell 2 rfl 0 rfl,HR.out.cell 2 rfl 1 rfl⟩ (fun hHeld => ?_)
 clear hK K
 refine norm_ (a':=?_) ?_ ?_
 rotate_left
 ·show Act.put _ (some 5) _ = _
  simp only [Act.put,List.setIfInBounds_toArray,List.set_cons_zero,List.set_cons_succ,i64_w,i32_w]
  rfl
 refine one_ (i:=5) (N:=some 8) #[true,true,true,true,true,true,false,false] rfl rfl (one_of HT_.out (by kernel_rfl)) (by decide) (fun K hK => ?_)
 refine Kd.R_append_rows_step Kd.string (w0:=w4) w4.heap.size (by rfl) (.const (.slice none 0 0)) (.tmp 7) 34 9 (.string ⟨#[]⟩) 16 rfl Tryd.underlying34 info9 rfl (by decide) (by omega) (.slice none 0 0) [] os B os.length d (fun k_ => w4.heap.size ≤ k_) (fun _ => False) rfl rfl (Kd.R_nil _ _ _ _ _) (Kd.C_below HD.out HR.out.bel) (fun _ _ h => h) (fun _ h => h.elim) (fun _ h => h) (Below.refl _ _) (Nat.le_refl _) (by have:=HLO.out;simp only [List.length_nil];omega) ?_
 intro v_ w5 ho hb hg hat
 rw [List.nil_append] at ho
 obtain ⟨B1,d1,rfl⟩:=Kd.R_slice ho
 replace HR:=asd (HR.out.push (As.rrow Kd.string 9 _ os) hb ho)
 clear ho hb hg hat
 refine hK.out _ _ ⟨HR.out.cell 3 rfl 0 rfl,HR.out.cell 3 rfl 1 rfl⟩ (fun hHeld => ?_)
 clear hK K
 refine norm_ (a':=?_) ?_ ?_
 rotate_left
 ·show Act.put _ (some 8) _ = _
  simp only [Act.put,List.setIfInBounds_toArray,List.set_cons_zero,List.set_cons_succ,i64_w,i32_w]
  rfl
 refine pure_ (i:=6) (N:=some 9) (v:=?_) (a':=?_) #[true,true,true,true,true,true,true,false] rfl rfl (any_of HT_.out (by kernel_rfl)) (fun _ _ _ h => h) (Or.inl ⟨by rfl,?_⟩) ?_ ?_
 rotate_left
 ·intro w'
  go_simp
  with_reducible rfl
 rotate_left
 ·simp only [Act.put,List.setIfInBounds_toArray,List.set_cons_zero,List.set_cons_succ,i64_w,i32_w]
  rfl
 refine last_ (i:=7) (N:=none) #[true,true,true,true,true,true,true,true] rfl rfl (one_of HT_.out (by kernel_rfl)) (by decide) (fun K hK => ?_)
 have hz0_ : w5.cell? ⟨gr,0,none⟩ = some (.slice none 0 0):=HR.out.cell 2 rfl 0 rfl
 have fz0_:=HR.out.free 2 rfl 0
 have hz1_ : w5.cell? ⟨gr,1,none⟩ = some (.slice none 0 0):=HR.out.cell 2 rfl 1 rfl
 have fz1_:=HR.out.free 2 rfl 1
 refine skip_ (w1:=w5.setCells gr 0 [.slice A1 xs.length c1,.slice B1 os.length d1]) (by rfl) rfl ?_ ?_
 ·first|(go_simp;done)|(go_simp;rfl)
 refine hK.out _ _ ?_
 clear hK K hz0_ fz0_ hz1_ fz1_
 replace HR:=asd (HR.out.store 2 rfl [.slice A1 xs.length c1,.slice B1 os.length d1] rfl)
 generalize w5.setCells gr 0 [.slice A1 xs.length c1,.slice B1 os.length d1] = w6 at HR ⊢
 refine done_ (done_of HT_.out (by kernel_rfl)) ?_
 try go_wp2
 refine bodyPost_ret (results_cell_row rfl _ _ gr 41 #[.slice A1 xs.length c1,.slice B1 os.length d1] (0,0) _ rfl (HR.out.has 2 rfl).2 Tryd.underlying41 rfl (by kernel_rfl)) rfl ?_
 exact ⟨_,_,_,_,rfl,As.mono _ (fun k hk => hk.elim False.elim id) (HR.out.two 1 0 rfl rfl (by decide)),HR.out.bel⟩
end
section
set_option linter.unusedSectionVars false
variable [fk_laws_szTerm] [fk_laws_eqTerm] [fk_spec_l34Term] [fk_strconv_Itoa]
def ad2_T : Bool × List (List Nat × List Nat):=(true,[([],[]),([0],[0]),([],[]),([2],[2]),([3],[3]),([1,4,3],[1,4]),([0,1,2,3,4,5],[]),([6,5,5,0,1,2,3,4,5],[5,6])])
def ad2_B : List Nat:=[0,1,0,4,12,31,63,127]
theorem ad2_tab : rtab .any (opsOf Tryd.f37 2) = ad2_T:=by kernel_rfl
theorem ad2_bits : waitsOk ad2_T.2 ad2_B = true:=by kernel_rfl
theorem rdR {b : Nat} {W : World} {ok : Nat → Prop} {A : Option Addr} {n c : Nat} {os : List ByteArray} (h : (As.rrow Kd.string 9 (.slice A n c) os).M b W ok) : n ≤ c ∧ Kd.C Kd.string W A n os:=by
 obtain ⟨h1,h2,h3⟩:=Kd.R_reads' h
 rw [h1]
 exact ⟨by omega,h3⟩
set_option maxHeartbeats 16000000 in
set_option maxRecDepth 100000 in
theorem added_ok (xs : List S48) (os : List ByteArray) (x : S48) (hlen : xs.length ≤ 1048576) (hlo : os.length ≤ 1048576) (ih : ∀ x ∈ xs,CpCl x) (hx : CpCl x) (A : Option Addr) (c : Nat) (B : Option Addr) (d : Nat) (A5 : Option Addr) (c5 : Nat) (A6 : Option Addr) (c6 : Nat) (w : World) (hC : Kd.C k48 w A xs.length xs) (hc : xs.length ≤ c) (hD : Kd.C Kd.string w B os.length os) (hd : os.length ≤ d) (h5 : Kd.C k29 w A5 x.f0.f3.length x.f0.f3) (l5 : x.f0.f3.length ≤ c5) (h6 : Kd.C k29 w A6 x.f1.f3.length x.f1.f3) (l6 : x.f1.f3.length ≤ c6)
  (hok : ∀ (A : Option Addr) (c : Nat) (B : Option Addr) (d : Nat) (W : World),Below w.heap.size w W → Kd.C k48 W A (xs ++ [x]).length (xs ++ [x]) → (xs ++ [x]).length ≤ c → Kd.C Kd.string W B os.length os → os.length ≤ d → Calls Tryd.prog 21 #[.agg #[.slice A (xs ++ [x]).length c,.slice B os.length d]] W fun e W' => e = .returned (.bool true) ∧ Below W.heap.size W W') :
  Calls Tryd.prog 37 #[.agg #[.slice A xs.length c,.slice B os.length d],.agg #[.int .i64 x.f0.f0,.string x.f0.f1,.int .i64 x.f0.f2,.slice A5 x.f0.f3.length c5,.int .i64 x.f1.f0,.string x.f1.f1,.int .i64 x.f1.f2,.slice A6 x.f1.f3.length c6,.string x.f2]] w fun e w' => ∃ A c B d,e = .returned (.tuple #[.agg #[.slice A (xs ++ [x]).length c,.slice B os.length d],.bool true]) ∧ (adb (.slice A (xs ++ [x]).length c) (xs ++ [x]) (.slice B os.length d) os).M w.heap.size w' (fun k => w.heap.size ≤ k) ∧ Below w.heap.size w w':=by
 have HC:=asd hC
 have HCC:=asd hc
 have HD:=asd hD
 have HDD:=asd hd
 have HL:=asd hlen
 have HLO:=asd hlo
 have IH:=asd ih
 have H5:=asd h5
 have L5:=asd l5
 have H6:=asd h6
 have L6:=asd l6
 have HOK:=asd hok
 unfold CpCl at hx
 have HX:=asd hx
 have HR:=asd (run_law w)
 clear hC hc hD hd hlen hlo ih h5 l5 h6 l6 hok hx
 go_enter Tryd.func37,Tryd.ntmps37
 go_wp2_with (first
  | ((with_reducible refine gate_dst (N:=2) rfl ?_);refine box_event ?hg2 (N:=2) ?hd2 (cs:=#[.slice A xs.length c,.slice B os.length d]) (t:=41) ?hr2 ?_;(case hd2 => rfl);(case hg2 => rfl);(case hr2 => first | (go_simp;done) | (go_simp;rfl));intro gd hg w1 hbox hb;replace HR:=asd (HR.out.box hg hb hbox);clear hg hbox hb)
  | ((with_reducible refine gate_dst (N:=3) rfl ?_);refine box_event ?hg3 (N:=3) ?hd3 (cs:=#[.int .i64 x.f0.f0,.string x.f0.f1,.int .i64 x.f0.f2,.slice A5 x.f0.f3.length c5,.int .i64 x.f1.f0,.string x.f1.f1,.int .i64 x.f1.f2,.slice A6 x.f1.f3.length c6,.string x.f2]) (t:=48) ?hr3 ?_;(case hd3 => rfl);(case hg3 => rfl);(case hr3 => first | (go_simp;done) | (go_simp;rfl));intro gc hg w2 hbox hb;replace HR:=asd (HR.out.box hg hb hbox);clear hg hbox hb)
  | ((with_reducible refine gate_dst (N:=4) rfl ?_);refine box_event ?hg4 (N:=4) ?hd4 (cs:=#[.slice none 0 0,.slice none 0 0]) (t:=41) ?hr4 ?_;(case hd4 => rfl);(case hg4 => rfl);(case hr4 => first | (go_simp;done) | (go_simp;rfl));intro gr hg w3 hbox hb;replace HR:=asd (HR.out.box hg hb hbox);clear hg hbox hb;have hc3_gd_0 : w3.cell? ⟨gd,0,none⟩ = some (.slice A xs.length c):=HR.out.cell 2 rfl 0 rfl;have hc3_gd_1 : w3.cell? ⟨gd,1,none⟩ = some (.slice B os.length d):=HR.out.cell 2 rfl 1 rfl)
  | (go_at_call 72;refine (cpDb xs os HL.out HLO.out IH.out A c B d w3 (Kd.C_below HC.out HR.out.bel) HCC.out (Kd.C_below HD.out HR.out.bel) HDD.out).mono ?_;rintro e w4 ⟨A1,c1,B1,d1,rfl,ho,hb⟩;replace HR:=asd (HR.out.push _ hb ho);clear hb ho;clear hc3_gd_0 hc3_gd_1)
  | ((with_reducible refine gate_dst (N:=6) rfl ?_);refine box_event ?hg6 (N:=6) ?hd6 (cs:=#[.slice none 0 0,.slice none 0 0]) (t:=41) ?hr6 ?_;(case hd6 => rfl);(case hg6 => rfl);(case hr6 => first | (go_simp;done) | (go_simp;rfl));intro go hg w5 hbox hb;replace HR:=asd (HR.out.box hg hb hbox);clear hg hbox hb;have hc5_go_0 : w5.cell? ⟨go,0,none⟩ = some (.slice none 0 0):=HR.out.cell 0 rfl 0 rfl;have hc5_go_1 : w5.cell? ⟨go,1,none⟩ = some (.slice none 0 0):=HR.out.cell 0 rfl 1 rfl;have fc5_go_0:=HR.out.free 0 rfl 0;have fc5_go_1:=HR.out.free 0 rfl 1)
  | ((with_reducible refine gate_store (t:=41) (p:=6) rfl ?_);refine store_event (t:=41) (p:=6) (v:=?vo6) (w1:=w5.setCells go 0 [.slice A1 xs.length c1,.slice B1 os.length d1]) ?hgs6 ?hos6 ?hns6 ?hrs6 ?_;(case hos6 => rfl);(case hgs6 => rfl);(case hns6 => rfl);(case hrs6 => first | (go_simp;done) | (go_simp;rfl));intro w6 hw;replace HR:=asd (hw ▸ HR.out.store 0 rfl [.slice A1 xs.length c1,.slice B1 os.length d1] rfl);clear hw;clear hc5_go_0 hc5_go_1 fc5_go_0 fc5_go_1))
 replace HR:=asd (HR.out.part 1 rfl)
 replace HR:=asd (HR.out.drew)
 refine start_ (n:=8) (S:=fun w' => w'.cell? ⟨go,0,none⟩ = some (.slice A1 xs.length c1) ∧ w'.cell? ⟨go,1,none⟩ = some (.slice B1 os.length d1) ∧ w'.cell? ⟨gc,0,none⟩ = some (.int .i64 x.f0.f0) ∧ w'.cell? ⟨gc,1,none⟩ = some (.string x.f0.f1) ∧ w'.cell? ⟨gc,2,none⟩ = some (.int .i64 x.f0.f2) ∧ w'.cell? ⟨gc,3,none⟩ = some (.slice A5 x.f0.f3.length c5) ∧ w'.cell? ⟨gc,4,none⟩ = some (.int .i64 x.f1.f0) ∧ w'.cell? ⟨gc,5,none⟩ = some (.string x.f1.f1) ∧ w'.cell? ⟨gc,6,none⟩ = some (.int .i64 x.f1.f2) ∧ w'.cell? ⟨gc,7,none⟩ = some (.slice A6 x.f1.f3.length c6) ∧ w'.cell? ⟨gc,8,none⟩ = some (.string x.f2)) (ds:=[7]) #[false,false,false,false,false,false,false,false] (by kernel_rfl) rfl rfl ⟨HR.out.cell 1 rfl 0 rfl,HR.out.cell 1 rfl 1 rfl,HR.out.cell 4 rfl 0 rfl,HR.out.cell 4 rfl 1 rfl,HR.out.cell 4 rfl 2 rfl,HR.out.cell 4 rfl 3 rfl,HR.out.cell 4 rfl 4 rfl,HR.out.cell 4 rfl 5 rfl,HR.out.cell 4 rfl 6 rfl,HR.out.cell 4 rfl 7 rfl,HR.out.cell 4 rfl 8 rfl⟩ (fun hHeld => ?_);refine with_tabW ad2_tab ad2_bits (fun HT_ HW_ => ?_)
 generalize w6.drew = w7 at HR hHeld ⊢
 refine pure_ (i:=0) (N:=some 9) (v:=?_) (a':=?_) #[true,false,false,false,false,false,false,false] rfl rfl (any_of HT_.out (by kernel_rfl)) (fun _ _ _ h => h) (Or.inl ⟨by rfl,?_⟩) ?_ ?_
 rotate_left
 ·intro w'
  go_simp
  with_reducible rfl
 rotate_left
 ·simp only [Act.put,List.setIfInBounds_toArray,List.set_cons_zero,List.set_cons_succ,i64_w,i32_w]
  rfl
 refine take_ (i:=1) (N:=some 10) (v:=?_) (a':=?_) #[true,true,false,false,false,false,false,false] rfl rfl (take_ofW HT_.out HW_.out (by kernel_rfl)) (fun _ _ _ h => h) (Or.inl ⟨by rfl,?_⟩) hHeld ?_ ?_
 rotate_left
 ·rintro w' ⟨s0,s1,s2,s3,s4,s5,s6,s7,s8,s9,s10⟩
  go_simp
  with_reducible rfl
 rotate_left
 ·simp only [Act.put,List.setIfInBounds_toArray,List.set_cons_zero,List.set_cons_succ,i64_w,i32_w]
  rfl
 refine take_ (i:=2) (N:=some 11) (v:=?_) (a':=?_) #[true,true,true,false,false,false,false,false] rfl rfl (take_ofW HT_.out HW_.out (by kernel_rfl)) (fun _ _ _ h => h) (Or.inl ⟨by rfl,?_⟩) hHeld ?_ ?_
 rotate_left
 ·rintro w' ⟨s0,s1,s2,s3,s4,s5,s6,s7,s8,s9,s10⟩
  go_simp
  with_reducible rfl
 rotate_left
 ·simp only [Act.put,List.setIfInBounds_toArray,List.set_cons_zero,List.set_cons_succ,i64_w,i32_w]
  rfl
 refine one_ (i:=3) (N:=some 12) #[true,true,true,true,false,false,false,false] rfl rfl (one_of HT_.out (by kernel_rfl)) (by decide) (fun K hK => ?_)
 refine goes_ Tryd.func63 (by kernel_rfl) rfl #[.agg #[.int .i64 x.f0.f0,.string x.f0.f1,.int .i64 x.f0.f2,.slice A5 x.f0.f3.length c5,.int .i64 x.f1.f0,.string x.f1.f1,.int .i64 x.f1.f2,.slice A6 x.f1.f3.length c6,.string x.f2]] (by rfl) rfl rfl (by (try simp only [List.map_toArray,List.map_cons,List.map_nil]);first|done|rfl) ?_
 refine (HX.out A5 c5 A6 c6 w7 (Kd.C_below H5.out HR.out.bel) L5.out (Kd.C_below H6.out HR.out.bel) L6.out).mono ?_
 rintro e w8 ⟨A3,c3,A4,c4,rfl,ho,hb⟩
 refine ⟨_,rfl,?_⟩
 replace HR:=asd (HR.out.push _ hb ho)
 clear ho hb
 refine hK.out _ _ ⟨HR.out.cell 2 rfl 0 rfl,HR.out.cell 2 rfl 1 rfl,HR.out.cell 5 rfl 0 rfl,HR.out.cell 5 rfl 1 rfl,HR.out.cell 5 rfl 2 rfl,HR.out.cell 5 rfl 3 rfl,HR.out.cell 5 rfl 4 rfl,HR.out.cell 5 rfl 5 rfl,HR.out.cell 5 rfl 6 rfl,HR.out.cell 5 rfl 7 rfl,HR.out.cell 5 rfl 8 rfl⟩ (fun hHeld => ?_)
 clear hK K
 refine norm_ (a':=?_) ?_ ?_
 rotate_left
 ·show Act.put _ (some 12) _ = _
  simp only [Act.put,List.setIfInBounds_toArray,List.set_cons_zero,List.set_cons_succ,i64_w,i32_w]
  rfl
 refine one_ (i:=4) (N:=some 13) #[true,true,true,true,true,false,false,false] rfl rfl (one_of HT_.out (by kernel_rfl)) (by decide) (fun K hK => ?_)
 refine value_ (w1:=?_) (v:=?_) (by rfl) rfl ?_ ?_
 rotate_left 2
 ·go_simp
  constructor
  ·rfl
  ·rfl
 refine hK.out _ _ ⟨(blk_cell (blk_alloc (HR.out.has 2 rfl).2 _) 0).trans rfl,(blk_cell (blk_alloc (HR.out.has 2 rfl).2 _) 1).trans rfl,(blk_cell (blk_alloc (HR.out.has 5 rfl).2 _) 0).trans rfl,(blk_cell (blk_alloc (HR.out.has 5 rfl).2 _) 1).trans rfl,(blk_cell (blk_alloc (HR.out.has 5 rfl).2 _) 2).trans rfl,(blk_cell (blk_alloc (HR.out.has 5 rfl).2 _) 3).trans rfl,(blk_cell (blk_alloc (HR.out.has 5 rfl).2 _) 4).trans rfl,(blk_cell (blk_alloc (HR.out.has 5 rfl).2 _) 5).trans rfl,(blk_cell (blk_alloc (HR.out.has 5 rfl).2 _) 6).trans rfl,(blk_cell (blk_alloc (HR.out.has 5 rfl).2 _) 7).trans rfl,(blk_cell (blk_alloc (HR.out.has 5 rfl).2 _) 8).trans rfl⟩ (fun hHeld => ?_)
 clear hK K
 refine norm_ (a':=?_) ?_ ?_
 rotate_left
 ·show Act.put _ (some 13) _ = _
  simp only [Act.put,List.setIfInBounds_toArray,List.set_cons_zero,List.set_cons_succ,i64_w,i32_w]
  rfl
 refine one_ (i:=5) (N:=some 14) #[true,true,true,true,true,true,false,false] rfl rfl (one_of HT_.out (by kernel_rfl)) (by decide) (fun K hK => ?_)
 refine HR.out.appStep 3 0 kD59 rfl rfl (by decide) x [.int .i64 x.f0.f0,.string x.f0.f1,.int .i64 x.f0.f2,.slice A3 x.f0.f3.length c3,.int .i64 x.f1.f0,.string x.f1.f1,.int .i64 x.f1.f2,.slice A4 x.f1.f3.length c4,.string x.f2] (fun okj hj_ => hj_.elim fun p h => kD59_mkM _ _ _ p x h.1 h.2) (by rfl) (.tmp 10) (.tmp 13) 39 (.agg #[(.int .i64 0),(.string ⟨#[]⟩),(.int .i64 0),(.slice none 0 0),(.int .i64 0),(.string ⟨#[]⟩),(.int .i64 0),(.slice none 0 0),(.string ⟨#[]⟩)]) 128 rfl Tryd.underlying39 info48 rfl (by decide) (by omega) rfl rfl (by have h1_:=HL.out;omega) ?_
 intro v_ w9 hq_
 obtain ⟨l_n,hz_⟩ : ∃ z_,z_ = (xs ++ [x]):=⟨_,rfl⟩
 rw [← hz_] at hq_
 have HZ_n:=asd hz_
 clear hz_
 obtain ⟨A_n,c_n,rfl⟩:=Kd.S_slice (hq_.has 3 rfl)
 clear HR
 have HR:=asd hq_
 clear hq_
 refine hK.out _ _ ⟨HR.out.cell 2 rfl 0 rfl,HR.out.cell 2 rfl 1 rfl,HR.out.cell 5 rfl 0 rfl,HR.out.cell 5 rfl 1 rfl,HR.out.cell 5 rfl 2 rfl,HR.out.cell 5 rfl 3 rfl,HR.out.cell 5 rfl 4 rfl,HR.out.cell 5 rfl 5 rfl,HR.out.cell 5 rfl 6 rfl,HR.out.cell 5 rfl 7 rfl,HR.out.cell 5 rfl 8 rfl⟩ (fun hHeld => ?_)
 clear hK K
 refine norm_ (a':=?_) ?_ ?_
 rotate_left
 ·show Act.put _ (some 14) _ = _
  simp only [Act.put,List.setIfInBounds_toArray,List.set_cons_zero,List.set_cons_succ,i64_w,i32_w]
  rfl
 refine pure_ (i:=6) (N:=some 15) (v:=?_) (a':=?_) #[true,true,true,true,true,true,true,false] rfl rfl (any_of HT_.out (by kernel_rfl)) (fun _ _ _ h => h) (Or.inl ⟨by rfl,?_⟩) ?_ ?_
 rotate_left
 ·intro w'
  go_simp
  with_reducible rfl
 rotate_left
 ·simp only [Act.put,List.setIfInBounds_toArray,List.set_cons_zero,List.set_cons_succ,i64_w,i32_w]
  rfl
 refine last_ (i:=7) (N:=none) #[true,true,true,true,true,true,true,true] rfl rfl (one_of HT_.out (by kernel_rfl)) (by decide) (fun K hK => ?_)
 have hz0_ : w9.cell? ⟨go,0,none⟩ = some (.slice A1 xs.length c1):=HR.out.cell 2 rfl 0 rfl
 have fz0_:=HR.out.free 2 rfl 0
 have hz1_ : w9.cell? ⟨go,1,none⟩ = some (.slice B1 os.length d1):=HR.out.cell 2 rfl 1 rfl
 have fz1_:=HR.out.free 2 rfl 1
 refine skip_ (w1:=w9.setCell ⟨go,0,none⟩ (.slice A_n l_n.length c_n)) (by rfl) rfl ?_ ?_
 ·first|(go_simp;done)|(go_simp;rfl)
 refine hK.out _ _ ?_
 clear hK K hz0_ fz0_ hz1_ fz1_
 replace HR:=asd (HR.out.set 2 rfl 0 (.slice A_n l_n.length c_n))
 generalize w9.setCell ⟨go,0,none⟩ (.slice A_n l_n.length c_n) = w10 at HR ⊢
 refine done_ (done_of HT_.out (by kernel_rfl)) ?_
 have hc7_go_0 : w10.cell? ⟨go,0,none⟩ = some (.slice A_n l_n.length c_n):=HR.out.cell 2 rfl 0 rfl
 have hc7_go_1 : w10.cell? ⟨go,1,none⟩ = some (.slice B1 os.length d1):=HR.out.cell 2 rfl 1 rfl
 have hok2:=HOK.out
 rw [← HZ_n.out] at hok2
 have HOK2:=asd hok2
 clear hok2
 go_wp2_with (first
  | (go_at_call 21;refine (HOK2.out A_n c_n B1 d1 w10 HR.out.bel (readS59 (HR.out.has 3 rfl)).2 (readS59 (HR.out.has 3 rfl)).1 (rdR (HR.out.has 1 rfl)).2 (rdR (HR.out.has 1 rfl)).1).mono ?_;rintro e w11 ⟨rfl,hb⟩;replace HR:=asd (HR.out.step hb);clear hb;clear hc7_go_0 hc7_go_1;have hc8_go_0 : w11.cell? ⟨go,0,none⟩ = some (.slice A_n l_n.length c_n):=HR.out.cell 2 rfl 0 rfl;have hc8_go_1 : w11.cell? ⟨go,1,none⟩ = some (.slice B1 os.length d1):=HR.out.cell 2 rfl 1 rfl;have hc8_gr_0 : w11.cell? ⟨gr,0,none⟩ = some (.slice none 0 0):=HR.out.cell 4 rfl 0 rfl;have hc8_gr_1 : w11.cell? ⟨gr,1,none⟩ = some (.slice none 0 0):=HR.out.cell 4 rfl 1 rfl;have fc8_gr_0:=HR.out.free 4 rfl 0;have fc8_gr_1:=HR.out.free 4 rfl 1)
  | ((with_reducible refine gate_store (t:=41) (p:=4) rfl ?_);refine store_event (t:=41) (p:=4) (v:=?vo12) (w1:=w11.setCells gr 0 [.slice A_n l_n.length c_n,.slice B1 os.length d1]) ?hgs12 ?hos12 ?hns12 ?hrs12 ?_;(case hos12 => rfl);(case hgs12 => rfl);(case hns12 => rfl);(case hrs12 => first | (go_simp;done) | (go_simp;rfl));intro w12 hw;replace HR:=asd (hw ▸ HR.out.store 4 rfl [.slice A_n l_n.length c_n,.slice B1 os.length d1] rfl);clear hw;clear hc8_go_0 hc8_go_1 hc8_gr_0 hc8_gr_1 fc8_gr_0 fc8_gr_1))
 refine bodyPost_ret (results_ct rfl _ _ gr 41 #[.slice A_n l_n.length c_n,.slice B1 os.length d1] (0,0) _ rfl (HR.out.has 4 rfl).2 Tryd.underlying41 rfl (by kernel_rfl)) rfl ?_
 rw [← HZ_n.out]
 exact ⟨_,_,_,_,rfl,As.mono _ (fun k hk => hk.elim False.elim id) (HR.out.two 3 1 rfl rfl (by decide)),HR.out.bel⟩
set_option maxHeartbeats 16000000 in
set_option maxRecDepth 100000 in
theorem added_no (xs : List S48) (os : List ByteArray) (x : S48) (hlen : xs.length ≤ 1048576) (hlo : os.length ≤ 1048576) (ih : ∀ x ∈ xs,CpCl x) (hx : CpCl x) (A : Option Addr) (c : Nat) (B : Option Addr) (d : Nat) (A5 : Option Addr) (c5 : Nat) (A6 : Option Addr) (c6 : Nat) (w : World) (hC : Kd.C k48 w A xs.length xs) (hc : xs.length ≤ c) (hD : Kd.C Kd.string w B os.length os) (hd : os.length ≤ d) (h5 : Kd.C k29 w A5 x.f0.f3.length x.f0.f3) (l5 : x.f0.f3.length ≤ c5) (h6 : Kd.C k29 w A6 x.f1.f3.length x.f1.f3) (l6 : x.f1.f3.length ≤ c6)
  (hok : ∀ (A : Option Addr) (c : Nat) (B : Option Addr) (d : Nat) (W : World),Below w.heap.size w W → Kd.C k48 W A (xs ++ [x]).length (xs ++ [x]) → (xs ++ [x]).length ≤ c → Kd.C Kd.string W B os.length os → os.length ≤ d → Calls Tryd.prog 21 #[.agg #[.slice A (xs ++ [x]).length c,.slice B os.length d]] W fun e W' => e = .returned (.bool false) ∧ Below W.heap.size W W') :
  Calls Tryd.prog 37 #[.agg #[.slice A xs.length c,.slice B os.length d],.agg #[.int .i64 x.f0.f0,.string x.f0.f1,.int .i64 x.f0.f2,.slice A5 x.f0.f3.length c5,.int .i64 x.f1.f0,.string x.f1.f1,.int .i64 x.f1.f2,.slice A6 x.f1.f3.length c6,.string x.f2]] w fun e w' => ∃ A c B d,e = .returned (.tuple #[.agg #[.slice A xs.length c,.slice B os.length d],.bool false]) ∧ (adb (.slice A xs.length c) xs (.slice B os.length d) os).M w.heap.size w' (fun k => w.heap.size ≤ k) ∧ Below w.heap.size w w':=by
 have HC:=asd hC
 have HCC:=asd hc
 have HD:=asd hD
 have HDD:=asd hd
 have HL:=asd hlen
 have HLO:=asd hlo
 have IH:=asd ih
 have H5:=asd h5
 have L5:=asd l5
 have H6:=asd h6
 have L6:=asd l6
 have HOK:=asd hok
 unfold CpCl at hx
 have HX:=asd hx
 have HR:=asd (run_law w)
 clear hC hc hD hd hlen hlo ih h5 l5 h6 l6 hok hx
 go_enter Tryd.func37,Tryd.ntmps37
 go_wp2_with (first
  | ((with_reducible refine gate_dst (N:=2) rfl ?_);refine box_event ?hg2 (N:=2) ?hd2 (cs:=#[.slice A xs.length c,.slice B os.length d]) (t:=41) ?hr2 ?_;(case hd2 => rfl);(case hg2 => rfl);(case hr2 => first | (go_simp;done) | (go_simp;rfl));intro gd hg w1 hbox hb;replace HR:=asd (HR.out.box hg hb hbox);clear hg hbox hb)
  | ((with_reducible refine gate_dst (N:=3) rfl ?_);refine box_event ?hg3 (N:=3) ?hd3 (cs:=#[.int .i64 x.f0.f0,.string x.f0.f1,.int .i64 x.f0.f2,.slice A5 x.f0.f3.length c5,.int .i64 x.f1.f0,.string x.f1.f1,.int .i64 x.f1.f2,.slice A6 x.f1.f3.length c6,.string x.f2]) (t:=48) ?hr3 ?_;(case hd3 => rfl);(case hg3 => rfl);(case hr3 => first | (go_simp;done) | (go_simp;rfl));intro gc hg w2 hbox hb;replace HR:=asd (HR.out.box hg hb hbox);clear hg hbox hb)
  | ((with_reducible refine gate_dst (N:=4) rfl ?_);refine box_event ?hg4 (N:=4) ?hd4 (cs:=#[.slice none 0 0,.slice none 0 0]) (t:=41) ?hr4 ?_;(case hd4 => rfl);(case hg4 => rfl);(case hr4 => first | (go_simp;done) | (go_simp;rfl));intro gr hg w3 hbox hb;replace HR:=asd (HR.out.box hg hb hbox);clear hg hbox hb;have hc3_gd_0 : w3.cell? ⟨gd,0,none⟩ = some (.slice A xs.length c):=HR.out.cell 2 rfl 0 rfl;have hc3_gd_1 : w3.cell? ⟨gd,1,none⟩ = some (.slice B os.length d):=HR.out.cell 2 rfl 1 rfl)
  | (go_at_call 72;refine (cpDb xs os HL.out HLO.out IH.out A c B d w3 (Kd.C_below HC.out HR.out.bel) HCC.out (Kd.C_below HD.out HR.out.bel) HDD.out).mono ?_;rintro e w4 ⟨A1,c1,B1,d1,rfl,ho,hb⟩;replace HR:=asd (HR.out.push _ hb ho);clear hb ho;clear hc3_gd_0 hc3_gd_1)
  | ((with_reducible refine gate_dst (N:=6) rfl ?_);refine box_event ?hg6 (N:=6) ?hd6 (cs:=#[.slice none 0 0,.slice none 0 0]) (t:=41) ?hr6 ?_;(case hd6 => rfl);(case hg6 => rfl);(case hr6 => first | (go_simp;done) | (go_simp;rfl));intro go hg w5 hbox hb;replace HR:=asd (HR.out.box hg hb hbox);clear hg hbox hb;have hc5_go_0 : w5.cell? ⟨go,0,none⟩ = some (.slice none 0 0):=HR.out.cell 0 rfl 0 rfl;have hc5_go_1 : w5.cell? ⟨go,1,none⟩ = some (.slice none 0 0):=HR.out.cell 0 rfl 1 rfl;have fc5_go_0:=HR.out.free 0 rfl 0;have fc5_go_1:=HR.out.free 0 rfl 1)
  | ((with_reducible refine gate_store (t:=41) (p:=6) rfl ?_);refine store_event (t:=41) (p:=6) (v:=?vo6) (w1:=w5.setCells go 0 [.slice A1 xs.length c1,.slice B1 os.length d1]) ?hgs6 ?hos6 ?hns6 ?hrs6 ?_;(case hos6 => rfl);(case hgs6 => rfl);(case hns6 => rfl);(case hrs6 => first | (go_simp;done) | (go_simp;rfl));intro w6 hw;replace HR:=asd (hw ▸ HR.out.store 0 rfl [.slice A1 xs.length c1,.slice B1 os.length d1] rfl);clear hw;clear hc5_go_0 hc5_go_1 fc5_go_0 fc5_go_1))
 replace HR:=asd (HR.out.part 1 rfl)
 replace HR:=asd (HR.out.drew)
 refine start_ (n:=8) (S:=fun w' => w'.cell? ⟨go,0,none⟩ = some (.slice A1 xs.length c1) ∧ w'.cell? ⟨go,1,none⟩ = some (.slice B1 os.length d1) ∧ w'.cell? ⟨gc,0,none⟩ = some (.int .i64 x.f0.f0) ∧ w'.cell? ⟨gc,1,none⟩ = some (.string x.f0.f1) ∧ w'.cell? ⟨gc,2,none⟩ = some (.int .i64 x.f0.f2) ∧ w'.cell? ⟨gc,3,none⟩ = some (.slice A5 x.f0.f3.length c5) ∧ w'.cell? ⟨gc,4,none⟩ = some (.int .i64 x.f1.f0) ∧ w'.cell? ⟨gc,5,none⟩ = some (.string x.f1.f1) ∧ w'.cell? ⟨gc,6,none⟩ = some (.int .i64 x.f1.f2) ∧ w'.cell? ⟨gc,7,none⟩ = some (.slice A6 x.f1.f3.length c6) ∧ w'.cell? ⟨gc,8,none⟩ = some (.string x.f2)) (ds:=[7]) #[false,false,false,false,false,false,false,false] (by kernel_rfl) rfl rfl ⟨HR.out.cell 1 rfl 0 rfl,HR.out.cell 1 rfl 1 rfl,HR.out.cell 4 rfl 0 rfl,HR.out.cell 4 rfl 1 rfl,HR.out.cell 4 rfl 2 rfl,HR.out.cell 4 rfl 3 rfl,HR.out.cell 4 rfl 4 rfl,HR.out.cell 4 rfl 5 rfl,HR.out.cell 4 rfl 6 rfl,HR.out.cell 4 rfl 7 rfl,HR.out.cell 4 rfl 8 rfl⟩ (fun hHeld => ?_);refine with_tabW ad2_tab ad2_bits (fun HT_ HW_ => ?_)
 generalize w6.drew = w7 at HR hHeld ⊢
 refine pure_ (i:=0) (N:=some 9) (v:=?_) (a':=?_) #[true,false,false,false,false,false,false,false] rfl rfl (any_of HT_.out (by kernel_rfl)) (fun _ _ _ h => h) (Or.inl ⟨by rfl,?_⟩) ?_ ?_
 rotate_left
 ·intro w'
  go_simp
  with_reducible rfl
 rotate_left
 ·simp only [Act.put,List.setIfInBounds_toArray,List.set_cons_zero,List.set_cons_succ,i64_w,i32_w]
  rfl
 refine take_ (i:=1) (N:=some 10) (v:=?_) (a':=?_) #[true,true,false,false,false,false,false,false] rfl rfl (take_ofW HT_.out HW_.out (by kernel_rfl)) (fun _ _ _ h => h) (Or.inl ⟨by rfl,?_⟩) hHeld ?_ ?_
 rotate_left
 ·rintro w' ⟨s0,s1,s2,s3,s4,s5,s6,s7,s8,s9,s10⟩
  go_simp
  with_reducible rfl
 rotate_left
 ·simp only [Act.put,List.setIfInBounds_toArray,List.set_cons_zero,List.set_cons_succ,i64_w,i32_w]
  rfl
 refine take_ (i:=2) (N:=some 11) (v:=?_) (a':=?_) #[true,true,true,false,false,false,false,false] rfl rfl (take_ofW HT_.out HW_.out (by kernel_rfl)) (fun _ _ _ h => h) (Or.inl ⟨by rfl,?_⟩) hHeld ?_ ?_
 rotate_left
 ·rintro w' ⟨s0,s1,s2,s3,s4,s5,s6,s7,s8,s9,s10⟩
  go_simp
  with_reducible rfl
 rotate_left
 ·simp only [Act.put,List.setIfInBounds_toArray,List.set_cons_zero,List.set_cons_succ,i64_w,i32_w]
  rfl
 refine one_ (i:=3) (N:=some 12) #[true,true,true,true,false,false,false,false] rfl rfl (one_of HT_.out (by kernel_rfl)) (by decide) (fun K hK => ?_)
 refine goes_ Tryd.func63 (by kernel_rfl) rfl #[.agg #[.int .i64 x.f0.f0,.string x.f0.f1,.int .i64 x.f0.f2,.slice A5 x.f0.f3.length c5,.int .i64 x.f1.f0,.string x.f1.f1,.int .i64 x.f1.f2,.slice A6 x.f1.f3.length c6,.string x.f2]] (by rfl) rfl rfl (by (try simp only [List.map_toArray,List.map_cons,List.map_nil]);first|done|rfl) ?_
 refine (HX.out A5 c5 A6 c6 w7 (Kd.C_below H5.out HR.out.bel) L5.out (Kd.C_below H6.out HR.out.bel) L6.out).mono ?_
 rintro e w8 ⟨A3,c3,A4,c4,rfl,ho,hb⟩
 refine ⟨_,rfl,?_⟩
 replace HR:=asd (HR.out.push _ hb ho)
 clear ho hb
 refine hK.out _ _ ⟨HR.out.cell 2 rfl 0 rfl,HR.out.cell 2 rfl 1 rfl,HR.out.cell 5 rfl 0 rfl,HR.out.cell 5 rfl 1 rfl,HR.out.cell 5 rfl 2 rfl,HR.out.cell 5 rfl 3 rfl,HR.out.cell 5 rfl 4 rfl,HR.out.cell 5 rfl 5 rfl,HR.out.cell 5 rfl 6 rfl,HR.out.cell 5 rfl 7 rfl,HR.out.cell 5 rfl 8 rfl⟩ (fun hHeld => ?_)
 clear hK K
 refine norm_ (a':=?_) ?_ ?_
 rotate_left
 ·show Act.put _ (some 12) _ = _
  simp only [Act.put,List.setIfInBounds_toArray,List.set_cons_zero,List.set_cons_succ,i64_w,i32_w]
  rfl
 refine one_ (i:=4) (N:=some 13) #[true,true,true,true,true,false,false,false] rfl rfl (one_of HT_.out (by kernel_rfl)) (by decide) (fun K hK => ?_)
 refine value_ (w1:=?_) (v:=?_) (by rfl) rfl ?_ ?_
 rotate_left 2
 ·go_simp
  constructor
  ·rfl
  ·rfl
 refine hK.out _ _ ⟨(blk_cell (blk_alloc (HR.out.has 2 rfl).2 _) 0).trans rfl,(blk_cell (blk_alloc (HR.out.has 2 rfl).2 _) 1).trans rfl,(blk_cell (blk_alloc (HR.out.has 5 rfl).2 _) 0).trans rfl,(blk_cell (blk_alloc (HR.out.has 5 rfl).2 _) 1).trans rfl,(blk_cell (blk_alloc (HR.out.has 5 rfl).2 _) 2).trans rfl,(blk_cell (blk_alloc (HR.out.has 5 rfl).2 _) 3).trans rfl,(blk_cell (blk_alloc (HR.out.has 5 rfl).2 _) 4).trans rfl,(blk_cell (blk_alloc (HR.out.has 5 rfl).2 _) 5).trans rfl,(blk_cell (blk_alloc (HR.out.has 5 rfl).2 _) 6).trans rfl,(blk_cell (blk_alloc (HR.out.has 5 rfl).2 _) 7).trans rfl,(blk_cell (blk_alloc (HR.out.has 5 rfl).2 _) 8).trans rfl⟩ (fun hHeld => ?_)
 clear hK K
 refine norm_ (a':=?_) ?_ ?_
 rotate_left
 ·show Act.put _ (some 13) _ = _
  simp only [Act.put,List.setIfInBounds_toArray,List.set_cons_zero,List.set_cons_succ,i64_w,i32_w]
  rfl
 refine one_ (i:=5) (N:=some 14) #[true,true,true,true,true,true,false,false] rfl rfl (one_of HT_.out (by kernel_rfl)) (by decide) (fun K hK => ?_)
 refine HR.out.appStep 3 0 kD59 rfl rfl (by decide) x [.int .i64 x.f0.f0,.string x.f0.f1,.int .i64 x.f0.f2,.slice A3 x.f0.f3.length c3,.int .i64 x.f1.f0,.string x.f1.f1,.int .i64 x.f1.f2,.slice A4 x.f1.f3.length c4,.string x.f2] (fun okj hj_ => hj_.elim fun p h => kD59_mkM _ _ _ p x h.1 h.2) (by rfl) (.tmp 10) (.tmp 13) 39 (.agg #[(.int .i64 0),(.string ⟨#[]⟩),(.int .i64 0),(.slice none 0 0),(.int .i64 0),(.string ⟨#[]⟩),(.int .i64 0),(.slice none 0 0),(.string ⟨#[]⟩)]) 128 rfl Tryd.underlying39 info48 rfl (by decide) (by omega) rfl rfl (by have h1_:=HL.out;omega) ?_
 intro v_ w9 hq_
 obtain ⟨l_n,hz_⟩ : ∃ z_,z_ = (xs ++ [x]):=⟨_,rfl⟩
 rw [← hz_] at hq_
 have HZ_n:=asd hz_
 clear hz_
 obtain ⟨A_n,c_n,rfl⟩:=Kd.S_slice (hq_.has 3 rfl)
 clear HR
 have HR:=asd hq_
 clear hq_
 refine hK.out _ _ ⟨HR.out.cell 2 rfl 0 rfl,HR.out.cell 2 rfl 1 rfl,HR.out.cell 5 rfl 0 rfl,HR.out.cell 5 rfl 1 rfl,HR.out.cell 5 rfl 2 rfl,HR.out.cell 5 rfl 3 rfl,HR.out.cell 5 rfl 4 rfl,HR.out.cell 5 rfl 5 rfl,HR.out.cell 5 rfl 6 rfl,HR.out.cell 5 rfl 7 rfl,HR.out.cell 5 rfl 8 rfl⟩ (fun hHeld => ?_)
 clear hK K
 refine norm_ (a':=?_) ?_ ?_
 rotate_left
 ·show Act.put _ (some 14) _ = _
  simp only [Act.put,List.setIfInBounds_toArray,List.set_cons_zero,List.set_cons_succ,i64_w,i32_w]
  rfl
 refine pure_ (i:=6) (N:=some 15) (v:=?_) (a':=?_) #[true,true,true,true,true,true,true,false] rfl rfl (any_of HT_.out (by kernel_rfl)) (fun _ _ _ h => h) (Or.inl ⟨by rfl,?_⟩) ?_ ?_
 rotate_left
 ·intro w'
  go_simp
  with_reducible rfl
 rotate_left
 ·simp only [Act.put,List.setIfInBounds_toArray,List.set_cons_zero,List.set_cons_succ,i64_w,i32_w]
  rfl
 refine last_ (i:=7) (N:=none) #[true,true,true,true,true,true,true,true] rfl rfl (one_of HT_.out (by kernel_rfl)) (by decide) (fun K hK => ?_)
 have hz0_ : w9.cell? ⟨go,0,none⟩ = some (.slice A1 xs.length c1):=HR.out.cell 2 rfl 0 rfl
 have fz0_:=HR.out.free 2 rfl 0
 have hz1_ : w9.cell? ⟨go,1,none⟩ = some (.slice B1 os.length d1):=HR.out.cell 2 rfl 1 rfl
 have fz1_:=HR.out.free 2 rfl 1
 refine skip_ (w1:=w9.setCell ⟨go,0,none⟩ (.slice A_n l_n.length c_n)) (by rfl) rfl ?_ ?_
 ·first|(go_simp;done)|(go_simp;rfl)
 refine hK.out _ _ ?_
 clear hK K hz0_ fz0_ hz1_ fz1_
 replace HR:=asd (HR.out.set 2 rfl 0 (.slice A_n l_n.length c_n))
 generalize w9.setCell ⟨go,0,none⟩ (.slice A_n l_n.length c_n) = w10 at HR ⊢
 refine done_ (done_of HT_.out (by kernel_rfl)) ?_
 have hc7_go_0 : w10.cell? ⟨go,0,none⟩ = some (.slice A_n l_n.length c_n):=HR.out.cell 2 rfl 0 rfl
 have hc7_go_1 : w10.cell? ⟨go,1,none⟩ = some (.slice B1 os.length d1):=HR.out.cell 2 rfl 1 rfl
 have hok2:=HOK.out
 rw [← HZ_n.out] at hok2
 have HOK2:=asd hok2
 clear hok2
 go_wp2_with (first
  | (go_at_call 21;refine (HOK2.out A_n c_n B1 d1 w10 HR.out.bel (readS59 (HR.out.has 3 rfl)).2 (readS59 (HR.out.has 3 rfl)).1 (rdR (HR.out.has 1 rfl)).2 (rdR (HR.out.has 1 rfl)).1).mono ?_;rintro e w11 ⟨rfl,hb⟩;replace HR:=asd (HR.out.step hb);clear hb;clear hc7_go_0 hc7_go_1;have hc8_gd_0 : w11.cell? ⟨gd,0,none⟩ = some (.slice A xs.length c):=HR.out.cell 6 rfl 0 rfl;have hc8_gd_1 : w11.cell? ⟨gd,1,none⟩ = some (.slice B os.length d):=HR.out.cell 6 rfl 1 rfl;have hc8_gr_0 : w11.cell? ⟨gr,0,none⟩ = some (.slice none 0 0):=HR.out.cell 4 rfl 0 rfl;have hc8_gr_1 : w11.cell? ⟨gr,1,none⟩ = some (.slice none 0 0):=HR.out.cell 4 rfl 1 rfl;have fc8_gr_0:=HR.out.free 4 rfl 0;have fc8_gr_1:=HR.out.free 4 rfl 1)
  | (go_at_call 72;refine (cpDb xs os HL.out HLO.out IH.out A c B d w11 (Kd.C_below HC.out HR.out.bel) HCC.out (Kd.C_below HD.out HR.out.bel) HDD.out).mono ?_;rintro e w12 ⟨A8,c8,B8,d8,rfl,ho,hb⟩;replace HR:=asd (HR.out.push _ hb ho);clear hb ho;clear hc8_gd_0 hc8_gd_1 hc8_gr_0 hc8_gr_1 fc8_gr_0 fc8_gr_1;have hc9_gr_0 : w12.cell? ⟨gr,0,none⟩ = some (.slice none 0 0):=HR.out.cell 5 rfl 0 rfl;have hc9_gr_1 : w12.cell? ⟨gr,1,none⟩ = some (.slice none 0 0):=HR.out.cell 5 rfl 1 rfl;have fc9_gr_0:=HR.out.free 5 rfl 0;have fc9_gr_1:=HR.out.free 5 rfl 1)
  | ((with_reducible refine gate_store (t:=41) (p:=4) rfl ?_);refine store_event (t:=41) (p:=4) (v:=?vo13) (w1:=w12.setCells gr 0 [.slice A8 xs.length c8,.slice B8 os.length d8]) ?hgs13 ?hos13 ?hns13 ?hrs13 ?_;(case hos13 => rfl);(case hgs13 => rfl);(case hns13 => rfl);(case hrs13 => first | (go_simp;done) | (go_simp;rfl));intro w13 hw;replace HR:=asd (hw ▸ HR.out.store 5 rfl [.slice A8 xs.length c8,.slice B8 os.length d8] rfl);clear hw;clear hc9_gr_0 hc9_gr_1 fc9_gr_0 fc9_gr_1))
 refine bodyPost_ret (results_ct rfl _ _ gr 41 #[.slice A8 xs.length c8,.slice B8 os.length d8] (0,0) _ rfl (HR.out.has 5 rfl).2 Tryd.underlying41 rfl (by kernel_rfl)) rfl ?_
 exact ⟨_,_,_,_,rfl,As.mono _ (fun k hk => hk.elim False.elim id) (HR.out.one 0 rfl),HR.out.bel⟩
end
def mkS (mt : Int → ByteArray) : List ByteArray → Int → List ByteArray
 | [],_ => []
 | _ :: l,k => mt k :: mkS mt l (k + 1)
theorem mkS_length (mt : Int → ByteArray) : ∀ (l : List ByteArray) (k : Int),(mkS mt l k).length = l.length
 | [],_ => rfl
 | _ :: l,k => by rw [mkS,List.length_cons,List.length_cons,mkS_length mt l]
theorem mkS_append (mt : Int → ByteArray) : ∀ (l m : List ByteArray) (k : Int),mkS mt (l ++ m) k = mkS mt l k ++ mkS mt m (k + l.length)
 | [],m,k => by rw [mkS,List.nil_append,List.nil_append,List.length_nil];congr 1;omega
 | _ :: l,m,k => by rw [List.cons_append,mkS,mkS,List.cons_append,mkS_append mt l m,List.length_cons];congr 3;push_cast;omega
theorem mkS_set (mt : Int → ByteArray) (xs : List ByteArray) (k : Int) (i : Nat) (h : i < xs.length) : (mkS mt (xs.take i) k ++ xs.drop i).set i (mt (k + i)) = mkS mt (xs.take (i + 1)) k ++ xs.drop (i + 1):=by
 have hl : (mkS mt (xs.take i) k).length = i:=by rw [mkS_length,List.length_take];omega
 rw [List.set_append_right _ _ (by omega),hl,Nat.sub_self,List.drop_eq_getElem_cons h,List.set_cons_zero,List.take_succ_eq_append_getElem h,mkS_append,mkS,mkS,List.append_assoc,List.length_take,Nat.min_eq_left (by omega)]
 rfl
theorem mkS_get (mt : Int → ByteArray) : ∀ (l : List ByteArray) (k : Int) (i : Nat) (h : i < l.length),(mkS mt l k)[i]'(by rw [mkS_length];exact h) = mt (k + i)
 | _ :: l,k,0,_ => by simp [mkS]
 | _ :: l,k,i + 1,h => by
  simp only [mkS,List.getElem_cons_succ]
  rw [mkS_get mt l _ i (by simpa using h)]
  congr 1
  push_cast;omega
section
set_option linter.unusedSectionVars false
variable [fk_laws_szTerm] [fk_laws_eqTerm] [fk_spec_l34Term] [fk_strconv_Itoa]
set_option maxHeartbeats 8000000 in
set_option maxRecDepth 100000 in
theorem markS_calls (mt : Int → ByteArray) (kt : Nat) (hmt : ∀ n : Int,0 < n → n ≤ 1000000000 → laws_markText.f kt n = some (mt n)) (xs : List ByteArray) (k : Int) (hk : 0 < k) (hx : k + (xs.length : Int) ≤ 1000000000) (A : Option Addr) (c : Nat) (w : World) (base : Nat) (ok : Nat → Prop) (hbs : base ≤ w.heap.size) (hR : Kd.R Kd.string 9 w base ok (.slice A xs.length c) xs) :
  Calls Tryd.prog 67 #[.slice A xs.length c,.int .i64 k] w fun e w' => e = .returned (.int .i64 (k + (xs.length : Int))) ∧ Kd.R Kd.string 9 w' base ok (.slice A xs.length c) (mkS mt xs k) ∧ Below base w w' ∧ Kept w w' ok:=by
 have HR:=asd hR
 have HX:=asd hx
 have HBS:=asd hbs
 clear hR hx hbs
 go_enter Tryd.func67,Tryd.ntmps67
 go_wp2
 go_loopg [1,5] xs.length (fun m v1 v5 w' => ∃ i : Nat,v5 = .int .i64 i ∧ v1 = .int .i64 (k + (i : Int)) ∧ Aside0 (m + i = xs.length) ∧ Aside0 (Kd.R Kd.string 9 w' base ok (.slice A xs.length c) (mkS mt (xs.take i) k ++ xs.drop i)) ∧ Aside0 (Below base w w') ∧ Aside0 (Kept w w' ok))
 case atStart => exact ⟨0,rfl,by simp,⟨by omega⟩,⟨by simpa [mkS] using HR.out⟩,⟨Below.refl _ _⟩,⟨Kept.refl _ _⟩⟩
 case round =>
  clear HR
  obtain ⟨i,rfl,rfl,hi,HR,HB,HK⟩:=hrel
  by_cases hlt : (i : Int) < (xs.length : Int)
  ·have c3b0 : decide ((i : Int) < (xs.length : Int)) = true:=decide_eq_true hlt
   have hlt' : i < xs.length:=by omega
   have c3b1 : decide (i < xs.length) = true:=decide_eq_true hlt'
   have hlen : (mkS mt (xs.take i) k ++ xs.drop i).length = xs.length:=by rw [List.length_append,mkS_length,List.length_take,List.length_drop];omega
   obtain ⟨g,hA,hgb⟩ : ∃ g,A = some ⟨g,0,none⟩ ∧ base ≤ g:=by
    obtain ⟨g,cap,e,hb,_⟩:=Kd.R_form HR.out (by omega)
    injection e with e1
    exact ⟨g,e1,hb⟩
   subst hA
   have HG:=asd hgb
   have HT:=asd (hmt (k + (i : Int)) (by omega) (by have:=HX.out;omega))
   have HS:=asd (mkS_set mt xs k i hlt')
   clear hgb hlen
   go_wp2_with (first
    | (go_at_call 68;refine (laws_markText.calls kt (k + (i : Int)) (mt (k + (i : Int))) _ HT.out).mono ?_;rintro e w6 ⟨rfl,hb⟩;have n0_:=asd (Kd.R_below HR.out hb);have n1_:=asd (below_then HB.out (Nat.le_trans HBS.out HK.out.1) hb);have n2_:=asd (HK.out.below hb);clear HR HB HK hb;have HR:=n0_;have HB:=n1_;have HK:=n2_;clear n0_ n1_ n2_;have hcn:=Kd.R_celln ByteArray.empty HR.out (i : Int) (by omega) hlt;rw [Int.toNat_natCast] at hcn;have hx0:=hcn.1;have hf0:=hcn.2;have HP:=asd (Kd.R_putg HR.out (i : Int) (mt (k + (i : Int))));rw [Int.toNat_natCast,HS.out] at HP;clear hcn)
    | ((with_reducible refine gate_store (t:=9) (p:=16) rfl ?_);refine store_event (t:=9) (p:=16) (v:=?vo) (w1:=(w6.setCell ⟨g,i,none⟩ (.string (mt (k + (i : Int)))))) ?hg ?ho ?hn ?hr ?_;(case ho => rfl);(case hg => rfl);(case hn => rfl);(case hr => first | (go_simp;done) | (go_simp;rfl));intro w8 hw;subst hw))
   go_roundg (xs.length - (i + 1))
   case measure => have:=hi.out;omega
   case rel => exact ⟨i + 1,by rw [show wrap64 ((i : Int) + 1) = ((i + 1 : Nat) : Int) by rw [t_wrap (by omega) (by have:=HX.out;omega)];omega],by rw [t_wrap (by omega) (by have:=HX.out;omega)];congr 1;push_cast;omega,⟨by have:=hi.out;omega⟩,⟨HP.out.1⟩,⟨HB.out.setCell HG.out _⟩,⟨Kept.of_grown HP.out.2 HK.out (fun k_ e_ => .inl (HR.out.1 k_ e_))⟩⟩
  ·have c3b0 : decide ((i : Int) < (xs.length : Int)) = false:=decide_eq_false hlt
   have c3b1 : decide (i < xs.length) = false:=decide_eq_false (by omega)
   have hie : i = xs.length:=by have:=hi.out;omega
   subst hie
   have HZ:=HR.out
   rw [List.take_length,List.drop_length,List.append_nil] at HZ
   have HY:=asd HZ
   clear HZ
   go_wp2
   go_ret
   exact ⟨rfl,HY.out,HB.out,HK.out⟩
end
def cn59 (x : S48) : Nat:=3 * cn29 x.f0 + 3 * cn29 x.f1 + 1
def cns59 : List S48 → Nat
 | [] => 0
 | x :: xs => cn59 x + cns59 xs
def mk59 (mt : Int → ByteArray) (x : S48) (k : Int) : S48:=⟨mk29 mt x.f0 k,mk29 mt x.f1 (k + 3 * (cn29 x.f0 : Int)),mt (k + 3 * (cn29 x.f0 : Int) + 3 * (cn29 x.f1 : Int))⟩
def mks59 (mt : Int → ByteArray) : List S48 → Int → List S48
 | [],_ => []
 | x :: xs,k => mk59 mt x k :: mks59 mt xs (k + (cn59 x : Int))
theorem mks59_length (mt : Int → ByteArray) : ∀ (ts : List S48) (k : Int),(mks59 mt ts k).length = ts.length
 | [],_ => by rw [mks59]
 | t :: ts,k => by rw [mks59,List.length_cons,List.length_cons,mks59_length mt ts]
theorem mks59_append (mt : Int → ByteArray) : ∀ (ts us : List S48) (k : Int),mks59 mt (ts ++ us) k = mks59 mt ts k ++ mks59 mt us (k + (cns59 ts : Int))
 | [],us,k => by rw [mks59,cns59,List.nil_append,List.nil_append];simp
 | t :: ts,us,k => by
  rw [List.cons_append,mks59,mks59,cns59,List.cons_append,mks59_append mt ts us]
  congr 3
  push_cast
  omega
theorem cns59_append : ∀ (ts us : List S48),cns59 (ts ++ us) = cns59 ts + cns59 us
 | [],us => by rw [List.nil_append,cns59];omega
 | t :: ts,us => by rw [List.cons_append,cns59,cns59,cns59_append ts us];omega
theorem cns59_take (xs : List S48) (i : Nat) (h : i < xs.length) : cns59 (xs.take (i + 1)) = cns59 (xs.take i) + cn59 xs[i]:=by
 rw [List.take_succ_eq_append_getElem h,cns59_append,cns59,cns59];omega
theorem cns59_take_le (xs : List S48) (i : Nat) : cns59 (xs.take i) ≤ cns59 xs:=by
 have:=cns59_append (xs.take i) (xs.drop i)
 rw [List.take_append_drop] at this
 omega
theorem mks59_set (mt : Int → ByteArray) (xs : List S48) (k : Int) (i : Nat) (h : i < xs.length) : (mks59 mt (xs.take i) k ++ xs.drop i).set i (mk59 mt xs[i] (k + (cns59 (xs.take i) : Int))) = mks59 mt (xs.take (i + 1)) k ++ xs.drop (i + 1):=by
 have hl : (mks59 mt (xs.take i) k).length = i:=by rw [mks59_length,List.length_take];omega
 rw [List.set_append_right _ _ (by omega),hl,Nat.sub_self,List.drop_eq_getElem_cons h,List.set_cons_zero,List.take_succ_eq_append_getElem h,mks59_append,mks59,mks59,List.append_assoc]
 rfl
theorem mks59_get (mt : Int → ByteArray) : ∀ (xs : List S48) (k : Int) (i : Nat) (h : i < xs.length),(mks59 mt xs k)[i]'(by rw [mks59_length];exact h) = mk59 mt xs[i] (k + (cns59 (xs.take i) : Int))
 | t :: ts,k,0,_ => by simp only [mks59,List.getElem_cons_zero,List.take_zero,cns59];congr 1;omega
 | t :: ts,k,i + 1,h => by
  simp only [mks59,List.getElem_cons_succ,List.take_succ_cons,cns59]
  rw [mks59_get mt ts _ i (by simpa using h)]
  congr 1
  push_cast
  omega
theorem cns59_len (ts : List S48) : ts.length ≤ cns59 ts:=by
 induction ts with
 | nil => simp
 | cons a l ih => rw [cns59,List.length_cons];unfold cn59;omega
structure MC (base : Nat) (ok : Nat → Prop) (g n cap : Nat) (xs : List S48) (i : Nat) (oki ok3 ok7 : Nat → Prop) (A3 : Option Addr) (c3 : Nat) (ks : List S29) (A7 : Option Addr) (c7 : Nat) (js : List S29) (w W : World) (c : List Value) : Prop where
 hi : i < n
 hH : Kd.H kD59 48 W base ok (.slice (some ⟨g,0,none⟩) n cap) xs (i : Int) oki c
 h3 : Kd.S kD29 29 W base ok3 (.slice A3 ks.length c3) ks
 h7 : Kd.S kD29 29 W base ok7 (.slice A7 js.length c7) js
 s3 : ∀ k,ok3 k → oki k
 s7 : ∀ k,ok7 k → oki k
 ap : ∀ k,ok3 k → ¬ ok7 k
 hg : ∀ k,oki k → k ≠ g
 hok : ok g
 hb : base ≤ g
 hl : c.length = 9
 below : Below base w W
 hbs : base ≤ W.heap.size
 kept : Kept w W ok
section
variable {base : Nat} {ok : Nat → Prop} {g n cap : Nat} {xs : List S48} {i : Nat} {oki ok3 ok7 : Nat → Prop} {A3 : Option Addr} {c3 : Nat} {ks : List S29} {A7 : Option Addr} {c7 : Nat} {js : List S29} {w W W1 : World} {c : List Value}
theorem MC.at_ (h : MC base ok g n cap xs i oki ok3 ok7 A3 c3 ks A7 c7 js w W c) : (∀ j u,c[j]? = some u → W.cell? ⟨g,i * 9 + j,none⟩ = some u) ∧ ∀ j,W.frozen? ⟨g,i * 9 + j,none⟩ = false:=by
 have hi:=h.hi
 obtain ⟨h1,h2⟩:=Kd.H_at h.hH (by omega) (by omega)
 rw [Int.toNat_natCast] at h1 h2
 exact ⟨h1,h2⟩
theorem MC.put (h : MC base ok g n cap xs i oki ok3 ok7 A3 c3 ks A7 c7 js w W c) (j : Nat) (v : Value) (c' : List Value) (hc' : c.take j ++ [v] ++ c.drop (j + 1) = c') (hj : j < 9) (h1 : v.oneCell' = true) :
  MC base ok g n cap xs i oki ok3 ok7 A3 c3 ks A7 c7 js w (W.setCell ⟨g,i * 9 + j,none⟩ v) c':=by
 subst hc'
 have hi:=h.hi
 have hl:=h.hl
 obtain ⟨h2,h3⟩:=Kd.H_seg h.hH (by omega) (by omega) (seg:=[v]) (j:=j) (show j + 1 ≤ 9 by omega) (fun q hq => by rw [List.mem_singleton.1 hq];exact h1)
 rw [Int.toNat_natCast] at h2
 exact ⟨hi,h2,Kd.S_far h.h3 (p:=⟨g,i * 9 + j,none⟩) (fun k hk => h.hg k (h.s3 k hk)) v,Kd.S_far h.h7 (p:=⟨g,i * 9 + j,none⟩) (fun k hk => h.hg k (h.s7 k hk)) v,h.s3,h.s7,h.ap,h.hg,h.hok,h.hb,by simp only [List.length_append,List.length_take,List.length_drop,List.length_singleton];omega,
  h.below.setCell h.hb _,by have:=h.hbs;simpa [World.setCell] using this,Kept.setCell h.kept (.inl h.hok) _⟩
theorem MC.step (h : MC base ok g n cap xs i oki ok3 ok7 A3 c3 ks A7 c7 js w W c) (hb : Below W.heap.size W W1) : MC base ok g n cap xs i oki ok3 ok7 A3 c3 ks A7 c7 js w W1 c :=
 ⟨h.hi,Kd.H_below h.hH hb,Kd.S_below h.h3 hb,Kd.S_below h.h7 hb,h.s3,h.s7,h.ap,h.hg,h.hok,h.hb,h.hl,below_then h.below h.hbs hb,Nat.le_trans h.hbs hb.size,h.kept.below hb⟩
theorem MC.mark3 (h : MC base ok g n cap xs i oki ok3 ok7 A3 c3 ks A7 c7 js w W c) (hB : Below base W W1) {ks' : List S29} (e : ks'.length = ks.length) (hS : Kd.S kD29 29 W1 base ok3 (.slice A3 ks.length c3) ks') (hk : Kept W W1 ok3) : MC base ok g n cap xs i oki ok3 ok7 A3 c3 ks' A7 c7 js w W1 c:=by
 have hH:=Kd.H_kept h.hH hk (fun k _ hn h2 => hn (h.s3 k h2))
 exact ⟨h.hi,hH,by rw [e];exact hS,Kd.S_kept h.h7 hk (fun k h2 h3 => h.ap k h3 h2),h.s3,h.s7,h.ap,h.hg,h.hok,h.hb,h.hl,h.below.trans hB,Nat.le_trans h.hbs hk.1,h.kept.then_ hk (fun k hk2 => .inl (h.hH.1 k (h.s3 k hk2)))⟩
theorem MC.mark7 (h : MC base ok g n cap xs i oki ok3 ok7 A3 c3 ks A7 c7 js w W c) (hB : Below base W W1) {js' : List S29} (e : js'.length = js.length) (hS : Kd.S kD29 29 W1 base ok7 (.slice A7 js.length c7) js') (hk : Kept W W1 ok7) : MC base ok g n cap xs i oki ok3 ok7 A3 c3 ks A7 c7 js' w W1 c:=by
 have hH:=Kd.H_kept h.hH hk (fun k _ hn h2 => hn (h.s7 k h2))
 exact ⟨h.hi,hH,Kd.S_kept h.h3 hk (fun k h2 h3 => h.ap k h2 h3),by rw [e];exact hS,h.s3,h.s7,h.ap,h.hg,h.hok,h.hb,h.hl,h.below.trans hB,Nat.le_trans h.hbs hk.1,h.kept.then_ hk (fun k hk2 => .inl (h.hH.1 k (h.s7 k hk2)))⟩
theorem MC.done (h : MC base ok g n cap xs i oki ok3 ok7 A3 c3 ks A7 c7 js w W c) {x : S48} (hks : x.f0.f3 = ks) (hjs : x.f1.f3 = js) (hc : c = [.int .i64 x.f0.f0,.string x.f0.f1,.int .i64 x.f0.f2,.slice A3 ks.length c3,.int .i64 x.f1.f0,.string x.f1.f1,.int .i64 x.f1.f2,.slice A7 js.length c7,.string x.f2]) :
  Kd.S kD59 48 W base ok (.slice (some ⟨g,0,none⟩) n cap) (xs.set i x):=by
 subst hc
 have:=Kd.H_back h.hH (x':=x) (okp:=oki) (kD59_mkM W base oki (fun k => ok3 k) x (by rw [hks];exact Kd.S_mono h.h3 (fun k hk => ⟨h.s3 k hk,hk⟩)) (by rw [hjs];exact Kd.S_mono h.h7 (fun k hk => ⟨h.s7 k hk,fun h2 => h.ap k h2 hk⟩))) (fun _ hk => hk)
 rw [Int.toNat_natCast] at this
 exact this
end
theorem mc_new {base : Nat} {ok : Nat → Prop} {g n cap : Nat} {xs : List S48} {i : Nat} {w W : World} (hS : Kd.S kD59 48 W base ok (.slice (some ⟨g,0,none⟩) n cap) xs) (hi : i < n) (hB : Below base w W) (hk : Kept w W ok) (hbs : base ≤ W.heap.size) (x : S48) (hx : xs.getD i z48 = x) :
  ∃ (oki ok3 ok7 : Nat → Prop) (A3 : Option Addr) (c3 : Nat) (A7 : Option Addr) (c7 : Nat),MC base ok g n cap xs i oki ok3 ok7 A3 c3 x.f0.f3 A7 c7 x.f1.f3 w W [.int .i64 x.f0.f0,.string x.f0.f1,.int .i64 x.f0.f2,.slice A3 x.f0.f3.length c3,.int .i64 x.f1.f0,.string x.f1.f1,.int .i64 x.f1.f2,.slice A7 x.f1.f3.length c7,.string x.f2]:=by
 obtain ⟨oki,ce,hcl,hM,hcc,hfr,hoki,hH⟩:=Kd.S_elem hS z48 (i : Int) (by omega) (by omega)
 rw [Int.toNat_natCast,hx] at hM
 obtain ⟨p,v3,v7,rfl,hK3,hK7⟩:=kD59_openM hM
 obtain ⟨A3,c3,rfl⟩:=Kd.S_slice hK3
 obtain ⟨A7,c7,rfl⟩:=Kd.S_slice hK7
 have hR:=Kd.S_R hS
 exact ⟨oki,_,_,A3,c3,A7,c7,hi,hH,hK3,hK7,fun k hk => hk.1,fun k hk => hk.1,fun k hk h2 => h2.2 hk.2,fun k hk => (hoki k hk).2,hR.1 g (by simp [Value.ownBlock]),Kd.S_base hS g (by simp [Value.ownBlock]),hcl,hB,hbs,hk⟩
section
set_option linter.unusedSectionVars false
variable [fk_laws_szTerm] [fk_laws_eqTerm] [fk_spec_l34Term] [fk_strconv_Itoa]
set_option maxHeartbeats 16000000 in
set_option maxRecDepth 100000 in
theorem markCs_calls (mt : Int → ByteArray) (kt : Nat) (hmt : ∀ n : Int,0 < n → n ≤ 1000000000 → laws_markText.f kt n = some (mt n)) (xs : List S48) (ih : ∀ x ∈ xs,MarkOf mt x.f0.f3 ∧ MarkOf mt x.f1.f3)
  (A : Option Addr) (c : Nat) (k : Int) (w : World) (base : Nat) (ok : Nat → Prop) (hk : 0 < k) (hk2 : k + (cns59 xs : Int) ≤ 1000000000) (hbs : base ≤ w.heap.size) (hS : Kd.S kD59 48 w base ok (.slice A xs.length c) xs) :
  Calls Tryd.prog 32 #[.slice A xs.length c,.int .i64 k] w fun e w' => e = .returned (.int .i64 (k + (cns59 xs : Int))) ∧ Kd.S kD59 48 w' base ok (.slice A xs.length c) (mks59 mt xs k) ∧ Below base w w' ∧ Kept w w' ok:=by
 have IH:=asd ih
 have HS:=asd hS
 have HK:=asd hk2
 have HLX:=asd (cns59_len xs)
 have HMT:=asd hmt
 clear hS hk2 ih hmt
 go_enter Tryd.func32,Tryd.ntmps32
 go_wp2
 go_loopg [1,5] xs.length (fun m v1 v5 w' => ∃ i : Nat,v5 = .int .i64 i ∧ v1 = .int .i64 (k + (cns59 (xs.take i) : Int)) ∧ Aside0 (m + i = xs.length) ∧ Aside0 (Kd.S kD59 48 w' base ok (.slice A xs.length c) (mks59 mt (xs.take i) k ++ xs.drop i)) ∧ Aside0 (Below base w w') ∧ Aside0 (Kept w w' ok))
 case atStart => exact ⟨0,rfl,by simp [cns59],⟨by omega⟩,⟨by simpa [mks59] using HS.out⟩,⟨Below.refl _ _⟩,⟨Kept.refl _ _⟩⟩
 case round =>
  clear HS
  obtain ⟨i,rfl,rfl,hi,HA,HB,HK2⟩:=hrel
  by_cases hlt : (i : Int) < (xs.length : Int)
  ·have c3b0 : decide ((i : Int) < (xs.length : Int)) = true:=decide_eq_true hlt
   have hlt' : i < xs.length:=by omega
   have c3b1 : decide (i < xs.length) = true:=decide_eq_true hlt'
   have hlen : (mks59 mt (xs.take i) k ++ xs.drop i).length = xs.length:=by rw [List.length_append,mks59_length,List.length_take,List.length_drop];omega
   obtain ⟨g,hA⟩ : ∃ g,A = some ⟨g,0,none⟩:=by
    obtain ⟨g,cap,e,_⟩:=Kd.S_form HA.out (by rw [hlen];omega)
    injection e with e1
    exact ⟨g,e1⟩
   subst hA
   have hx : (mks59 mt (xs.take i) k ++ xs.drop i).getD i z48 = xs[i]:=by
    rw [List.getD_eq_getElem?_getD,List.getElem?_append_right (by rw [mks59_length,List.length_take];omega),mks59_length,List.length_take,Nat.min_eq_left (by omega),Nat.sub_self,List.drop_eq_getElem_cons hlt']
    rfl
   obtain ⟨oki,ok3,ok7,A3,c3,A7,c7,hms⟩:=mc_new HA.out hlt' HB.out HK2.out (Nat.le_trans hbs HK2.out.1) xs[i] hx
   have hf0:=hms.at_.2 0
   have hx0:=hms.at_.1 0 _ rfl
   simp only [Nat.add_zero] at hf0 hx0
   have HM:=asd hms
   have h3_:=(IH.out xs[i] (List.getElem_mem hlt')).1
   have h7_:=(IH.out xs[i] (List.getElem_mem hlt')).2
   unfold MarkOf at h3_ h7_
   have I3:=asd h3_
   have I7:=asd h7_
   clear h3_ h7_
   have hcn:=cns59_take xs i hlt'
   have hcl:=cns59_take_le xs (i + 1)
   have h29:=cn29_eq xs[i].f0
   have h29':=cn29_eq xs[i].f1
   have hq:=mks59_set mt xs k i hlt'
   unfold cn59 at hcn
   generalize hki : k + (cns59 (xs.take i) : Int) = ki at hq ⊢
   generalize hx_ : xs[i] = x at *
   obtain ⟨kb,hkb⟩ : ∃ kb : Int,kb = ki + 3 * (cn29 x.f0 : Int):=⟨_,rfl⟩
   obtain ⟨kf,hkf⟩ : ∃ kf : Int,kf = kb + 3 * (cn29 x.f1 : Int):=⟨_,rfl⟩
   have hkk:=HK.out
   have hlx:=HLX.out
   have w1 : ∀ z : Int,0 < z → z ≤ 1000000000 → wrap64 z = z:=fun z h1 h2 => t_wrap (by omega) (by omega)
   have HN1:=asd (show 0 < ki + 1 ∧ ki + 1 ≤ 1000000000 by omega)
   have HN2:=asd (show 0 < kb + 1 ∧ kb + 1 ≤ 1000000000 by omega)
   have HN3:=asd (show 0 < kf ∧ kf ≤ 1000000000 by omega)
   have HKB:=asd (show ki + 3 + 3 * (cns29 x.f0.f3 : Int) = kb by omega)
   have HKF:=asd (show kb + 3 + 3 * (cns29 x.f1.f3 : Int) = kf by omega)
   have HP1:=asd (show 0 < ki + 3 by omega)
   have HP2:=asd (show 0 < kb + 3 by omega)
   have HB1:=asd (show ki + 3 + 3 * (cns29 x.f0.f3 : Int) ≤ 1000000000 by omega)
   have HB2:=asd (show kb + 3 + 3 * (cns29 x.f1.f3 : Int) ≤ 1000000000 by omega)
   have HE:=asd (show kf + 1 = k + (cns59 (xs.take (i + 1)) : Int) by omega)
   have HQ:=asd hq
   have HBK:=asd hkb
   have HFK:=asd hkf
   have HW:=asd (show wrap64 ((i : Int) + 1) = ((i + 1 : Nat) : Int) by rw [t_wrap (by omega) (by omega)];omega)
   have e1:=w1 (ki + 1) (by omega) (by omega)
   have e2:=w1 (ki + 2) (by omega) (by omega)
   have e3:=w1 (ki + 3) (by omega) (by omega)
   have e4:=w1 (kb + 1) (by omega) (by omega)
   have e5:=w1 (kb + 2) (by omega) (by omega)
   have e6:=w1 (kb + 3) (by omega) (by omega)
   have e7:=w1 (kf + 1) (by omega) (by omega)
   have a1 : ki + 1 + 1 = ki + 2:=by omega
   have a2 : ki + 2 + 1 = ki + 3:=by omega
   have a3 : kb + 1 + 1 = kb + 2:=by omega
   have a4 : kb + 2 + 1 = kb + 3:=by omega
   clear hlen hms hx hcn hcl h29 h29' hq hki hkb hkf hkk hlx w1
   go_wp2_with (first
    | ((with_reducible refine gate_store (t:=3) (p:=17) rfl ?_);refine store_event (t:=3) (p:=17) (v:=?vo1) (w1:=wr.setCell ⟨g,i * 9,none⟩ (.int .i64 ki)) ?hg1 ?ho1 ?hn1 ?hr1 ?_;(case ho1 => rfl);(case hg1 => rfl);(case hn1 => rfl);(case hr1 => first | (go_simp;done) | (go_simp;rfl));intro w1 hw;have HM':=asd (HM.out.put 0 (.int .i64 ki) [.int .i64 ki,.string x.f0.f1,.int .i64 x.f0.f2,.slice A3 x.f0.f3.length c3,.int .i64 x.f1.f0,.string x.f1.f1,.int .i64 x.f1.f2,.slice A7 x.f1.f3.length c7,.string x.f2] rfl (by decide) rfl);rw [Nat.add_zero,← hw] at HM';clear HM hw;have HM:=HM';clear HM';clear hx0 hf0)
    | (go_at_call 68;with_reducible refine (laws_markText.calls kt (ki + 1) (mt (ki + 1)) w1 (HMT.out _ HN1.out.1 HN1.out.2)).mono ?_;rintro e w2 ⟨rfl,hb⟩;have HM':=asd (HM.out.step hb);clear HM;have HM:=HM';clear HM';clear hb;have hx1:=HM.out.at_.1 1 _ rfl;have hf1:=HM.out.at_.2 1)
    | ((with_reducible refine gate_store (t:=9) (p:=26) rfl ?_);refine store_event (t:=9) (p:=26) (v:=?vo3) (w1:=w2.setCell ⟨g,i * 9 + 1,none⟩ (.string (mt (ki + 1)))) ?hg3 ?ho3 ?hn3 ?hr3 ?_;(case ho3 => rfl);(case hg3 => rfl);(case hn3 => rfl);(case hr3 => first | (go_simp;done) | (go_simp;rfl));intro w3 hw;have HM':=asd (HM.out.put 1 (.string (mt (ki + 1))) [.int .i64 ki,.string (mt (ki + 1)),.int .i64 x.f0.f2,.slice A3 x.f0.f3.length c3,.int .i64 x.f1.f0,.string x.f1.f1,.int .i64 x.f1.f2,.slice A7 x.f1.f3.length c7,.string x.f2] rfl (by decide) rfl);rw [← hw] at HM';clear HM hw;have HM:=HM';clear HM';clear hx1 hf1;have hx2:=HM.out.at_.1 2 _ rfl;have hf2:=HM.out.at_.2 2)
    | ((with_reducible refine gate_store (t:=3) (p:=34) rfl ?_);refine store_event (t:=3) (p:=34) (v:=?vo4) (w1:=w3.setCell ⟨g,i * 9 + 2,none⟩ (.int .i64 (ki + 2))) ?hg4 ?ho4 ?hn4 ?hr4 ?_;(case ho4 => rfl);(case hg4 => rfl);(case hn4 => rfl);(case hr4 => first | (go_simp;done) | (go_simp;rfl));intro w4 hw;have HM':=asd (HM.out.put 2 (.int .i64 (ki + 2)) [.int .i64 ki,.string (mt (ki + 1)),.int .i64 (ki + 2),.slice A3 x.f0.f3.length c3,.int .i64 x.f1.f0,.string x.f1.f1,.int .i64 x.f1.f2,.slice A7 x.f1.f3.length c7,.string x.f2] rfl (by decide) rfl);rw [← hw] at HM';clear HM hw;have HM:=HM';clear HM';clear hx2 hf2;have hx3:=HM.out.at_.1 3 _ rfl;have hf3:=HM.out.at_.2 3)
    | (go_at_call 64;with_reducible refine (I3.out A3 c3 (ki + 3) w4 base _ ?s23 ?s33 HM.out.hbs HM.out.h3).mono ?_;(case s23 => exact HP1.out);(case s33 => exact HB1.out);rintro e w5 ⟨he_,hs_,hb_,hk_⟩;have he2_:=he_.trans (congrArg (fun z_ => Ending.returned (Value.int .i64 z_)) HKB.out);clear he_;subst he2_;have HM':=asd (HM.out.mark3 hb_ (mks29_length _ _ _) hs_ hk_);clear HM;have HM:=HM';clear HM';clear hs_ hb_ hk_;clear hx3 hf3;have hx4:=HM.out.at_.1 4 _ rfl;have hf4:=HM.out.at_.2 4)
    | ((with_reducible refine gate_store (t:=3) (p:=50) rfl ?_);refine store_event (t:=3) (p:=50) (v:=?vo6) (w1:=w5.setCell ⟨g,i * 9 + 4,none⟩ (.int .i64 kb)) ?hg6 ?ho6 ?hn6 ?hr6 ?_;(case ho6 => rfl);(case hg6 => rfl);(case hn6 => rfl);(case hr6 => first | (go_simp;done) | (go_simp;rfl));intro w6 hw;have HM':=asd (HM.out.put 4 (.int .i64 kb) [.int .i64 ki,.string (mt (ki + 1)),.int .i64 (ki + 2),.slice A3 x.f0.f3.length c3,.int .i64 kb,.string x.f1.f1,.int .i64 x.f1.f2,.slice A7 x.f1.f3.length c7,.string x.f2] rfl (by decide) rfl);rw [← hw] at HM';clear HM hw;have HM:=HM';clear HM';clear hx4 hf4)
    | (go_at_call 68;with_reducible refine (laws_markText.calls kt (kb + 1) (mt (kb + 1)) w6 (HMT.out _ HN2.out.1 HN2.out.2)).mono ?_;rintro e w7 ⟨rfl,hb⟩;have HM':=asd (HM.out.step hb);clear HM;have HM:=HM';clear HM';clear hb;have hx5:=HM.out.at_.1 5 _ rfl;have hf5:=HM.out.at_.2 5)
    | ((with_reducible refine gate_store (t:=9) (p:=59) rfl ?_);refine store_event (t:=9) (p:=59) (v:=?vo8) (w1:=w7.setCell ⟨g,i * 9 + 5,none⟩ (.string (mt (kb + 1)))) ?hg8 ?ho8 ?hn8 ?hr8 ?_;(case ho8 => rfl);(case hg8 => rfl);(case hn8 => rfl);(case hr8 => first | (go_simp;done) | (go_simp;rfl));intro w8 hw;have HM':=asd (HM.out.put 5 (.string (mt (kb + 1))) [.int .i64 ki,.string (mt (ki + 1)),.int .i64 (ki + 2),.slice A3 x.f0.f3.length c3,.int .i64 kb,.string (mt (kb + 1)),.int .i64 x.f1.f2,.slice A7 x.f1.f3.length c7,.string x.f2] rfl (by decide) rfl);rw [← hw] at HM';clear HM hw;have HM:=HM';clear HM';clear hx5 hf5;have hx6:=HM.out.at_.1 6 _ rfl;have hf6:=HM.out.at_.2 6)
    | ((with_reducible refine gate_store (t:=3) (p:=67) rfl ?_);refine store_event (t:=3) (p:=67) (v:=?vo9) (w1:=w8.setCell ⟨g,i * 9 + 6,none⟩ (.int .i64 (kb + 2))) ?hg9 ?ho9 ?hn9 ?hr9 ?_;(case ho9 => rfl);(case hg9 => rfl);(case hn9 => rfl);(case hr9 => first | (go_simp;done) | (go_simp;rfl));intro w9 hw;have HM':=asd (HM.out.put 6 (.int .i64 (kb + 2)) [.int .i64 ki,.string (mt (ki + 1)),.int .i64 (ki + 2),.slice A3 x.f0.f3.length c3,.int .i64 kb,.string (mt (kb + 1)),.int .i64 (kb + 2),.slice A7 x.f1.f3.length c7,.string x.f2] rfl (by decide) rfl);rw [← hw] at HM';clear HM hw;have HM:=HM';clear HM';clear hx6 hf6;have hx7:=HM.out.at_.1 7 _ rfl;have hf7:=HM.out.at_.2 7)
    | (go_at_call 64;with_reducible refine (I7.out A7 c7 (kb + 3) w9 base _ ?s27 ?s37 HM.out.hbs HM.out.h7).mono ?_;(case s27 => exact HP2.out);(case s37 => exact HB2.out);rintro e w10 ⟨he_,hs_,hb_,hk_⟩;have he2_:=he_.trans (congrArg (fun z_ => Ending.returned (Value.int .i64 z_)) HKF.out);clear he_;subst he2_;have HM':=asd (HM.out.mark7 hb_ (mks29_length _ _ _) hs_ hk_);clear HM;have HM:=HM';clear HM';clear hs_ hb_ hk_;clear hx7 hf7)
    | (go_at_call 68;with_reducible refine (laws_markText.calls kt (kf) (mt kf) w10 (HMT.out _ HN3.out.1 HN3.out.2)).mono ?_;rintro e w11 ⟨rfl,hb⟩;have HM':=asd (HM.out.step hb);clear HM;have HM:=HM';clear HM';clear hb;have hx8:=HM.out.at_.1 8 _ rfl;have hf8:=HM.out.at_.2 8)
    | ((with_reducible refine gate_store (t:=9) (p:=83) rfl ?_);refine store_event (t:=9) (p:=83) (v:=?vo12) (w1:=w11.setCell ⟨g,i * 9 + 8,none⟩ (.string (mt kf))) ?hg12 ?ho12 ?hn12 ?hr12 ?_;(case ho12 => rfl);(case hg12 => rfl);(case hn12 => rfl);(case hr12 => first | (go_simp;done) | (go_simp;rfl));intro w12 hw;have HM':=asd (HM.out.put 8 (.string (mt kf)) [.int .i64 ki,.string (mt (ki + 1)),.int .i64 (ki + 2),.slice A3 x.f0.f3.length c3,.int .i64 kb,.string (mt (kb + 1)),.int .i64 (kb + 2),.slice A7 x.f1.f3.length c7,.string (mt kf)] rfl (by decide) rfl);rw [← hw] at HM';clear HM hw;have HM:=HM';clear HM';clear hx8 hf8))
   have hD:=HM.out.done (x:=mk59 mt x ki) (by unfold mk59;rw [mk29_eq]) (by unfold mk59;rw [← HBK.out,mk29_eq,mk29_eq]) (by unfold mk59;rw [mk29_eq,mk29_eq,← HBK.out,← HFK.out,mks29_length,mks29_length])
   rw [HQ.out] at hD
   go_roundg (xs.length - (i + 1))
   case measure => have:=hi.out;omega
   case rel => exact ⟨i + 1,by rw [HW.out],by first|(rw [e7,HE.out])|rw [HE.out],⟨by have:=hi.out;omega⟩,⟨hD⟩,⟨HM.out.below⟩,⟨HM.out.kept⟩⟩
  ·have c3b0 : decide ((i : Int) < (xs.length : Int)) = false:=decide_eq_false hlt
   have c3b1 : decide (i < xs.length) = false:=decide_eq_false (by omega)
   have he : xs.length ≤ i:=by omega
   have hS:=HA.out
   rw [List.take_of_length_le he,List.drop_eq_nil_of_le he,List.append_nil] at hS
   have HZ:=asd hS
   have HE:=asd (List.take_of_length_le he)
   clear hS he
   go_wp2
   go_ret
   exact ⟨by rw [HE.out];rfl,HZ.out,HB.out,HK2.out⟩
end
section
set_option linter.unusedSectionVars false
variable [fk_laws_szTerm] [fk_laws_eqTerm] [fk_spec_l34Term] [fk_strconv_Itoa]
def hc7_T : Bool × List (List Nat × List Nat):=(true,[([],[]),([],[]),([0,1],[0,1]),([2],[2]),([3],[3]),([4],[4]),([],[]),([6],[6]),([5,7],[5,7])])
def hc7_B : List Nat:=[0,0,3,7,15,31,0,64,255]
theorem hc7_tab : rtab .any (opsOf Tryd.f33 7) = hc7_T:=by kernel_rfl
theorem hc7_bits : waitsOk hc7_T.2 hc7_B = true:=by kernel_rfl
def hc19_T : Bool × List (List Nat × List Nat):=(true,[([],[]),([],[]),([0,1],[0,1]),([2],[2]),([3],[3]),([4],[4]),([],[]),([6],[6]),([5,7],[5,7])])
def hc19_B : List Nat:=[0,0,3,7,15,31,0,64,255]
theorem hc19_tab : rtab .any (opsOf Tryd.f33 19) = hc19_T:=by kernel_rfl
theorem hc19_bits : waitsOk hc19_T.2 hc19_B = true:=by kernel_rfl
def hc28_T : Bool × List (List Nat × List Nat):=(true,[([],[]),([],[]),([0,1],[0,1]),([2],[2]),([3],[3]),([],[]),([5],[5]),([4,6],[4,6])])
def hc28_B : List Nat:=[0,0,3,7,15,0,32,127]
theorem hc28_tab : rtab .any (opsOf Tryd.f33 28) = hc28_T:=by kernel_rfl
theorem hc28_bits : waitsOk hc28_T.2 hc28_B = true:=by kernel_rfl
set_option maxHeartbeats 16000000 in
set_option maxRecDepth 100000 in
theorem heldCs_calls (xs : List S48) (ih : ∀ x ∈ xs,HeldOf x.f0.f3 ∧ HeldOf x.f1.f3) (A : Option Addr) (c : Nat) (k : Int) (w : World) (hk : 0 < k) (hk2 : k + (cns59 xs : Int) ≤ 1000000000) (hC : Kd.C k48 w A xs.length (mks59 mtx xs k)) (hc : xs.length ≤ c) :
  Calls Tryd.prog 33 #[.slice A xs.length c,.int .i64 k] w fun e w' => e = .returned (.int .i64 (k + (cns59 xs : Int))) ∧ Below w.heap.size w w':=by
 have IH:=asd ih
 have HC:=asd hC
 have HK:=asd hk2
 have HLX:=asd (cns59_len xs)
 have HB:=asd (Below.refl w.heap.size w)
 clear hC hc hk2 ih
 go_enter Tryd.func33,Tryd.ntmps33
 go_wp2
 go_loopg [1,5] xs.length (fun m v1 v5 w' => ∃ i : Nat,v5 = .int .i64 i ∧ v1 = .int .i64 (k + (cns59 (xs.take i) : Int)) ∧ Aside0 (m + i = xs.length) ∧ Aside0 (Below w.heap.size w w'))
 case atStart => exact ⟨0,rfl,by simp [cns59],⟨by omega⟩,HB⟩
 case round =>
  clear HB
  obtain ⟨i,rfl,rfl,hi,HB⟩:=hrel
  by_cases hlt : (i : Int) < (xs.length : Int)
  ·have c3b0 : decide ((i : Int) < (xs.length : Int)) = true:=decide_eq_true hlt
   have hlt' : i < xs.length:=by omega
   have c3b1 : decide (i < xs.length) = true:=decide_eq_true hlt'
   obtain ⟨ad,A3,c3,A7,c7,e1,hx0,hx1,hx2,hx3,hx4,hx5,hx6,hx7,hx8,hl3,hi3,hl7,hi7⟩:=at_T48 HC.out (i : Int) (by omega) hlt
   subst e1
   have hrd : rd_T48 (mks59 mtx xs k) (i : Int) = mk59 mtx xs[i] (k + (cns59 (xs.take i) : Int)):=by
    rw [← mks59_get mtx xs k i hlt']
    unfold rd_T48
    simp [List.getD,mks59_length,hlt']
   rw [hrd] at hx0 hx1 hx2 hx3 hx4 hx5 hx6 hx7 hx8 hl3 hi3 hl7 hi7
   simp only [Int.toNat_natCast] at hx0 hx1 hx2 hx3 hx4 hx5 hx6 hx7 hx8
   have h3_:=(IH.out xs[i] (List.getElem_mem hlt')).1
   have h7_:=(IH.out xs[i] (List.getElem_mem hlt')).2
   unfold HeldOf at h3_ h7_
   have hcn:=cns59_take xs i hlt'
   have hcl:=cns59_take_le xs (i + 1)
   have h29:=cn29_eq xs[i].f0
   have h29':=cn29_eq xs[i].f1
   unfold cn59 at hcn
   generalize hki : k + (cns59 (xs.take i) : Int) = ki at *
   generalize hx_ : xs[i] = x at *
   unfold mk59 at hx0 hx1 hx2 hx3 hx4 hx5 hx6 hx7 hx8 hl3 hi3 hl7 hi7
   obtain ⟨kb,hkb⟩ : ∃ kb : Int,kb = ki + 3 * (cn29 x.f0 : Int):=⟨_,rfl⟩
   obtain ⟨kf,hkf⟩ : ∃ kf : Int,kf = kb + 3 * (cn29 x.f1 : Int):=⟨_,rfl⟩
   rw [← hkb,mk29_eq,mk29_eq] at hx0 hx1 hx2 hx3 hx4 hx5 hx6 hx7 hx8 hl3 hi3 hl7 hi7
   rw [← hkf] at hx8
   have hkk:=HK.out
   have hlx:=HLX.out
   obtain ⟨kh3,hh3⟩:=Ev.rounds (h3_ (ki + 3) (by omega) (by omega))
   obtain ⟨kh7,hh7⟩:=Ev.rounds (h7_ (kb + 3) (by omega) (by omega))
   rw [show ki + 3 + 3 * (cns29 x.f0.f3 : Int) = kb by omega] at hh3
   rw [show kb + 3 + 3 * (cns29 x.f1.f3 : Int) = kf by omega] at hh7
   obtain ⟨r3,hr3⟩ : ∃ r,r = mks29 mtx x.f0.f3 (ki + 3):=⟨_,rfl⟩
   obtain ⟨r7,hr7⟩ : ∃ r,r = mks29 mtx x.f1.f3 (kb + 3):=⟨_,rfl⟩
   rw [← hr3] at hh3 hx3 hl3 hi3
   rw [← hr7] at hh7 hx7 hl7 hi7
   have HH3:=asd hh3
   have HH7:=asd hh7
   have HX0:=asd hx0
   have HX1:=asd hx1
   have HX2:=asd hx2
   have HX3:=asd hx3
   have HX4:=asd hx4
   have HX5:=asd hx5
   have HX6:=asd hx6
   have HX7:=asd hx7
   have HX8:=asd hx8
   have HI3:=asd hi3
   have HL3:=asd hl3
   have HI7:=asd hi7
   have HL7:=asd hl7
   have HN1:=asd (show 0 < ki + 1 ∧ ki + 1 ≤ 1000000000 by omega)
   have HN5:=asd (show 0 < kb + 1 ∧ kb + 1 ≤ 1000000000 by omega)
   have HN8:=asd (show 0 < kf ∧ kf ≤ 1000000000 by omega)
   have HE:=asd (show kf + 1 = k + (cns59 (xs.take (i + 1)) : Int) by omega)
   have HW:=asd (show wrap64 ((i : Int) + 1) = ((i + 1 : Nat) : Int) by rw [t_wrap (by omega) (by omega)];omega)
   have w1 : ∀ z : Int,0 < z → z ≤ 1000000000 → wrap64 z = z:=fun z h1 h2 => t_wrap (by omega) (by omega)
   have b1 : decide (kb < 0) = false:=decide_eq_false (by omega)
   have b2 : decide (kf < 0) = false:=decide_eq_false (by omega)
   have b3 : (kb < 0) = False:=eq_false (by omega)
   have b4 : (kf < 0) = False:=eq_false (by omega)
   have e1:=w1 (ki + 1) (by omega) (by omega)
   have e2:=w1 (ki + 2) (by omega) (by omega)
   have e3:=w1 (ki + 3) (by omega) (by omega)
   have e4:=w1 (kb + 1) (by omega) (by omega)
   have e5:=w1 (kb + 2) (by omega) (by omega)
   have e6:=w1 (kb + 3) (by omega) (by omega)
   have e7:=w1 (kf + 1) (by omega) (by omega)
   have a1 : ki + 1 + 1 = ki + 2:=by omega
   have a2 : ki + 2 + 1 = ki + 3:=by omega
   have a3 : kb + 1 + 1 = kb + 2:=by omega
   have a4 : kb + 2 + 1 = kb + 3:=by omega
   clear hx_ hcn hcl h29 h29' hki hkb hkf hkk hlx w1 hh3 hh7 h3_ h7_ hr3 hr7 hi3 hl3 hi7 hl7 hrd hx0 hx1 hx2 hx3 hx4 hx5 hx6 hx7 hx8
   have hx0 : wr.cell? (ad.add (i * 9)) = some (.int .i64 ki):=pw_cell_below HB.out HX0.out
   go_wp2
   have q_:=asd (below_drew1 HB.out)
   clear HB
   have HB:=q_
   clear q_
   clear hx0
   refine start_ (n:=9) (S:=fun w' => w'.cell? ⟨(ad.add (i * 9)).block,(ad.add (i * 9)).off + 1,none⟩ = some (.string (mtx (ki + 1)))) (ds:=[]) #[false,false,false,false,false,false,false,false,false] (by kernel_rfl) rfl rfl (pw_cell_below HB.out HX1.out) (fun hHeld => ?_);refine with_tabW hc7_tab hc7_bits (fun HT_ HW_ => ?_)
   generalize wr.drew = w1 at HB hHeld ⊢
   refine pure_ (i:=0) (N:=some 22) (v:=?_) (a':=?_) #[true,false,false,false,false,false,false,false,false] rfl rfl (any_of HT_.out (by kernel_rfl)) (fun _ _ _ h => h) (Or.inl ⟨by rfl,?_⟩) ?_ ?_
   rotate_left
   ·intro w'
    go_simp
    with_reducible rfl
   rotate_left
   ·simp only [Act.put,List.setIfInBounds_toArray,List.set_cons_zero,List.set_cons_succ,i64_w,i32_w]
    rfl
   refine pure_ (i:=1) (N:=some 23) (v:=?_) (a':=?_) #[true,true,false,false,false,false,false,false,false] rfl rfl (any_of HT_.out (by kernel_rfl)) (fun _ _ _ h => h) (Or.inl ⟨by rfl,?_⟩) ?_ ?_
   rotate_left
   ·intro w'
    go_simp
    with_reducible rfl
   rotate_left
   ·simp only [Act.put,List.setIfInBounds_toArray,List.set_cons_zero,List.set_cons_succ,i64_w,i32_w]
    rfl
   refine pure_ (i:=2) (N:=some 24) (v:=?_) (a':=?_) #[true,true,true,false,false,false,false,false,false] rfl rfl (any_of HT_.out (by kernel_rfl)) (fun _ _ _ h => h) (Or.inl ⟨by rfl,?_⟩) ?_ ?_
   rotate_left
   ·intro w'
    go_simp
    with_reducible rfl
   rotate_left
   ·simp only [Act.put,List.setIfInBounds_toArray,List.set_cons_zero,List.set_cons_succ,i64_w,i32_w]
    rfl
   refine pure_ (i:=3) (N:=some 25) (v:=?_) (a':=?_) #[true,true,true,true,false,false,false,false,false] rfl rfl (any_of HT_.out (by kernel_rfl)) (fun _ _ _ h => h) (Or.inl ⟨by rfl,?_⟩) ?_ ?_
   rotate_left
   ·intro w'
    go_simp
    with_reducible rfl
   rotate_left
   ·simp only [Act.put,List.setIfInBounds_toArray,List.set_cons_zero,List.set_cons_succ,i64_w,i32_w]
    rfl
   refine pure_ (i:=4) (N:=some 26) (v:=?_) (a':=?_) #[true,true,true,true,true,false,false,false,false] rfl rfl (any_of HT_.out (by kernel_rfl)) (fun _ _ _ h => h) (Or.inl ⟨by rfl,?_⟩) ?_ ?_
   rotate_left
   ·intro w'
    go_simp
    with_reducible rfl
   rotate_left
   ·simp only [Act.put,List.setIfInBounds_toArray,List.set_cons_zero,List.set_cons_succ,i64_w,i32_w]
    rfl
   refine take_ (i:=5) (N:=some 27) (v:=?_) (a':=?_) #[true,true,true,true,true,true,false,false,false] rfl rfl (take_ofW HT_.out HW_.out (by kernel_rfl)) (fun _ _ _ h => h) (Or.inl ⟨by rfl,?_⟩) hHeld ?_ ?_
   rotate_left
   ·rintro w' s0
    go_simp
    with_reducible rfl
   rotate_left
   ·simp only [Act.put,List.setIfInBounds_toArray,List.set_cons_zero,List.set_cons_succ,i64_w,i32_w]
    rfl
   refine pure_ (i:=6) (N:=some 28) (v:=?_) (a':=?_) #[true,true,true,true,true,true,true,false,false] rfl rfl (any_of HT_.out (by kernel_rfl)) (fun _ _ _ h => h) (Or.inl ⟨by rfl,?_⟩) ?_ ?_
   rotate_left
   ·intro w'
    go_simp
    with_reducible rfl
   rotate_left
   ·simp only [Act.put,List.setIfInBounds_toArray,List.set_cons_zero,List.set_cons_succ,i64_w,i32_w]
    rfl
   refine one_ (i:=7) (N:=some 29) #[true,true,true,true,true,true,true,true,false] rfl rfl (one_of HT_.out (by kernel_rfl)) (by decide) (fun K hK => ?_)
   refine goes_ Tryd.func68 (by kernel_rfl) rfl #[.int .i64 (ki + 1)] (by rfl) rfl rfl (by (try simp only [List.map_toArray,List.map_cons,List.map_nil]);first|done|rfl) ?_
   refine (laws_markText.calls 11 (ki + 1) (mtx (ki + 1)) _ (mtx_ok _ HN1.out.1 HN1.out.2)).mono ?_
   rintro e w2 ⟨rfl,hb⟩
   refine ⟨_,rfl,?_⟩
   have q_:=asd (below_step HB.out hb)
   clear HB
   have HB:=q_
   clear q_
   clear hb
   refine hK.out _ _ (pw_cell_below HB.out HX1.out) (fun hHeld => ?_)
   clear hK K
   refine norm_ (a':=?_) ?_ ?_
   rotate_left
   ·show Act.put _ (some 29) _ = _
    simp only [Act.put,List.setIfInBounds_toArray,List.set_cons_zero,List.set_cons_succ,i64_w,i32_w]
    rfl
   refine pure_ (i:=8) (N:=some 30) (v:=?_) (a':=?_) #[true,true,true,true,true,true,true,true,true] rfl rfl (any_of HT_.out (by kernel_rfl)) (fun _ _ _ h => h) (Or.inl ⟨by rfl,?_⟩) ?_ ?_
   rotate_left
   ·intro w'
    go_simp
    with_reducible rfl
   rotate_left
   ·simp only [Act.put,List.setIfInBounds_toArray,List.set_cons_zero,List.set_cons_succ,i64_w,i32_w]
    rfl
   refine done_ (done_of HT_.out (by kernel_rfl)) ?_
   have hx2 : w2.cell? ⟨(ad.add (i * 9)).block,(ad.add (i * 9)).off + 2,none⟩ = some (.int .i64 (ki + 2)):=pw_cell_below HB.out HX2.out
   have hx3 : w2.cell? ⟨(ad.add (i * 9)).block,(ad.add (i * 9)).off + 3,none⟩ = some (.slice A3 r3.length c3):=pw_cell_below HB.out HX3.out
   go_wp2_with (first
    | (go_at_call 69;with_reducible refine (laws_heldTermS.calls kh3 A3 c3 r3 (ki + 3) kb w2 ?s1 ?s2 HH3.out).mono ?_;(case s1 => exact Kd.C_below HI3.out HB.out);(case s2 => exact HL3.out);rintro e w3 ⟨rfl,hb⟩;have q_:=asd (below_step HB.out hb);clear HB;have HB:=q_;clear q_;clear hb;clear hx2 hx3;have hx4 : w3.cell? ⟨(ad.add (i * 9)).block,(ad.add (i * 9)).off + 4,none⟩ = some (.int .i64 kb):=pw_cell_below HB.out HX4.out))
   have q_:=asd (below_drew1 HB.out)
   clear HB
   have HB:=q_
   clear q_
   clear hx4
   refine start_ (n:=9) (S:=fun w' => w'.cell? ⟨(ad.add (i * 9)).block,(ad.add (i * 9)).off + 5,none⟩ = some (.string (mtx (kb + 1)))) (ds:=[]) #[false,false,false,false,false,false,false,false,false] (by kernel_rfl) rfl rfl (pw_cell_below HB.out HX5.out) (fun hHeld => ?_);refine with_tabW hc19_tab hc19_bits (fun HT_ HW_ => ?_)
   generalize w3.drew = w4 at HB hHeld ⊢
   refine pure_ (i:=0) (N:=some 63) (v:=?_) (a':=?_) #[true,false,false,false,false,false,false,false,false] rfl rfl (any_of HT_.out (by kernel_rfl)) (fun _ _ _ h => h) (Or.inl ⟨by rfl,?_⟩) ?_ ?_
   rotate_left
   ·intro w'
    go_simp
    with_reducible rfl
   rotate_left
   ·simp only [Act.put,List.setIfInBounds_toArray,List.set_cons_zero,List.set_cons_succ,i64_w,i32_w]
    rfl
   refine pure_ (i:=1) (N:=some 64) (v:=?_) (a':=?_) #[true,true,false,false,false,false,false,false,false] rfl rfl (any_of HT_.out (by kernel_rfl)) (fun _ _ _ h => h) (Or.inl ⟨by rfl,?_⟩) ?_ ?_
   rotate_left
   ·intro w'
    go_simp
    with_reducible rfl
   rotate_left
   ·simp only [Act.put,List.setIfInBounds_toArray,List.set_cons_zero,List.set_cons_succ,i64_w,i32_w]
    rfl
   refine pure_ (i:=2) (N:=some 65) (v:=?_) (a':=?_) #[true,true,true,false,false,false,false,false,false] rfl rfl (any_of HT_.out (by kernel_rfl)) (fun _ _ _ h => h) (Or.inl ⟨by rfl,?_⟩) ?_ ?_
   rotate_left
   ·intro w'
    go_simp
    with_reducible rfl
   rotate_left
   ·simp only [Act.put,List.setIfInBounds_toArray,List.set_cons_zero,List.set_cons_succ,i64_w,i32_w]
    rfl
   refine pure_ (i:=3) (N:=some 66) (v:=?_) (a':=?_) #[true,true,true,true,false,false,false,false,false] rfl rfl (any_of HT_.out (by kernel_rfl)) (fun _ _ _ h => h) (Or.inl ⟨by rfl,?_⟩) ?_ ?_
   rotate_left
   ·intro w'
    go_simp
    with_reducible rfl
   rotate_left
   ·simp only [Act.put,List.setIfInBounds_toArray,List.set_cons_zero,List.set_cons_succ,i64_w,i32_w]
    rfl
   refine pure_ (i:=4) (N:=some 67) (v:=?_) (a':=?_) #[true,true,true,true,true,false,false,false,false] rfl rfl (any_of HT_.out (by kernel_rfl)) (fun _ _ _ h => h) (Or.inl ⟨by rfl,?_⟩) ?_ ?_
   rotate_left
   ·intro w'
    go_simp
    with_reducible rfl
   rotate_left
   ·simp only [Act.put,List.setIfInBounds_toArray,List.set_cons_zero,List.set_cons_succ,i64_w,i32_w]
    rfl
   refine take_ (i:=5) (N:=some 68) (v:=?_) (a':=?_) #[true,true,true,true,true,true,false,false,false] rfl rfl (take_ofW HT_.out HW_.out (by kernel_rfl)) (fun _ _ _ h => h) (Or.inl ⟨by rfl,?_⟩) hHeld ?_ ?_
   rotate_left
   ·rintro w' s0
    go_simp
    with_reducible rfl
   rotate_left
   ·simp only [Act.put,List.setIfInBounds_toArray,List.set_cons_zero,List.set_cons_succ,i64_w,i32_w]
    rfl
   refine pure_ (i:=6) (N:=some 69) (v:=?_) (a':=?_) #[true,true,true,true,true,true,true,false,false] rfl rfl (any_of HT_.out (by kernel_rfl)) (fun _ _ _ h => h) (Or.inl ⟨by rfl,?_⟩) ?_ ?_
   rotate_left
   ·intro w'
    go_simp
    with_reducible rfl
   rotate_left
   ·simp only [Act.put,List.setIfInBounds_toArray,List.set_cons_zero,List.set_cons_succ,i64_w,i32_w]
    rfl
   refine one_ (i:=7) (N:=some 70) #[true,true,true,true,true,true,true,true,false] rfl rfl (one_of HT_.out (by kernel_rfl)) (by decide) (fun K hK => ?_)
   refine goes_ Tryd.func68 (by kernel_rfl) rfl #[.int .i64 (kb + 1)] (by rfl) rfl rfl (by (try simp only [List.map_toArray,List.map_cons,List.map_nil]);first|done|rfl) ?_
   refine (laws_markText.calls 11 (kb + 1) (mtx (kb + 1)) _ (mtx_ok _ HN5.out.1 HN5.out.2)).mono ?_
   rintro e w5 ⟨rfl,hb⟩
   refine ⟨_,rfl,?_⟩
   have q_:=asd (below_step HB.out hb)
   clear HB
   have HB:=q_
   clear q_
   clear hb
   refine hK.out _ _ (pw_cell_below HB.out HX5.out) (fun hHeld => ?_)
   clear hK K
   refine norm_ (a':=?_) ?_ ?_
   rotate_left
   ·show Act.put _ (some 70) _ = _
    simp only [Act.put,List.setIfInBounds_toArray,List.set_cons_zero,List.set_cons_succ,i64_w,i32_w]
    rfl
   refine pure_ (i:=8) (N:=some 71) (v:=?_) (a':=?_) #[true,true,true,true,true,true,true,true,true] rfl rfl (any_of HT_.out (by kernel_rfl)) (fun _ _ _ h => h) (Or.inl ⟨by rfl,?_⟩) ?_ ?_
   rotate_left
   ·intro w'
    go_simp
    with_reducible rfl
   rotate_left
   ·simp only [Act.put,List.setIfInBounds_toArray,List.set_cons_zero,List.set_cons_succ,i64_w,i32_w]
    rfl
   refine done_ (done_of HT_.out (by kernel_rfl)) ?_
   have hx6 : w5.cell? ⟨(ad.add (i * 9)).block,(ad.add (i * 9)).off + 6,none⟩ = some (.int .i64 (kb + 2)):=pw_cell_below HB.out HX6.out
   have hx7 : w5.cell? ⟨(ad.add (i * 9)).block,(ad.add (i * 9)).off + 7,none⟩ = some (.slice A7 r7.length c7):=pw_cell_below HB.out HX7.out
   go_wp2_with (first
    | (go_at_call 69;with_reducible refine (laws_heldTermS.calls kh7 A7 c7 r7 (kb + 3) kf w5 ?s1 ?s2 HH7.out).mono ?_;(case s1 => exact Kd.C_below HI7.out HB.out);(case s2 => exact HL7.out);rintro e w6 ⟨rfl,hb⟩;have q_:=asd (below_step HB.out hb);clear HB;have HB:=q_;clear q_;clear hb;clear hx6 hx7))
   have q_:=asd (below_drew1 HB.out)
   clear HB
   have HB:=q_
   clear q_
   refine start_ (n:=8) (S:=fun w' => w'.cell? ⟨(ad.add (i * 9)).block,(ad.add (i * 9)).off + 8,none⟩ = some (.string (mtx kf))) (ds:=[]) #[false,false,false,false,false,false,false,false] (by kernel_rfl) rfl rfl (pw_cell_below HB.out HX8.out) (fun hHeld => ?_);refine with_tabW hc28_tab hc28_bits (fun HT_ HW_ => ?_)
   generalize w6.drew = w7 at HB hHeld ⊢
   refine pure_ (i:=0) (N:=some 94) (v:=?_) (a':=?_) #[true,false,false,false,false,false,false,false] rfl rfl (any_of HT_.out (by kernel_rfl)) (fun _ _ _ h => h) (Or.inl ⟨by rfl,?_⟩) ?_ ?_
   rotate_left
   ·intro w'
    go_simp
    with_reducible rfl
   rotate_left
   ·simp only [Act.put,List.setIfInBounds_toArray,List.set_cons_zero,List.set_cons_succ,i64_w,i32_w]
    rfl
   refine pure_ (i:=1) (N:=some 95) (v:=?_) (a':=?_) #[true,true,false,false,false,false,false,false] rfl rfl (any_of HT_.out (by kernel_rfl)) (fun _ _ _ h => h) (Or.inl ⟨by rfl,?_⟩) ?_ ?_
   rotate_left
   ·intro w'
    go_simp
    with_reducible rfl
   rotate_left
   ·simp only [Act.put,List.setIfInBounds_toArray,List.set_cons_zero,List.set_cons_succ,i64_w,i32_w]
    rfl
   refine pure_ (i:=2) (N:=some 96) (v:=?_) (a':=?_) #[true,true,true,false,false,false,false,false] rfl rfl (any_of HT_.out (by kernel_rfl)) (fun _ _ _ h => h) (Or.inl ⟨by rfl,?_⟩) ?_ ?_
   rotate_left
   ·intro w'
    go_simp
    with_reducible rfl
   rotate_left
   ·simp only [Act.put,List.setIfInBounds_toArray,List.set_cons_zero,List.set_cons_succ,i64_w,i32_w]
    rfl
   refine pure_ (i:=3) (N:=some 97) (v:=?_) (a':=?_) #[true,true,true,true,false,false,false,false] rfl rfl (any_of HT_.out (by kernel_rfl)) (fun _ _ _ h => h) (Or.inl ⟨by rfl,?_⟩) ?_ ?_
   rotate_left
   ·intro w'
    go_simp
    with_reducible rfl
   rotate_left
   ·simp only [Act.put,List.setIfInBounds_toArray,List.set_cons_zero,List.set_cons_succ,i64_w,i32_w]
    rfl
   refine take_ (i:=4) (N:=some 98) (v:=?_) (a':=?_) #[true,true,true,true,true,false,false,false] rfl rfl (take_ofW HT_.out HW_.out (by kernel_rfl)) (fun _ _ _ h => h) (Or.inl ⟨by rfl,?_⟩) hHeld ?_ ?_
   rotate_left
   ·rintro w' s0
    go_simp
    with_reducible rfl
   rotate_left
   ·simp only [Act.put,List.setIfInBounds_toArray,List.set_cons_zero,List.set_cons_succ,i64_w,i32_w]
    rfl
   refine pure_ (i:=5) (N:=some 99) (v:=?_) (a':=?_) #[true,true,true,true,true,true,false,false] rfl rfl (any_of HT_.out (by kernel_rfl)) (fun _ _ _ h => h) (Or.inl ⟨by rfl,?_⟩) ?_ ?_
   rotate_left
   ·intro w'
    go_simp
    with_reducible rfl
   rotate_left
   ·simp only [Act.put,List.setIfInBounds_toArray,List.set_cons_zero,List.set_cons_succ,i64_w,i32_w]
    rfl
   refine one_ (i:=6) (N:=some 100) #[true,true,true,true,true,true,true,false] rfl rfl (one_of HT_.out (by kernel_rfl)) (by decide) (fun K hK => ?_)
   refine goes_ Tryd.func68 (by kernel_rfl) rfl #[.int .i64 (kf)] (by rfl) rfl rfl (by (try simp only [List.map_toArray,List.map_cons,List.map_nil]);first|done|rfl) ?_
   refine (laws_markText.calls 11 (kf) (mtx (kf)) _ (mtx_ok _ HN8.out.1 HN8.out.2)).mono ?_
   rintro e w8 ⟨rfl,hb⟩
   refine ⟨_,rfl,?_⟩
   have q_:=asd (below_step HB.out hb)
   clear HB
   have HB:=q_
   clear q_
   clear hb
   refine hK.out _ _ (pw_cell_below HB.out HX8.out) (fun hHeld => ?_)
   clear hK K
   refine norm_ (a':=?_) ?_ ?_
   rotate_left
   ·show Act.put _ (some 100) _ = _
    simp only [Act.put,List.setIfInBounds_toArray,List.set_cons_zero,List.set_cons_succ,i64_w,i32_w]
    rfl
   refine pure_ (i:=7) (N:=some 101) (v:=?_) (a':=?_) #[true,true,true,true,true,true,true,true] rfl rfl (any_of HT_.out (by kernel_rfl)) (fun _ _ _ h => h) (Or.inl ⟨by rfl,?_⟩) ?_ ?_
   rotate_left
   ·intro w'
    go_simp
    with_reducible rfl
   rotate_left
   ·simp only [Act.put,List.setIfInBounds_toArray,List.set_cons_zero,List.set_cons_succ,i64_w,i32_w]
    rfl
   refine done_ (done_of HT_.out (by kernel_rfl)) ?_
   try go_wp2
   go_roundg (xs.length - (i + 1))
   case measure => have:=hi.out;omega
   case rel => exact ⟨i + 1,by rw [HW.out],by first|(rw [e7,HE.out])|rw [HE.out],⟨by have:=hi.out;omega⟩,HB⟩
  ·have c3b0 : decide ((i : Int) < (xs.length : Int)) = false:=decide_eq_false hlt
   have c3b1 : decide (i < xs.length) = false:=decide_eq_false (by omega)
   have HE:=asd (List.take_of_length_le (show xs.length ≤ i by omega))
   go_wp2
   go_ret
   exact ⟨by rw [HE.out];rfl,HB.out⟩
end
section
set_option linter.unusedSectionVars false
variable [fk_laws_szTerm] [fk_laws_eqTerm] [fk_spec_l34Term] [fk_strconv_Itoa]
set_option maxHeartbeats 16000000 in
set_option maxRecDepth 100000 in
theorem markDb_calls (mt : Int → ByteArray) (kt : Nat) (hmt : ∀ n : Int,0 < n → n ≤ 1000000000 → laws_markText.f kt n = some (mt n)) (xs : List S48) (os : List ByteArray) (ih : ∀ x ∈ xs,MarkOf mt x.f0.f3 ∧ MarkOf mt x.f1.f3) (k : Int) (hk : 0 < k) (hk2 : k + (cns59 xs : Int) + (os.length : Int) ≤ 1000000000) (w u : World) (ok : Nat → Prop) (A : Option Addr) (c : Nat) (B : Option Addr) (d : Nat)
  (old : Below w.heap.size w u) (lo : ∀ j,ok j → w.heap.size ≤ j) (hA : (adb (.slice A xs.length c) xs (.slice B os.length d) os).M w.heap.size u ok) :
  Calls Tryd.prog 31 #[.agg #[.slice A xs.length c,.slice B os.length d],.int .i64 k] u fun e u' => e = .returned (.int .i64 (k + (cns59 xs : Int) + (os.length : Int))) ∧ (adb (.slice A xs.length c) (mks59 mt xs k) (.slice B os.length d) (mkS mt os (k + (cns59 xs : Int)))).M w.heap.size u' (fun j => ok j ∨ u.heap.size ≤ j) ∧ Below w.heap.size u u' ∧ Kept u u' ok:=by
 have HR:=asd (run_fun old lo hA)
 have HMT:=asd hmt
 have IH:=asd ih
 have HK:=asd hk
 have HK1:=asd (show k + (cns59 xs : Int) ≤ 1000000000 by omega)
 have HK2:=asd (show 0 < k + (cns59 xs : Int) by omega)
 have HK3:=asd hk2
 clear old lo hA hmt ih hk hk2
 go_enter Tryd.func31,Tryd.ntmps31
 go_wp2_with (first
  | ((with_reducible refine gate_dst (N:=2) rfl ?_);refine box_event ?hg2 (N:=2) ?hd2 (cs:=#[.slice A xs.length c,.slice B os.length d]) (t:=41) ?hr2 ?_;(case hd2 => rfl);(case hg2 => rfl);(case hr2 => first | (go_simp;done) | (go_simp;rfl));intro ga hg w1 hbox hb;replace HR:=asd (HR.out.box hg hb hbox);clear hg hbox hb;have hc1_ga_0 : w1.cell? ⟨ga,0,none⟩ = some (.slice A xs.length c):=HR.out.cell 0 rfl 0 rfl;have hc1_ga_1 : w1.cell? ⟨ga,1,none⟩ = some (.slice B os.length d):=HR.out.cell 0 rfl 1 rfl)
  | (go_at_call 32;have HRp:=asd (HR.out.part 1 rfl);obtain ⟨oki,hi,hlo,hput⟩:=HRp.out.all 2 rfl;refine (markCs_calls mt kt HMT.out xs IH.out A c k w1 w.heap.size oki HK.out HK1.out HRp.out.ww hi).mono ?_;rintro e w2 ⟨rfl,hs,hb,hk2⟩;replace HR:=asd (hput _ (As.row kD59 48 (.slice A xs.length c) (mks59 mt xs k)) hb hk2 (Kd.S_mono hs (fun _ h_ => .inl h_)));clear hb hs hk2 hi hlo hput HRp oki;clear hc1_ga_0 hc1_ga_1;have hc2_ga_0 : w2.cell? ⟨ga,0,none⟩ = some (.slice A xs.length c):=HR.out.cell 1 rfl 0 rfl;have hc2_ga_1 : w2.cell? ⟨ga,1,none⟩ = some (.slice B os.length d):=HR.out.cell 1 rfl 1 rfl)
  | (go_at_call 67;obtain ⟨oki,hi,hlo,hput⟩:=HR.out.all 0 rfl;refine (markS_calls mt kt HMT.out os (k + (cns59 xs : Int)) HK2.out HK3.out B d w2 w.heap.size oki HR.out.ww hi).mono ?_;rintro e w3 ⟨rfl,hs,hb,hk2⟩;replace HR:=asd (hput _ (As.rrow Kd.string 9 (.slice B os.length d) (mkS mt os (k + (cns59 xs : Int)))) hb hk2 (Kd.R_mono hs (fun _ h_ => .inl h_)));clear hb hs hk2 hi hlo hput oki;clear hc2_ga_0 hc2_ga_1))
 go_ret
 exact ⟨rfl,HR.out.two 2 0 rfl rfl (by decide),HR.out.below,HR.out.kept⟩
theorem heldS_ok (os : List ByteArray) (k0 : Int) (h0 : 0 < k0) (h1 : k0 + (os.length : Int) ≤ 1000000000) : ∃ kk,laws_heldStringS.f kk (mkS mtx os k0) k0 = some (k0 + (os.length : Int)):=by
 have hl : ∀ (m i : Nat),i ≤ os.length → os.length - i = m → Ev (fun k => laws_heldStringS.l0 k (mkS mtx os k0) (k0 + i) i) (k0 + (os.length : Int)):=by
  intro m
  induction m with
  | zero =>
   intro i hi hd
   refine Ev.step (f:=fun _ => some (k0 + (os.length : Int))) (fun k => ?_) (Ev.now _)
   simp only [laws_heldStringS.l0]
   rw [if_neg (by rw [mkS_length];omega),show i = os.length by omega]
  | succ m ihm =>
   intro i hi hd
   have hlt : i < os.length:=by omega
   have hrd : rdOf ByteArray.empty (mkS mtx os k0) (i : Int) = mtx (k0 + i):=by
    rw [← mkS_get mtx os k0 i hlt]
    unfold rdOf
    simp [List.getD,mkS_length,hlt]
   refine Ev.step (f:=fun k => (laws_markText.f k (k0 + i)).bind fun t => if (mtx (k0 + i)).toList = t.toList then laws_heldStringS.l0 k (mkS mtx os k0) (k0 + ((i + 1 : Nat) : Int)) ((i + 1 : Nat) : Int) else some (-1)) (fun k => ?_) ?_
   ·simp only [laws_heldStringS.l0]
    rw [if_pos (by rw [mkS_length];omega),if_pos (by omega),hrd,t_wrap (by omega) (by omega),t_wrap (by omega) (by omega),show k0 + (i : Int) + 1 = k0 + ((i + 1 : Nat) : Int) by push_cast;omega,show (i : Int) + 1 = ((i + 1 : Nat) : Int) by omega]
   ·refine Ev.bind (f:=fun k t => if (mtx (k0 + i)).toList = t.toList then laws_heldStringS.l0 k (mkS mtx os k0) (k0 + ((i + 1 : Nat) : Int)) ((i + 1 : Nat) : Int) else some (-1)) (mtx_ev (k0 + i) (by omega) (by omega)) ?_
    exact Ev.congr (fun k => if_pos rfl) (ihm (i + 1) (by omega) (by omega))
 have h2 : Ev (fun k => laws_heldStringS.f k (mkS mtx os k0) k0) (k0 + (os.length : Int)):=by
  unfold laws_heldStringS.f
  have:=hl os.length 0 (by omega) (by omega)
  simpa using this
 exact Ev.rounds h2
theorem heldS_calls (kk : Nat) (zs : List ByteArray) (n : Nat) (k r : Int) (B : Option Addr) (d : Nat) (w : World) (hD : Kd.C Kd.string w B zs.length zs) (hd : zs.length ≤ d) (hn : zs.length = n) (h : laws_heldStringS.f kk zs k = some r) : Calls Tryd.prog 73 #[.slice B n d,.int .i64 k] w fun e w' => e = .returned (.int .i64 r) ∧ Below w.heap.size w w':=by
 subst hn
 exact laws_heldStringS.calls kk B d zs k r w hD hd h
set_option maxHeartbeats 16000000 in
set_option maxRecDepth 100000 in
theorem heldDb_calls (xs : List S48) (os : List ByteArray) (ih : ∀ x ∈ xs,HeldOf x.f0.f3 ∧ HeldOf x.f1.f3) (k : Int) (hk : 0 < k) (hk2 : k + (cns59 xs : Int) + (os.length : Int) ≤ 1000000000) (w : World) (A : Option Addr) (c : Nat) (B : Option Addr) (d : Nat) (hC : Kd.C k48 w A xs.length (mks59 mtx xs k)) (hc : xs.length ≤ c) (hD : Kd.C Kd.string w B os.length (mkS mtx os (k + (cns59 xs : Int)))) (hd : os.length ≤ d) :
  Calls Tryd.prog 38 #[.agg #[.slice A xs.length c,.slice B os.length d],.int .i64 k] w fun e w' => e = .returned (.int .i64 (k + (cns59 xs : Int) + (os.length : Int))) ∧ Below w.heap.size w w':=by
 obtain ⟨kk,hh⟩:=heldS_ok os (k + (cns59 xs : Int)) (by omega) hk2
 have HR:=asd (run_law w)
 have IH:=asd ih
 have HC:=asd hC
 have HCC:=asd hc
 have HD:=asd hD
 obtain ⟨zs,hzs⟩ : ∃ zs,zs = mkS mtx os (k + (cns59 xs : Int)):=⟨_,rfl⟩
 have hzl : zs.length = os.length:=by rw [hzs,mkS_length]
 rw [← hzs] at hh hD
 have HH:=asd hh
 have HDZ:=asd (show Kd.C Kd.string w B zs.length zs by rw [hzl];exact hD)
 have HDD:=asd (show zs.length ≤ d by rw [hzl];exact hd)
 have HK:=asd hk
 have HK1:=asd (show k + (cns59 xs : Int) ≤ 1000000000 by omega)
 have b1 : decide (k + (cns59 xs : Int) < 0) = false:=decide_eq_false (by omega)
 have b2 : decide (k + (cns59 xs : Int) + (os.length : Int) < 0) = false:=decide_eq_false (by omega)
 have b3 : (k + (cns59 xs : Int) < 0) = False:=eq_false (by omega)
 have b4 : (k + (cns59 xs : Int) + (os.length : Int) < 0) = False:=eq_false (by omega)
 have HZL:=asd hzl
 clear hC hc hD hd hk hk2 ih hh hzs hzl
 go_enter Tryd.func38,Tryd.ntmps38
 go_wp2_with (first
  | ((with_reducible refine gate_dst (N:=2) rfl ?_);refine box_event ?hg2 (N:=2) ?hd2 (cs:=#[.slice A xs.length c,.slice B os.length d]) (t:=41) ?hr2 ?_;(case hd2 => rfl);(case hg2 => rfl);(case hr2 => first | (go_simp;done) | (go_simp;rfl));intro ga hg w1 hbox hb;replace HR:=asd (HR.out.box hg hb hbox);clear hg hbox hb;have hc1_ga_0 : w1.cell? ⟨ga,0,none⟩ = some (.slice A xs.length c):=HR.out.cell 0 rfl 0 rfl;have hc1_ga_1 : w1.cell? ⟨ga,1,none⟩ = some (.slice B os.length d):=HR.out.cell 0 rfl 1 rfl)
  | (go_at_call 33;refine (heldCs_calls xs IH.out A c k w1 HK.out HK1.out (Kd.C_below HC.out HR.out.bel) HCC.out).mono ?_;rintro e w2 ⟨rfl,hb⟩;replace HR:=asd (HR.out.step hb);clear hb;clear hc1_ga_0 hc1_ga_1;have hc2_ga_0 : w2.cell? ⟨ga,0,none⟩ = some (.slice A xs.length c):=HR.out.cell 0 rfl 0 rfl;have hc2_ga_1 : w2.cell? ⟨ga,1,none⟩ = some (.slice B os.length d):=HR.out.cell 0 rfl 1 rfl)
  | (go_at_call 73;refine (heldS_calls kk zs os.length (k + (cns59 xs : Int)) (k + (cns59 xs : Int) + (os.length : Int)) B d w2 (Kd.C_below HDZ.out HR.out.bel) HDD.out HZL.out HH.out).mono ?_;rintro e w3 ⟨rfl,hb⟩;replace HR:=asd (HR.out.step hb);clear hb;clear hc2_ga_0 hc2_ga_1))
 go_ret
 exact ⟨rfl,HR.out.bel⟩
end
end Go.Proofs.YtojedbogbodkiaaDoor.KAd
